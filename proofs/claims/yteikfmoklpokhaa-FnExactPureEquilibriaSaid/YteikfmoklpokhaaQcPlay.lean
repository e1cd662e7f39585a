/- Sums of products, the greatest, best replies: the reference's and the program's are the same plain functions. -/
import Derived.Test.YteikfmoklpokhaaQcx0
import Derived.Test.YteikfmoklpokhaaQcx5
import Derived.Test.YteikfmoklpokhaaQcEqs
import Derived.Test.YteikfmoklpokhaaQcGame
import Derived.Test.YteikfmoklpokhaaQcWeights
namespace Go.Proofs.Yteikfmoklpokhaa.Games
open Go.RowKit Go.Proofs.Yteikfmoklpokhaa.All Go.Proofs.Yteikfmoklpokhaa.Eqs Go.Proofs.Yteikfmoklpokhaa.L1 Go.Proofs.Yteikfmoklpokhaa.Weights Go.Proofs.YteikfmoklpokhaaW.PrintWords Go.Proofs.YteikfmoklpokhaaW.PrintLast
theorem mul_bd {a b : Int} {A B : Nat} (ha : a.natAbs ≤ A) (hb : b.natAbs ≤ B) : (a * b).natAbs ≤ A * B := by
  rw [Int.natAbs_mul]; exact Nat.mul_le_mul ha hb
/-- The sum of products. -/
def dotP : List Int → List Int → Int
  | a :: x, b :: y => a * b + dotP x y
  | _, _ => 0
theorem rd_getElem {l : List Int} {i : Nat} (h : i < l.length) : rd l (i : Int) = l[i] := by simp [rd, List.getD, List.getElem?_eq_getElem h]

theorem dot_l0 (x y : List Int) (hxy : x.length ≤ y.length) (hx : ∀ v ∈ x, v.natAbs ≤ 9) (hy : ∀ v ∈ y, v.natAbs ≤ 1000000) (hl : x.length ≤ 1000) (d : Nat) : ∀ (k i : Nat) (s : Int), i + d = x.length → d < k → s.natAbs ≤ i * 9000000 → impl_dot.l0 k y s x (x.length : Int) i = some (s + dotP (x.drop i) (y.drop i)) := by
  induction d with
  | zero =>
    intro k i s hi hk hs
    obtain ⟨k, rfl⟩ : ∃ m, k = m + 1 := ⟨k - 1, by omega⟩
    simp only [impl_dot.l0]
    rw [if_neg (by omega), List.drop_of_length_le (show x.length ≤ i by omega)]
    simp [dotP]
  | succ d ih =>
    intro k i s hi hk hs
    obtain ⟨k, rfl⟩ : ∃ m, k = m + 1 := ⟨k - 1, by omega⟩
    have h1 : i < x.length := by omega
    have h2 : i < y.length := by omega
    have b1 := mul_bd (hx _ (List.getElem_mem h1)) (hy _ (List.getElem_mem h2))
    simp only [impl_dot.l0]
    rw [if_pos (by omega), if_pos (by omega), if_pos (by omega), if_pos (by omega), rd_getElem h1, rd_getElem h2, List.drop_eq_getElem_cons h1, List.drop_eq_getElem_cons h2]
    simp only [dotP]
    rw [wrap_id (x := x[i] * y[i]) (by omega) (by omega), wrap_id (x := s + x[i] * y[i]) (by omega) (by omega), wrap_id (by omega) (by omega)]
    have := ih k (i + 1) (s + x[i] * y[i]) (by omega) (by omega) (by omega)
    rw [show ((i : Int) + 1) = ((i + 1 : Nat) : Int) by omega, this, Int.add_assoc]
theorem dot_is (x y : List Int) (hxy : x.length ≤ y.length) (hx : ∀ v ∈ x, v.natAbs ≤ 9) (hy : ∀ v ∈ y, v.natAbs ≤ 1000000) (hl : x.length ≤ 1000) (k : Nat) (hk : 1000 < k) : impl_dot.f k x y = some (dotP x y) := by
  unfold impl_dot.f
  have := dot_l0 x y hxy hx hy hl x.length k 0 0 (by omega) (by omega) (by omega)
  simpa using this
/-! #### sums -/




/-! #### the greatest -/
def maxL : List Int → Int
  | [] => 0
  | a :: x => x.foldl mx a
theorem max_l0 (l : List Int) (hl : l.length < 1152921504606846976) (d : Nat) : ∀ (k i : Nat) (m : Int), i + d = l.length → d < k → slices_Max_int_int.l0 k l m i = some ((l.drop i).foldl mx m) := by
  induction d with
  | zero =>
    intro k i m hi hk
    obtain ⟨k, rfl⟩ : ∃ m, k = m + 1 := ⟨k - 1, by omega⟩
    simp only [slices_Max_int_int.l0]
    rw [if_neg (by omega), List.drop_of_length_le (show l.length ≤ i by omega)]
    rfl
  | succ d ih =>
    intro k i m hi hk
    obtain ⟨k, rfl⟩ : ∃ m, k = m + 1 := ⟨k - 1, by omega⟩
    have h1 : i < l.length := by omega
    simp only [slices_Max_int_int.l0]
    rw [if_pos (by omega), if_pos (by omega), rd_getElem h1, List.drop_eq_getElem_cons h1, wrap_id (by omega) (by omega)]
    exact ih k (i + 1) _ (by omega) (by omega)
theorem max_is (l : List Int) (h0 : 0 < l.length) (hl : l.length < 1152921504606846976) (k : Nat) (hk : l.length < k) : slices_Max_int_int.f k l = some (maxL l) := by
  unfold slices_Max_int_int.f
  rw [if_neg (by omega), if_pos (by omega)]
  have := max_l0 l hl (l.length - 1) k 1 (rd l 0) (by omega) (by omega)
  rw [show ((1 : Nat) : Int) = 1 from rfl] at this
  rw [this]
  cases l with
  | nil => simp at h0
  | cons a x => rfl
theorem mx_le (a b c : Int) : mx a b ≤ c ↔ a ≤ c ∧ b ≤ c := by unfold mx; split <;> omega
theorem fold_le (c : Int) : ∀ (x : List Int) (a : Int), x.foldl mx a ≤ c ↔ a ≤ c ∧ ∀ v ∈ x, v ≤ c
  | [], a => by simp
  | b :: x, a => by
    rw [List.foldl_cons, fold_le c x, mx_le]
    simp [and_assoc]
theorem maxL_le (c : Int) (l : List Int) (h0 : 0 < l.length) : maxL l ≤ c ↔ ∀ v ∈ l, v ≤ c := by
  cases l with
  | nil => simp at h0
  | cons a x => simp only [maxL, fold_le]; simp
end Go.Proofs.Yteikfmoklpokhaa.Games

