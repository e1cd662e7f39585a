/- Triangles, tastes, rooms and pieces: the reference's checks and the program's are the same plain functions. -/
import Derived.Test.YtbbkohmebjcghaaQGx0
import Derived.Test.YtbbkohmebjcghaaQGx1
import Derived.Test.YtbbkohmebjcghaaQGEqs
import Derived.Test.YtbbkohmebjcghaaQGEqsR
namespace Go.Proofs.Ytbbkohmebjcghaa.Cake
open Go.RowKit Go.Proofs.Ytbbkohmebjcghaa.All Go.Proofs.Ytbbkohmebjcghaa.Eqs Go.Proofs.YtbbkohmebjcghaaW.PrintWords Go.Proofs.YtbbkohmebjcghaaW.PrintLast

/-! #### points -/





/-! #### checks of numbers -/
theorem l1In_is (x lo hi : Int) : spec_l1In.f x lo hi = some (inB lo hi x) := by
  unfold spec_l1In.f inB
  by_cases h : lo ≤ x <;> simp [h]
theorem range_any {α : Type} (p : α → Bool) (z : α) (l : List α) : ∀ i d, i + d = l.length → ((List.range' i d).any fun j => p (l.getD j z)) = (l.drop i).any p
  | i, 0, h => by rw [List.drop_of_length_le (by omega)]; rfl
  | i, d + 1, h => by
    have hi : i < l.length := by omega
    rw [List.range'_succ, List.any_cons, range_any p z l (i + 1) d (by omega), List.drop_eq_getElem_cons hi, List.any_cons]
    simp [List.getD, List.getElem?_eq_getElem hi]
theorem any_not_all {α : Type} (p : α → Bool) (l : List α) : (l.any fun x => !p x) = !(l.all p) := by
  induction l with
  | nil => rfl
  | cons a l ih => rw [List.any_cons, List.all_cons, ih]; cases p a <;> simp
theorem anyOut_is (lo hi : Int) (l : List Int) : anyOut lo hi l = !(l.all (inB lo hi)) := by
  unfold anyOut
  rw [range_any (fun x => !inB lo hi x) 0 l 0 l.length (by omega), List.drop_zero, any_not_all]
theorem all_l0 (lo hi : Int) (l : List Int) (hl : l.length < 1152921504606846976) (d : Nat) : ∀ (k i : Nat), i + d = l.length → d < k → spec_l1All.l0 k lo hi l (l.length : Int) i = some ((l.drop i).all (inB lo hi)) := by
  induction d with
  | zero =>
    intro k i hi' hk
    obtain ⟨k, rfl⟩ : ∃ m, k = m + 1 := ⟨k - 1, by omega⟩
    simp only [spec_l1All.l0]; rw [if_neg (by omega), List.drop_of_length_le (by omega)]; rfl
  | succ d ih =>
    intro k i hi' hk
    obtain ⟨k, rfl⟩ : ∃ m, k = m + 1 := ⟨k - 1, by omega⟩
    have hlt : i < l.length := by omega
    simp only [spec_l1All.l0]
    rw [if_pos (by omega), if_pos (by omega), if_pos (by omega), l1In_is, Option.bind_some, List.drop_eq_getElem_cons hlt, List.all_cons, show rd l (i : Int) = l[i] by simp [rd, List.getD, List.getElem?_eq_getElem hlt]]
    cases h : inB lo hi l[i] with
    | false => rw [if_neg (by decide)]; rfl
    | true => rw [if_pos rfl, wrap_id (by omega) (by omega)]; simpa using ih k (i + 1) (by omega) (by omega)
theorem l1All_is (lo hi : Int) (l : List Int) (hl : l.length < 1152921504606846976) (k : Nat) (hk : l.length < k) : spec_l1All.f k l lo hi = some (l.all (inB lo hi)) := by
  unfold spec_l1All.f
  have := all_l0 lo hi l hl l.length k 0 (by omega) hk
  simpa using this
/-- Three lists of so many numbers in 0..most. -/
def three (many most : Int) (ls : List (List Int)) : Bool := decide ((ls.length : Int) = 3) && ls.all fun l => decide ((l.length : Int) = many) && l.all (inB 0 most)
theorem badList_is (many most : Int) (l : List Int) : badList many most l = !(decide ((l.length : Int) = many) && l.all (inB 0 most)) := by
  unfold badList
  rw [anyOut_is]
  by_cases h : (l.length : Int) = many <;> simp [h]
theorem areLists_is (many most : Int) (ls : List (List Int)) : impl_areLists.f ls many most = some (three many most ls) := by
  unfold impl_areLists.f three anyBad
  by_cases h : (ls.length : Int) = 3
  · rw [if_pos h, range_any (badList many most) [] ls 0 ls.length (by omega), List.drop_zero, decide_eq_true h, Bool.true_and]
    have : (ls.any (badList many most)) = ls.any fun l => !(decide ((l.length : Int) = many) && l.all (inB 0 most)) := by
      congr 1; funext l; exact badList_is many most l
    rw [this, any_not_all]; simp
  · rw [if_neg h, decide_eq_false h]; rfl
theorem tastes_l0 (n : Int) (ls : List (List Int)) (hs : Small ls) (d : Nat) : ∀ (k i : Nat), i + d = ls.length → d + 1048578 < k → spec_ckTastes.l0 k n ls (ls.length : Int) i = some ((ls.drop i).all fun l => decide ((l.length : Int) = n) && l.all (inB 0 9)) := by
  have hl := hs.1
  induction d with
  | zero =>
    intro k i hi hk
    obtain ⟨k, rfl⟩ : ∃ m, k = m + 1 := ⟨k - 1, by omega⟩
    simp only [spec_ckTastes.l0]; rw [if_neg (by omega), List.drop_of_length_le (by omega)]; rfl
  | succ d ih =>
    intro k i hi hk
    obtain ⟨k, rfl⟩ : ∃ m, k = m + 1 := ⟨k - 1, by omega⟩
    have hlt : i < ls.length := by omega
    have e : rd_L1 ls (i : Int) = ls[i] := by simp [rd_L1, List.getD, List.getElem?_eq_getElem hlt]
    have hx := hs.2 ls[i] (List.getElem_mem hlt)
    simp only [spec_ckTastes.l0]
    rw [if_pos (by omega), if_pos (by omega), if_pos (by omega), e, List.drop_eq_getElem_cons hlt, List.all_cons]
    by_cases h : (ls[i].length : Int) = n
    · rw [if_pos h, l1All_is _ _ _ (by omega) k (by omega), Option.bind_some, decide_eq_true h, Bool.true_and]
      cases h2 : ls[i].all (inB 0 9) with
      | false => rw [if_neg (by decide)]; rfl
      | true => rw [if_pos rfl, wrap_id (by omega) (by omega)]; simpa using ih k (i + 1) (by omega) (by omega)
    · rw [if_neg h, decide_eq_false h]; rfl
/-- Tastes for a side. -/
def tastesOk (n : Int) (ls : List (List Int)) : Bool := inB 1 8 n && three n 9 ls
theorem spec_tastes (n : Int) (ls : List (List Int)) (hs : Small ls) (k : Nat) (hk : 2097160 < k) : spec_ckTastes.f k n ls = some (tastesOk n ls) := by
  have hl := hs.1
  unfold spec_ckTastes.f spec_meSide.f tastesOk three
  rw [l1In_is]
  simp only [Option.bind_some]
  obtain ⟨k, rfl⟩ : ∃ m, k = m + 1 := ⟨k - 1, by omega⟩
  cases h : inB 1 8 n with
  | false => rw [if_neg (by decide)]; simp [spec_ckTastes.j0]
  | true =>
    rw [if_pos rfl]
    simp only [spec_ckTastes.j0]
    by_cases h3 : (ls.length : Int) = 3
    · rw [show ((ls.length : Int) != 3) = false from bne_eq_false_iff_eq.mpr h3, if_neg (by decide), decide_eq_true h3]
      have := tastes_l0 n ls hs ls.length k 0 (by omega) (by omega)
      rw [show ((0 : Int)) = ((0 : Nat) : Int) from rfl, this]
      simp
    · rw [show ((ls.length : Int) != 3) = true from bne_iff_ne.mpr h3, if_pos rfl, decide_eq_false h3]; simp
theorem impl_tastes (n : Int) (ls : List (List Int)) : impl_areTastes.f n ls = some (tastesOk n ls) := by
  unfold impl_areTastes.f impl_isSide.f tastesOk
  rw [in_is, areLists_is]
  simp only [Option.bind_some]
  cases inB 1 8 n <;> simp







/-! #### pieces for people -/

end Go.Proofs.Ytbbkohmebjcghaa.Cake

