/- What pieces and rooms are worth to all people: the reference and the program come to the same lists. -/
import Derived.Test.YtbbkohmebjcghaaQCx0
import Derived.Test.YtbbkohmebjcghaaQCx7
import Derived.Test.YtbbkohmebjcghaaQCCakeCs4
import Derived.Test.YtbbkohmebjcghaaQCEqs
namespace Go.Proofs.Ytbbkohmebjcghaa.Cake
open Go.RowKit Go.Proofs.Ytbbkohmebjcghaa.All Go.Proofs.Ytbbkohmebjcghaa.Eqs Go.Proofs.YtbbkohmebjcghaaW.PrintWords Go.Proofs.YtbbkohmebjcghaaW.PrintLast Go.Proofs.YtbbkohmebjcghaaW.PrintMore







/-! #### rooms -/
def net3 (a b c : Int) (t : List Int) : List Int := [t.getD 0 0 - a, t.getD 1 0 - b, t.getD 2 0 - c]


theorem costs_l1 (x y z a b c : Int) (hx : 0 ≤ x ∧ x ≤ 20) (hy : 0 ≤ y ∧ y ≤ 20) (hz : 0 ≤ z ∧ z ≤ 20) (ha : 0 ≤ a ∧ a ≤ 8) (hb : 0 ≤ b ∧ b ≤ 8) (hc : 0 ≤ c ∧ c ≤ 8) (k : Nat) (out ls : List (List Int)) (n i : Int) (ho : out.length < 1000) :
    spec_ckCosts.l1 (k + 1 + 1 + 1 + 1) [a, b, c] out [] ls n i [x, y, z] 3 0 = spec_ckCosts.l0 k [a, b, c] (out ++ [[x - a, y - b, z - c]]) ls n (wrap64 (i + 1)) := by
  have w1 : wrap64 ((0 : Int) + 1) = 1 := by decide +kernel
  have w2 : wrap64 ((1 : Int) + 1) = 2 := by decide +kernel
  have w3 : wrap64 ((2 : Int) + 1) = 3 := by decide +kernel
  have e1 : wrap64 (x - a) = x - a := wrap_id (by omega) (by omega)
  have e2 : wrap64 (y - b) = y - b := wrap_id (by omega) (by omega)
  have e3 : wrap64 (z - c) = z - c := wrap_id (by omega) (by omega)
  have l : (([x, y, z] : List Int).length : Int) = 3 := rfl
  have l2 : (([a, b, c] : List Int).length : Int) = 3 := rfl
  have r0 : rd [x, y, z] 0 = x := rfl
  have r1 : rd [x, y, z] 1 = y := rfl
  have r2 : rd [x, y, z] 2 = z := rfl
  have s0 : rd [a, b, c] 0 = a := rfl
  have s1 : rd [a, b, c] 1 = b := rfl
  have s2 : rd [a, b, c] 2 = c := rfl
  have ho' : out.length < 5864062014805 := by omega
  have q0 : (([] : List Int).length < 17592186044416) = True := eq_true (by decide)
  have q1 : (([x - a] : List Int).length < 17592186044416) = True := eq_true (by simp)
  have q2 : (([x - a, y - b] : List Int).length < 17592186044416) = True := eq_true (by simp)
  simp only [spec_ckCosts.l1, w1, w2, w3, l, l2, r0, r1, r2, s0, s1, s2, e1, e2, e3, show ((0 : Int) < 3) = True from eq_true (by decide), show ((1 : Int) < 3) = True from eq_true (by decide), show ((2 : Int) < 3) = True from eq_true (by decide), show ((3 : Int) < 3) = False from eq_false (by decide), show ((0 : Int) ≤ 0) = True from eq_true (by decide), show ((0 : Int) ≤ 1) = True from eq_true (by decide), show ((0 : Int) ≤ 2) = True from eq_true (by decide), if_true, if_false, List.nil_append, List.cons_append, q0, q1, q2, ho']
theorem costs_l0 (a b c : Int) (ha : 0 ≤ a ∧ a ≤ 8) (hb : 0 ≤ b ∧ b ≤ 8) (hc : 0 ≤ c ∧ c ≤ 8) (ls : List (List Int)) (hg : Rooms ls) (d : Nat) : ∀ (k j : Nat) (out : List (List Int)), j + d = ls.length → 5 * d < k → out.length + d < 1000 →
    spec_ckCosts.l0 k [a, b, c] out ls (ls.length : Int) j = some (out ++ (ls.drop j).map (net3 a b c)) := by
  have h3 := hg.1
  induction d with
  | zero =>
    intro k j out hj hk ho
    obtain ⟨k, rfl⟩ : ∃ m, k = m + 1 := ⟨k - 1, by omega⟩
    simp only [spec_ckCosts.l0]; rw [if_neg (by omega), List.drop_of_length_le (by omega)]; simp
  | succ d ih =>
    intro k j out hj hk ho
    obtain ⟨k, rfl⟩ : ∃ m, k = (m + 1 + 1 + 1 + 1) + 1 := ⟨k - 5, by omega⟩
    have hlt : j < ls.length := by omega
    have ht := hg.2 ls[j] (List.getElem_mem hlt)
    simp only [spec_ckCosts.l0]
    rw [if_pos (by omega), if_pos (by omega), if_pos (by omega), show rd_L1 ls (j : Int) = ls[j] by simp [rd_L1, List.getD, List.getElem?_eq_getElem hlt], List.drop_eq_getElem_cons hlt]
    generalize ls[j] = t at ht
    match t, ht with
    | [x, y, z], ht =>
      rw [show (([x, y, z] : List Int).length : Int) = 3 from rfl, costs_l1 x y z a b c (ht.2 x (by simp)) (ht.2 y (by simp)) (ht.2 z (by simp)) ha hb hc k out ls _ _ (by omega), wrap_id (by omega) (by omega), show ((j : Int) + 1) = ((j + 1 : Nat) : Int) from rfl, ih k (j + 1) _ (by omega) (by omega) (by simp; omega), List.map_cons, List.append_assoc]
      rfl
theorem net_l0 (a b c : Int) (ha : 0 ≤ a ∧ a ≤ 8) (hb : 0 ≤ b ∧ b ≤ 8) (hc : 0 ≤ c ∧ c ≤ 8) (ls : List (List Int)) (hg : Rooms ls) (d : Nat) : ∀ (k j : Nat) (out : List (List Int)), j + d = ls.length → d < k → out.length + d < 1000 →
    impl_netAt.l0 k out ls (ls.length : Int) j a b c = some (out ++ (ls.drop j).map (net3 a b c)) := by
  have h3 := hg.1
  induction d with
  | zero =>
    intro k j out hj hk ho
    obtain ⟨k, rfl⟩ : ∃ m, k = m + 1 := ⟨k - 1, by omega⟩
    simp only [impl_netAt.l0]; rw [if_neg (by omega), List.drop_of_length_le (by omega)]; simp
  | succ d ih =>
    intro k j out hj hk ho
    obtain ⟨k, rfl⟩ : ∃ m, k = m + 1 := ⟨k - 1, by omega⟩
    have hlt : j < ls.length := by omega
    have ht := hg.2 ls[j] (List.getElem_mem hlt)
    simp only [impl_netAt.l0]
    rw [if_pos (by omega), if_pos (by omega), if_pos (by omega), show rd_L1 ls (j : Int) = ls[j] by simp [rd_L1, List.getD, List.getElem?_eq_getElem hlt], List.drop_eq_getElem_cons hlt]
    generalize ls[j] = t at ht
    match t, ht with
    | [x, y, z], ht =>
      have hx := ht.2 x (by simp)
      have hy := ht.2 y (by simp)
      have hz := ht.2 z (by simp)
      rw [show (([x, y, z] : List Int).length : Int) = 3 from rfl, if_pos (by omega), if_pos (by omega), if_pos (by omega), if_pos (by omega), show rd [x, y, z] 0 = x from rfl, show rd [x, y, z] 1 = y from rfl, show rd [x, y, z] 2 = z from rfl, wrap_id (x := x - a) (by omega) (by omega), wrap_id (x := y - b) (by omega) (by omega), wrap_id (x := z - c) (by omega) (by omega), wrap_id (x := (j : Int) + 1) (by omega) (by omega), show ((j : Int) + 1) = ((j + 1 : Nat) : Int) from rfl, ih k (j + 1) _ (by omega) (by omega) (by simp; omega), List.map_cons, List.append_assoc]
      rfl
end Go.Proofs.Ytbbkohmebjcghaa.Cake

