/- Triangles, tastes, rooms and pieces: the reference's checks and the program's are the same plain functions. -/
import Derived.Test.YtbbkohmebjcghaaQCx0
import Derived.Test.YtbbkohmebjcghaaQCx1
import Derived.Test.YtbbkohmebjcghaaQCx2
import Derived.Test.YtbbkohmebjcghaaQCx3
import Derived.Test.YtbbkohmebjcghaaQCCakeAs0
import Derived.Test.YtbbkohmebjcghaaQCEqs
import Derived.Test.YtbbkohmebjcghaaQCEqsR
namespace Go.Proofs.Ytbbkohmebjcghaa.Cake
open Go.RowKit Go.Proofs.Ytbbkohmebjcghaa.All Go.Proofs.Ytbbkohmebjcghaa.Eqs Go.Proofs.YtbbkohmebjcghaaW.PrintWords Go.Proofs.YtbbkohmebjcghaaW.PrintLast

/-! #### points -/





/-! #### checks of numbers -/









theorem tastes_l0 (n : Int) (ls : List (List Int)) (hs : Small ls) (d : Nat) : ∀ (k i : Nat), i + d = ls.length → d + 1048578 < k → spec_ckTastes.l0 k n ls (ls.length : Int) i = some ((ls.drop i).all fun l => decide ((l.length : Int) = n) && l.all (inB 0 9)) := by
  have hl := hs.1
  induction d with
  | zero =>
    intro k i hi hk
    obtain ⟨k, rfl⟩ : ∃ m, k = m + 1 := ⟨k - 1, by omega⟩
    simp only [spec_ckTastes.l0]; rw [if_neg (by omega), List.drop_of_length_le (by omega)]; rfl
  | succ d ih =>
    intro k i hi hk
    obtain ⟨k, rfl⟩ : ∃ m, k = m + 1 := ⟨k - 1, by omega⟩
    have hlt : i < ls.length := by omega
    have e : rd_L1 ls (i : Int) = ls[i] := by simp [rd_L1, List.getD, List.getElem?_eq_getElem hlt]
    have hx := hs.2 ls[i] (List.getElem_mem hlt)
    simp only [spec_ckTastes.l0]
    rw [if_pos (by omega), if_pos (by omega), if_pos (by omega), e, List.drop_eq_getElem_cons hlt, List.all_cons]
    by_cases h : (ls[i].length : Int) = n
    · rw [if_pos h, l1All_is _ _ _ (by omega) k (by omega), Option.bind_some, decide_eq_true h, Bool.true_and]
      cases h2 : ls[i].all (inB 0 9) with
      | false => rw [if_neg (by decide)]; rfl
      | true => rw [if_pos rfl, wrap_id (by omega) (by omega)]; simpa using ih k (i + 1) (by omega) (by omega)
    · rw [if_neg h, decide_eq_false h]; rfl
/-- Tastes for a side. -/
def tastesOk (n : Int) (ls : List (List Int)) : Bool := inB 1 8 n && three n 9 ls
theorem spec_tastes (n : Int) (ls : List (List Int)) (hs : Small ls) (k : Nat) (hk : 2097160 < k) : spec_ckTastes.f k n ls = some (tastesOk n ls) := by
  have hl := hs.1
  unfold spec_ckTastes.f spec_meSide.f tastesOk three
  rw [l1In_is]
  simp only [Option.bind_some]
  obtain ⟨k, rfl⟩ : ∃ m, k = m + 1 := ⟨k - 1, by omega⟩
  cases h : inB 1 8 n with
  | false => rw [if_neg (by decide)]; simp [spec_ckTastes.j0]
  | true =>
    rw [if_pos rfl]
    simp only [spec_ckTastes.j0]
    by_cases h3 : (ls.length : Int) = 3
    · rw [show ((ls.length : Int) != 3) = false from bne_eq_false_iff_eq.mpr h3, if_neg (by decide), decide_eq_true h3]
      have := tastes_l0 n ls hs ls.length k 0 (by omega) (by omega)
      rw [show ((0 : Int)) = ((0 : Nat) : Int) from rfl, this]
      simp
    · rw [show ((ls.length : Int) != 3) = true from bne_iff_ne.mpr h3, if_pos rfl, decide_eq_false h3]; simp
theorem impl_tastes (n : Int) (ls : List (List Int)) : impl_areTastes.f n ls = some (tastesOk n ls) := by
  unfold impl_areTastes.f impl_isSide.f tastesOk
  rw [in_is, areLists_is]
  simp only [Option.bind_some]
  cases inB 1 8 n <;> simp







/-! #### pieces for people -/

end Go.Proofs.Ytbbkohmebjcghaa.Cake

