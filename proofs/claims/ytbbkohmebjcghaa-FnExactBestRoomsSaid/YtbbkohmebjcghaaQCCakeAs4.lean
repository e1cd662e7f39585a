/- Triangles, tastes, rooms and pieces: the reference's checks and the program's are the same plain functions. -/
import Derived.Test.YtbbkohmebjcghaaQCx0
import Derived.Test.YtbbkohmebjcghaaQCx4
import Derived.Test.YtbbkohmebjcghaaQCx1
import Derived.Test.YtbbkohmebjcghaaQCCakeAs0
import Derived.Test.YtbbkohmebjcghaaQCEqs
import Derived.Test.YtbbkohmebjcghaaQCEqsR
namespace Go.Proofs.Ytbbkohmebjcghaa.Cake
open Go.RowKit Go.Proofs.Ytbbkohmebjcghaa.All Go.Proofs.Ytbbkohmebjcghaa.Eqs Go.Proofs.YtbbkohmebjcghaaW.PrintWords Go.Proofs.YtbbkohmebjcghaaW.PrintLast

/-! #### points -/





/-! #### checks of numbers -/













theorem rooms_l0 (ls : List (List Int)) (hs : Small ls) (d : Nat) : ∀ (k i : Nat), i + d = ls.length → d + 1048578 < k → spec_ckRooms.l0 k ls (ls.length : Int) i = some ((ls.drop i).all fun l => decide ((l.length : Int) = 3) && l.all (inB 0 20)) := by
  have hl := hs.1
  induction d with
  | zero =>
    intro k i hi hk
    obtain ⟨k, rfl⟩ : ∃ m, k = m + 1 := ⟨k - 1, by omega⟩
    simp only [spec_ckRooms.l0]; rw [if_neg (by omega), List.drop_of_length_le (by omega)]; rfl
  | succ d ih =>
    intro k i hi hk
    obtain ⟨k, rfl⟩ : ∃ m, k = m + 1 := ⟨k - 1, by omega⟩
    have hlt : i < ls.length := by omega
    have e : rd_L1 ls (i : Int) = ls[i] := by simp [rd_L1, List.getD, List.getElem?_eq_getElem hlt]
    have hx := hs.2 ls[i] (List.getElem_mem hlt)
    simp only [spec_ckRooms.l0]
    rw [if_pos (by omega), if_pos (by omega), if_pos (by omega), e, List.drop_eq_getElem_cons hlt, List.all_cons]
    by_cases h : (ls[i].length : Int) = 3
    · rw [if_pos h, l1All_is _ _ _ (by omega) k (by omega), Option.bind_some, decide_eq_true h, Bool.true_and]
      cases h2 : ls[i].all (inB 0 20) with
      | false => rw [if_neg (by decide)]; rfl
      | true => rw [if_pos rfl, wrap_id (by omega) (by omega)]; simpa using ih k (i + 1) (by omega) (by omega)
    · rw [if_neg h, decide_eq_false h]; rfl
theorem spec_rooms (ls : List (List Int)) (hs : Small ls) (k : Nat) (hk : 2097160 < k) : spec_ckRooms.f k ls = some (three 3 20 ls) := by
  have hl := hs.1
  unfold spec_ckRooms.f three
  by_cases h3 : (ls.length : Int) = 3
  · rw [if_pos h3, decide_eq_true h3]
    have := rooms_l0 ls hs ls.length k 0 (by omega) (by omega)
    rw [show ((0 : Int)) = ((0 : Nat) : Int) from rfl, this]
    simp
  · rw [if_neg h3, decide_eq_false h3]; rfl
theorem impl_rooms (ls : List (List Int)) : impl_areWorths.f ls = some (three 3 20 ls) := by
  unfold impl_areWorths.f
  rw [areLists_is]; rfl




/-! #### pieces for people -/

end Go.Proofs.Ytbbkohmebjcghaa.Cake

