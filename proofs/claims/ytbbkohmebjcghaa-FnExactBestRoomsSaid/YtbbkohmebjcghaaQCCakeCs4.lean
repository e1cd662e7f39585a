/- What pieces and rooms are worth to all people: the reference and the program come to the same lists. -/
import Derived.Test.YtbbkohmebjcghaaQCx0
import Derived.Test.YtbbkohmebjcghaaQCx1
import Derived.Test.YtbbkohmebjcghaaQCCakeAs0
import Derived.Test.YtbbkohmebjcghaaQCEqs
namespace Go.Proofs.Ytbbkohmebjcghaa.Cake
open Go.RowKit Go.Proofs.Ytbbkohmebjcghaa.All Go.Proofs.Ytbbkohmebjcghaa.Eqs Go.Proofs.YtbbkohmebjcghaaW.PrintWords Go.Proofs.YtbbkohmebjcghaaW.PrintLast Go.Proofs.YtbbkohmebjcghaaW.PrintMore







/-! #### rooms -/

/-- Three lists of three numbers in 0..20. -/
def Rooms (ls : List (List Int)) : Prop := ls.length = 3 ∧ ∀ t ∈ ls, t.length = 3 ∧ ∀ x ∈ t, 0 ≤ x ∧ x ≤ 20
theorem rooms_of {ls : List (List Int)} (h : three 3 20 ls = true) : Rooms ls := by
  unfold three inB at h
  simp only [Bool.and_eq_true, decide_eq_true_eq, List.all_eq_true] at h
  refine ⟨by omega, fun t ht => ⟨by have := (h.2 t ht).1; omega, (h.2 t ht).2⟩⟩



end Go.Proofs.Ytbbkohmebjcghaa.Cake

