/- What pieces and rooms are worth to all people: the reference and the program come to the same lists. -/
import Derived.Test.YtbbkohmebjcghaaQGx0
import Derived.Test.YtbbkohmebjcghaaQGx1
import Derived.Test.YtbbkohmebjcghaaQGCakeA
import Derived.Test.YtbbkohmebjcghaaQGEqs
namespace Go.Proofs.Ytbbkohmebjcghaa.Cake
open Go.RowKit Go.Proofs.Ytbbkohmebjcghaa.All Go.Proofs.Ytbbkohmebjcghaa.Eqs Go.Proofs.YtbbkohmebjcghaaW.PrintWords Go.Proofs.YtbbkohmebjcghaaW.PrintLast Go.Proofs.YtbbkohmebjcghaaW.PrintMore

/-- Good tastes: three lists of n numbers in 0..9. -/
def Good (n : Nat) (ls : List (List Int)) : Prop := ls.length = 3 ∧ ∀ t ∈ ls, t.length = n ∧ t.all (inB 0 9) = true
theorem good_of {n : Int} {ls : List (List Int)} (h : tastesOk n ls = true) : 1 ≤ n ∧ n ≤ 8 ∧ Good n.toNat ls := by
  unfold tastesOk three inB at h
  simp only [Bool.and_eq_true, decide_eq_true_eq, List.all_eq_true] at h
  obtain ⟨⟨h1, h2⟩, h3, h4⟩ := h
  refine ⟨h1, h2, by omega, fun t ht => ⟨by have := (h4 t ht).1; omega, List.all_eq_true.2 fun x hx => ?_⟩⟩
  have := (h4 t ht).2 x hx
  simpa only [inB, Bool.and_eq_true, decide_eq_true_eq] using this




/-! #### rooms -/






end Go.Proofs.Ytbbkohmebjcghaa.Cake

