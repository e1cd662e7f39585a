/- The least envy of cuts, and where it is: the reference and the program come to the same. -/
import Derived.Test.YtbbkohmebjcghaaQCx0
import Derived.Test.YtbbkohmebjcghaaQCx5
import Derived.Test.YtbbkohmebjcghaaQCx3
import Derived.Test.YtbbkohmebjcghaaQCCakeAs3
import Derived.Test.YtbbkohmebjcghaaQCCakeH
import Derived.Test.YtbbkohmebjcghaaQCCakeJs3
import Derived.Test.YtbbkohmebjcghaaQCEqsR
import Derived.Test.YtbbkohmebjcghaaQCEqs
namespace Go.Proofs.Ytbbkohmebjcghaa.Cake
open Go.RowKit Go.Proofs.Ytbbkohmebjcghaa.All Go.Proofs.Ytbbkohmebjcghaa.Eqs Go.Proofs.YtbbkohmebjcghaaW.PrintWords Go.Proofs.YtbbkohmebjcghaaW.PrintLast Go.Proofs.YtbbkohmebjcghaaW.PrintMore




theorem bestCut_same (n : Int) (ls : List (List Int)) (hs : Small ls) : ∃ r b t, b.length ≤ 1048576 ∧ ∃ K, ∀ k, K ≤ k → spec_BestCut.f k n ls = some (r, b, t) ∧ impl_BestCut.f k n ls = some (r, b, t) := by
  have h1 : Ev (fun k => spec_ckTastes.f k n ls) (tastesOk n ls) := ⟨2097161, fun k hk => spec_tastes n ls hs k (by omega)⟩
  cases ht : tastesOk n ls with
  | false =>
    rw [ht] at h1
    refine ⟨0, [], false, by simp, bothC (Ev.congr (fun k => by unfold spec_BestCut.f; rfl) (Ev.bind h1 ?_)) (Ev.congr (fun k => by unfold impl_BestCut.f; rw [impl_tastes, ht]; rfl) (Ev.now _))⟩
    exact Ev.now _
  | true =>
    rw [ht] at h1
    obtain ⟨a, l, b, hb, g1, g2⟩ := best_same n ls ht
    refine ⟨a, b, true, by omega, bothC (Ev.congr (fun k => by unfold spec_BestCut.f; rfl) (Ev.bind h1 (Ev.congr (fun k => by rw [if_pos rfl]) (Ev.bind g1 ?_)))) (Ev.congr (fun k => by unfold impl_BestCut.f; rw [impl_tastes, ht, Option.bind_some, if_pos rfl]) (Ev.bind g2 ?_))⟩
    · exact Ev.now (a, b, true)
    · exact Ev.now (a, b, true)
end Go.Proofs.Ytbbkohmebjcghaa.Cake

