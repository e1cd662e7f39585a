/- The least envy of cuts, and where it is: the reference and the program come to the same. -/
import Derived.Test.YtbbkohmebjcghaaQCx0
import Derived.Test.YtbbkohmebjcghaaQCx8
import Derived.Test.YtbbkohmebjcghaaQCx3
import Derived.Test.YtbbkohmebjcghaaQCCakeAs3
import Derived.Test.YtbbkohmebjcghaaQCCakeH
import Derived.Test.YtbbkohmebjcghaaQCCakeJs3
import Derived.Test.YtbbkohmebjcghaaQCEqsR
import Derived.Test.YtbbkohmebjcghaaQCEqs
namespace Go.Proofs.Ytbbkohmebjcghaa.Cake
open Go.RowKit Go.Proofs.Ytbbkohmebjcghaa.All Go.Proofs.Ytbbkohmebjcghaa.Eqs Go.Proofs.YtbbkohmebjcghaaW.PrintWords Go.Proofs.YtbbkohmebjcghaaW.PrintLast Go.Proofs.YtbbkohmebjcghaaW.PrintMore



theorem leastEnvy_same (n : Int) (ls : List (List Int)) (hs : Small ls) : ∃ r t, ∃ K, ∀ k, K ≤ k → spec_LeastEnvy.f k n ls = some (r, t) ∧ impl_LeastEnvy.f k n ls = some (r, t) := by
  have h1 : Ev (fun k => spec_ckTastes.f k n ls) (tastesOk n ls) := ⟨2097161, fun k hk => spec_tastes n ls hs k (by omega)⟩
  cases ht : tastesOk n ls with
  | false =>
    rw [ht] at h1
    refine ⟨0, false, bothC (Ev.congr (fun k => by unfold spec_LeastEnvy.f; rfl) (Ev.bind h1 ?_)) (Ev.congr (fun k => by unfold impl_LeastEnvy.f; rw [impl_tastes, ht]; rfl) (Ev.now _))⟩
    exact Ev.now _
  | true =>
    rw [ht] at h1
    obtain ⟨a, l, b, hb, g1, g2⟩ := best_same n ls ht
    refine ⟨l, true, bothC (Ev.congr (fun k => by unfold spec_LeastEnvy.f; rfl) (Ev.bind h1 (Ev.congr (fun k => by rw [if_pos rfl]) (Ev.bind g1 ?_)))) (Ev.congr (fun k => by unfold impl_LeastEnvy.f; rw [impl_tastes, ht, Option.bind_some, if_pos rfl]) (Ev.bind g2 ?_))⟩
    · exact Ev.now (l, true)
    · exact Ev.now (l, true)

end Go.Proofs.Ytbbkohmebjcghaa.Cake

