/- For all arguments the law on BestRooms answers true: the reference and the program come to the same. -/
import Derived.Test.YtbbkohmebjcghaaQCx0
import Derived.Test.YtbbkohmebjcghaaQCCakeR
import Derived.Test.YtbbkohmebjcghaaQCEqsR
import Derived.Test.YtbbkohmebjcghaaQCOwn
import Derived.Test.YtbbkohmebjcghaaQCRowsIn
import Derived.Test.YtbbkohmebjcghaaQCWalkFnExactBestRooms
import Derived.Test.YtbbkohmebjcghaaQCEqs
namespace Go.Proofs.Ytbbkohmebjcghaa.Pure
open Go.RowKit Go.Proofs.Ytbbkohmebjcghaa.All Go.Proofs.Ytbbkohmebjcghaa.Eqs Go.Proofs.Ytbbkohmebjcghaa.Cake Go.Proofs.Ytbbkohmebjcghaa.RowsIn Go.Proofs.YtbbkohmebjcghaaW.PrintWords Go.Proofs.YtbbkohmebjcghaaW.PrintLast
theorem FnExactBestRooms (A0 : Option Addr) (len0 cap0 : Nat) (l0 : List (List Int)) (w : World) (H0 : Lists w A0 len0 cap0 l0) :
    Calls Try.prog 3 #[.slice A0 len0 cap0] w fun e w' => e = .returned (.bool true) ∧ Below w.heap.size w w' := by
  obtain ⟨rfl, hr0, hc0, hm0, hml0, _⟩ := H0
  rcases szIntSS_is l0 hm0 hml0 with hneg | ⟨hs0, hpos⟩
  · obtain ⟨r, hr, h0⟩ := hneg 4000000 (by omega)
    exact Walk.BestRooms.sz 4000000 A0 cap0 l0 w hr0 hc0 r hr h0 
  obtain ⟨o0, o1, ho0, K, hx⟩ := bestRooms_same l0 hs0 
  obtain ⟨r, hr, h0⟩ := hpos (K + 4000000) (by omega)
  exact Walk.BestRooms.main (K + 4000000) A0 cap0 l0 w hr0 hc0 r hr h0 (by omega) o0 o1 hs0  ho0 (hx _ (by omega)).1 (hx _ (by omega)).2
end Go.Proofs.Ytbbkohmebjcghaa.Pure

