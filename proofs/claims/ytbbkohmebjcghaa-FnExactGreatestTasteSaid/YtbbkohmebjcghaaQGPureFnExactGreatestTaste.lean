/- For all arguments the law on GreatestTaste answers true: the reference and the program come to the same. -/
import Derived.Test.YtbbkohmebjcghaaQGx0
import Derived.Test.YtbbkohmebjcghaaQGCakeT
import Derived.Test.YtbbkohmebjcghaaQGEqsR
import Derived.Test.YtbbkohmebjcghaaQGOwn
import Derived.Test.YtbbkohmebjcghaaQGRowsIn
import Derived.Test.YtbbkohmebjcghaaQGWalkFnExactGreatestTaste
import Derived.Test.YtbbkohmebjcghaaQGEqs
namespace Go.Proofs.Ytbbkohmebjcghaa.Pure
open Go.RowKit Go.Proofs.Ytbbkohmebjcghaa.All Go.Proofs.Ytbbkohmebjcghaa.Eqs Go.Proofs.Ytbbkohmebjcghaa.Cake Go.Proofs.Ytbbkohmebjcghaa.RowsIn Go.Proofs.YtbbkohmebjcghaaW.PrintWords Go.Proofs.YtbbkohmebjcghaaW.PrintLast
theorem FnExactGreatestTaste (a0 : Int) (A1 : Option Addr) (len1 cap1 : Nat) (l1 : List (List Int)) (w : World) (_ : (Lit.int .i64 a0).wf = true) (H1 : Lists w A1 len1 cap1 l1) :
    Calls Try.prog 4 #[.int .i64 a0, .slice A1 len1 cap1] w fun e w' => e = .returned (.bool true) ∧ Below w.heap.size w w' := by
  obtain ⟨rfl, hr1, hc1, hm1, hml1, _⟩ := H1
  rcases szIntSS_is l1 hm1 hml1 with hneg | ⟨hs1, hpos⟩
  · obtain ⟨r, hr, h0⟩ := hneg 4000000 (by omega)
    exact Walk.GreatestTaste.sz 4000000 a0 A1 cap1 l1 w hr1 hc1 r hr h0 
  obtain ⟨o0, o1, K, hx⟩ := greatestTaste_same a0 l1 hs1 
  obtain ⟨r, hr, h0⟩ := hpos (K + 4000000) (by omega)
  exact Walk.GreatestTaste.main (K + 4000000) a0 A1 cap1 l1 w hr1 hc1 r hr h0 (by omega) o0 o1 hs1   (hx _ (by omega)).1 (hx _ (by omega)).2
end Go.Proofs.Ytbbkohmebjcghaa.Pure

