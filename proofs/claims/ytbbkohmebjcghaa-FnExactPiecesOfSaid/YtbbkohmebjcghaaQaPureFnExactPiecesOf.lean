/- For all arguments the law on PiecesOf answers true: the reference and the program come to the same. -/
import Derived.Test.YtbbkohmebjcghaaQax0
import Derived.Test.YtbbkohmebjcghaaQaBase
import Derived.Test.YtbbkohmebjcghaaQaCake
import Derived.Test.YtbbkohmebjcghaaQaRowsIn
import Derived.Test.YtbbkohmebjcghaaQaWalkFnExactPiecesOf
namespace Go.Proofs.Ytbbkohmebjcghaa.Pure
open Go.RowKit Go.Proofs.Ytbbkohmebjcghaa.All Go.Proofs.Ytbbkohmebjcghaa.Eqs Go.Proofs.Ytbbkohmebjcghaa.Cake Go.Proofs.Ytbbkohmebjcghaa.RowsIn Go.Proofs.YtbbkohmebjcghaaW.PrintWords Go.Proofs.YtbbkohmebjcghaaW.PrintLast
theorem FnExactPiecesOf (a0 : Int) (A1 : Option Addr) (len1 cap1 : Nat) (l1 : List (List Int)) (a2 : Int) (a3 : Int) (w : World) (_ : (Lit.int .i64 a0).wf = true) (H1 : Lists w A1 len1 cap1 l1) (_ : (Lit.int .i64 a2).wf = true) (_ : (Lit.int .i64 a3).wf = true) :
    Calls Try.prog 6 #[.int .i64 a0, .slice A1 len1 cap1, .int .i64 a2, .int .i64 a3] w fun e w' => e = .returned (.bool true) ∧ Below w.heap.size w w' := by
  obtain ⟨rfl, hr1, hc1, hm1, hml1, _⟩ := H1
  rcases szIntSS_is l1 hm1 hml1 with hneg | ⟨hs1, hpos⟩
  · obtain ⟨r, hr, h0⟩ := hneg 4000000 (by omega)
    exact Walk.PiecesOf.sz 4000000 a0 A1 cap1 l1 a2 a3 w hr1 hc1 r hr h0 
  obtain ⟨r, hr, h0⟩ := hpos 4000000 (by omega)
  obtain ⟨o0, o1, ho0, hx⟩ := piecesOf_same a0 l1 a2 a3 hs1 
  exact Walk.PiecesOf.main 4000000 a0 A1 cap1 l1 a2 a3 w hr1 hc1 r hr h0 (by omega) o0 o1 hs1  ho0 (hx _ (by omega)).1 (hx _ (by omega)).2
end Go.Proofs.Ytbbkohmebjcghaa.Pure

