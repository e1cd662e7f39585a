/- For all arguments the law on PointOfWeights answers true: the reference and the program come to the same. -/
import Derived.Test.YtmodnjljgcmdlaaQPx0
import Derived.Test.YtmodnjljgcmdlaaQPMapX
import Derived.Test.YtmodnjljgcmdlaaQPOwn
import Derived.Test.YtmodnjljgcmdlaaQPRowsIn
import Derived.Test.YtmodnjljgcmdlaaQPWalkFnExactPointOfWeights
import Derived.Test.YtmodnjljgcmdlaaQPEqs
namespace Go.Proofs.Ytmodnjljgcmdlaa.Pure
open Go.RowKit Go.Proofs.Ytmodnjljgcmdlaa.All Go.Proofs.Ytmodnjljgcmdlaa.Eqs Go.Proofs.Ytmodnjljgcmdlaa.Maps Go.Proofs.Ytmodnjljgcmdlaa.RowsIn Go.Proofs.YtmodnjljgcmdlaaW.PrintWords Go.Proofs.YtmodnjljgcmdlaaW.PrintLast
theorem FnExactPointOfWeights (a0 : Int) (a1 : Int) (A2 : Option Addr) (len2 cap2 : Nat) (l2 : List Int) (w : World) (_ : (Lit.int .i64 a0).wf = true) (_ : (Lit.int .i64 a1).wf = true) (H2 : Ints w A2 len2 cap2 l2) :
    Calls Try.prog 5 #[.int .i64 a0, .int .i64 a1, .slice A2 len2 cap2] w fun e w' => e = .returned (.bool true) ∧ Below w.heap.size w w' := by
  obtain ⟨rfl, hr2, hc2, _, _⟩ := H2
  by_cases hlen2 : 1048576 < l2.length
  · exact Walk.PointOfWeights.long0 4000000 a0 a1 A2 cap2 l2 w hr2 hc2  hlen2
  obtain ⟨o0, o1, ho0, K, hx⟩ := pointOfWeights_same a0 a1 l2  (by omega)
  exact Walk.PointOfWeights.main (K + 4000000) a0 a1 A2 cap2 l2 w hr2 hc2  (by omega) o0 o1  (by omega) ho0 (hx _ (by omega)).1 (hx _ (by omega)).2
end Go.Proofs.Ytmodnjljgcmdlaa.Pure

