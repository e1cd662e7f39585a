/- For all arguments the law on ImageOfWeights answers true: the reference and the program come to the same. -/
import Derived.Test.YtmodnjljgcmdlaaQIx0
import Derived.Test.YtmodnjljgcmdlaaQIEqsR
import Derived.Test.YtmodnjljgcmdlaaQIMapX
import Derived.Test.YtmodnjljgcmdlaaQIOwn
import Derived.Test.YtmodnjljgcmdlaaQIRowsIn
import Derived.Test.YtmodnjljgcmdlaaQIWalkFnExactImageOfWeights
import Derived.Test.YtmodnjljgcmdlaaQIEqs
namespace Go.Proofs.Ytmodnjljgcmdlaa.Pure
open Go.RowKit Go.Proofs.Ytmodnjljgcmdlaa.All Go.Proofs.Ytmodnjljgcmdlaa.Eqs Go.Proofs.Ytmodnjljgcmdlaa.Maps Go.Proofs.Ytmodnjljgcmdlaa.RowsIn Go.Proofs.YtmodnjljgcmdlaaW.PrintWords Go.Proofs.YtmodnjljgcmdlaaW.PrintLast
theorem FnExactImageOfWeights (a0 : Int) (A1 : Option Addr) (len1 cap1 : Nat) (l1 : List (List Int)) (a2 : Int) (A3 : Option Addr) (len3 cap3 : Nat) (l3 : List Int) (w : World) (_ : (Lit.int .i64 a0).wf = true) (H1 : Lists w A1 len1 cap1 l1) (_ : (Lit.int .i64 a2).wf = true) (H3 : Ints w A3 len3 cap3 l3) :
    Calls Try.prog 9 #[.int .i64 a0, .slice A1 len1 cap1, .int .i64 a2, .slice A3 len3 cap3] w fun e w' => e = .returned (.bool true) ∧ Below w.heap.size w w' := by
  obtain ⟨rfl, hr1, hc1, hm1, hml1, _⟩ := H1
  obtain ⟨rfl, hr3, hc3, _, _⟩ := H3
  by_cases hlen3 : 1048576 < l3.length
  · exact Walk.ImageOfWeights.long0 4000000 a0 A1 cap1 l1 a2 A3 cap3 l3 w hr1 hc1 hr3 hc3  hlen3
  rcases szIntSS_is l1 hm1 hml1 with hneg | ⟨hs1, hpos⟩
  · obtain ⟨r, hr, h0⟩ := hneg 4000000 (by omega)
    exact Walk.ImageOfWeights.sz 4000000 a0 A1 cap1 l1 a2 A3 cap3 l3 w hr1 hc1 hr3 hc3 r hr h0 (by omega)
  obtain ⟨o0, o1, ho0, K, hx⟩ := imageOfWeights_same a0 l1 a2 l3 hs1 (by omega)
  obtain ⟨r, hr, h0⟩ := hpos (K + 4000000) (by omega)
  exact Walk.ImageOfWeights.main (K + 4000000) a0 A1 cap1 l1 a2 A3 cap3 l3 w hr1 hc1 hr3 hc3 r hr h0 (by omega) o0 o1 hs1 (by omega) ho0 (hx _ (by omega)).1 (hx _ (by omega)).2
end Go.Proofs.Ytmodnjljgcmdlaa.Pure

