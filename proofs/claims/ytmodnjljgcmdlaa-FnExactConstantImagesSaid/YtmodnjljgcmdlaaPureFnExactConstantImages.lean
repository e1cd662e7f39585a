/- For all arguments the law on ConstantImages answers true: the reference and the program come to the same. -/
import Derived.Test.YtmodnjljgcmdlaaWalkFnExactConstantImages
import Derived.Test.YtmodnjljgcmdlaaMapC
import Derived.Test.YtmodnjljgcmdlaaRowsIn
namespace Go.Proofs.Ytmodnjljgcmdlaa.Pure
open Go.RowKit Go.Proofs.Ytmodnjljgcmdlaa.All Go.Proofs.Ytmodnjljgcmdlaa.Eqs Go.Proofs.Ytmodnjljgcmdlaa.Maps Go.Proofs.Ytmodnjljgcmdlaa.RowsIn Go.Proofs.YtmodnjljgcmdlaaW.PrintWords Go.Proofs.YtmodnjljgcmdlaaW.PrintLast
theorem FnExactConstantImages (a0 : Int) (A1 : Option Addr) (len1 cap1 : Nat) (l1 : List Int) (w : World) (_ : (Lit.int .i64 a0).wf = true) (H1 : Ints w A1 len1 cap1 l1) :
    Calls Try.prog 4 #[.int .i64 a0, .slice A1 len1 cap1] w fun e w' => e = .returned (.bool true) ∧ Below w.heap.size w w' := by
  obtain ⟨rfl, hr1, hc1, _, _⟩ := H1
  by_cases hlen1 : 1048576 < l1.length
  · exact Walk.ConstantImages.long0 4000000 a0 A1 cap1 l1 w hr1 hc1  hlen1
  obtain ⟨o0, o1, ho0, K, hx⟩ := constImages_same a0 l1  (by omega)
  exact Walk.ConstantImages.main (K + 4000000) a0 A1 cap1 l1 w hr1 hc1  (by omega) o0 o1  (by omega) ho0 (hx _ (by omega)).1 (hx _ (by omega)).2
end Go.Proofs.Ytmodnjljgcmdlaa.Pure
