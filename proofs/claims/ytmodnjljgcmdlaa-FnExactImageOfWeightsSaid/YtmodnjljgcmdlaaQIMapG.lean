/- Good images, taken apart. -/
import Derived.Test.YtmodnjljgcmdlaaQIx0
import Derived.Test.YtmodnjljgcmdlaaQIMapA
import Derived.Test.YtmodnjljgcmdlaaQIEqs
namespace Go.Proofs.Ytmodnjljgcmdlaa.Maps
open Go.RowKit Go.Proofs.Ytmodnjljgcmdlaa.All Go.Proofs.Ytmodnjljgcmdlaa.Eqs Go.Proofs.Ytmodnjljgcmdlaa.L1 Go.Proofs.YtmodnjljgcmdlaaW.PrintWords Go.Proofs.YtmodnjljgcmdlaaW.PrintLast Go.Proofs.YtmodnjljgcmdlaaW.PrintMore
theorem goodOf {n : Int} {ls : List (List Int)} (h : goodP n ls = true) : 1 ≤ n ∧ n ≤ 5 ∧ (ls.length : Int) = cnt n ∧ ∀ r ∈ ls, r.length = 3 ∧ ∀ v ∈ r, 0 ≤ v ∧ v ≤ 3 * n := by
  unfold goodP at h
  simp only [Bool.and_eq_true, inB_iff, decide_eq_true_eq, List.all_eq_true] at h
  obtain ⟨h1, h2, h3⟩ := h
  refine ⟨h1.1, h1.2, h2, fun r hr => ?_⟩
  have := h3 r hr
  unfold imageP at this
  simp only [Bool.and_eq_true, inB_iff, decide_eq_true_eq, List.all_eq_true] at this
  exact ⟨by omega, this.2.1⟩
end Go.Proofs.Ytmodnjljgcmdlaa.Maps

