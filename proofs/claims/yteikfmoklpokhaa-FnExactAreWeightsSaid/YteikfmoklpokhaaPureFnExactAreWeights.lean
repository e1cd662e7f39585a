/- For every list and number the law on AreWeights answers true. -/
import Derived.Test.YteikfmoklpokhaaAllx3
import Derived.Test.YteikfmoklpokhaaWeights
import Derived.Test.YteikfmoklpokhaaToInt
namespace Go.Proofs.Yteikfmoklpokhaa.Pure
open Go.RowKit Go.Proofs.Yteikfmoklpokhaa.All Go.Proofs.Yteikfmoklpokhaa.Eqs Go.Proofs.Yteikfmoklpokhaa.L1 Go.Proofs.Yteikfmoklpokhaa.Weights Go.Proofs.YteikfmoklpokhaaW.PrintWords Go.Proofs.YteikfmoklpokhaaW.PrintLast
theorem FnExactAreWeights : laws_FnExactAreWeights.Pure := by
  intro l n _ _ _ _
  refine ⟨l.length + 1000100, ?_⟩
  unfold laws_FnExactAreWeights.f
  by_cases h : (l.length : Int) > 1048576
  · rw [if_pos h]
  · rw [if_neg h]
    have hl : l.length ≤ 1048576 := by omega
    have ht := toIntS_is l hl (l.length + 1000100) (by omega)
    rw [ht]
    simp only [Option.bind_some]
    have hs : spec_AreWeights.f (l.length + 1000100) l n = some (if inB 1 3 n = true then (weights l n, true) else (false, false)) := by
      unfold spec_AreWeights.f
      rw [l1In_is, Option.bind_some]
      by_cases e : inB 1 3 n = true
      · rw [if_pos e, if_pos e, specWeights l n (by omega) _ (by omega)]; rfl
      · rw [if_neg e, if_neg e]
    have hi : impl_AreWeights.f (l.length + 1000100) l n = some (if inB 1 3 n = true then (weights l n, true) else (false, false)) := by
      unfold impl_AreWeights.f
      rw [in_is, Option.bind_some]
      by_cases e : inB 1 3 n = true
      · rw [if_pos e, if_pos e, implWeights l n (by omega) _ (by omega)]; rfl
      · rw [if_neg e, if_neg e]
    rw [hs, hi]
    simp only [Option.bind_some, bne_self_eq_false, Bool.false_eq_true, if_false]
    rw [show l.length + 1000100 = (l.length + 1000099) + 1 from rfl]
    simp only [laws_FnExactAreWeights.j0, Bool.false_eq_true, if_false]
    rw [toIntS_is l hl _ (by omega), Option.bind_some, eqIntS_same l (by omega) _ (by omega)]
    rfl
end Go.Proofs.Yteikfmoklpokhaa.Pure
