/- For all whole numbers n and k the law on FewestColours answers true. -/
import Derived.Test.YtjklbakimmnjdaaPFnExactFewestColoursx1
namespace Go.Proofs.Ytjklbakimmnjdaa.Pure
open Go.RowKit Go.Proofs.Ytjklbakimmnjdaa.PFnExactFewestColours Go.Proofs.YtjklbakimmnjdaaW.PrintWords Go.Proofs.YtjklbakimmnjdaaW.PrintLast

theorem fewest_same (n k : Int) (hn : 1 ≤ n ∧ n ≤ 8) (hk : 1 ≤ k ∧ k ≤ n) : spec_knFewest.f n k = impl_fewest.f n k := by
  unfold spec_knFewest.f spec_l1Most.f impl_fewest.f
  have e1 : wrap64 (2 * k) = 2 * k := by unfold wrap64; omega
  have e2 : wrap64 (n - 2 * k) = n - 2 * k := by unfold wrap64; omega
  have e3 : wrap64 (n - 2 * k + 2) = n - 2 * k + 2 := by unfold wrap64; omega
  rw [e1, e2, e3]
  by_cases h : 2 * k > n
  · rw [if_pos h]
    by_cases h1 : 1 > n - 2 * k + 2
    · rw [if_pos h1]; rfl
    · rw [if_neg h1]; show some (n - 2 * k + 2) = some 1; congr 1; omega
  · rw [if_neg h, if_neg (by omega)]; rfl
theorem fewest_some (n k : Int) : ∃ r, impl_fewest.f n k = some r := by
  unfold impl_fewest.f; split <;> exact ⟨_, rfl⟩
theorem given_iff (n k : Int) : spec_knGiven.f n k = some (decide ((1 ≤ n ∧ n ≤ 8) ∧ (1 ≤ k ∧ k ≤ n))) := by
  unfold spec_knGiven.f spec_l1In.f
  by_cases h1 : 1 ≤ n <;> by_cases h2 : n ≤ 8 <;> by_cases h3 : 1 ≤ k <;> by_cases h4 : k ≤ n <;> simp [h1, h2, h3, h4]
theorem items_iff (n k : Int) : impl_areItems.f n k = some (decide ((1 ≤ n ∧ n ≤ 8) ∧ (1 ≤ k ∧ k ≤ n))) := by
  unfold impl_areItems.f impl_in.f
  by_cases h1 : 1 ≤ n <;> by_cases h2 : n ≤ 8 <;> by_cases h3 : 1 ≤ k <;> by_cases h4 : k ≤ n <;> simp [h1, h2, h3, h4]
theorem FnExactFewestColours : laws_FnExactFewestColours.Pure := by
  intro n k _ _
  unfold laws_FnExactFewestColours.f spec_FewestColours.f impl_FewestColours.f
  rw [given_iff, items_iff]
  by_cases h : (1 ≤ n ∧ n ≤ 8) ∧ (1 ≤ k ∧ k ≤ n)
  · obtain ⟨r, hr⟩ := fewest_some n k
    rw [fewest_same n k h.1 h.2, hr]
    simp [h]
  · simp [h]

end Go.Proofs.Ytjklbakimmnjdaa.Pure
