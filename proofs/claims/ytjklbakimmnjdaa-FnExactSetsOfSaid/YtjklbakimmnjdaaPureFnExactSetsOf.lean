/- For all whole numbers n and k the law on SetsOf answers true. -/
import Derived.Test.YtjklbakimmnjdaaAllx3
namespace Go.Proofs.Ytjklbakimmnjdaa.Pure
open Go.RowKit Go.Proofs.Ytjklbakimmnjdaa.All Go.Proofs.YtjklbakimmnjdaaW.PrintWords Go.Proofs.YtjklbakimmnjdaaW.PrintLast

namespace finFnExactSetsOf
theorem cases8 (n k : Int) (hn : 1 ≤ n) (hn8 : n ≤ 8) (hk : 1 ≤ k) (hkn : k ≤ n) : ∃ i j : Fin 8, n = (i.val : Int) + 1 ∧ k = (j.val : Int) + 1 ∧ j.val ≤ i.val :=
  ⟨⟨(n - 1).toNat, by omega⟩, ⟨(k - 1).toNat, by omega⟩, by simp only; omega, by simp only; omega, by simp only; omega⟩
theorem all : ∀ i j : Fin 8, j.val ≤ i.val → laws_FnExactSetsOf.f 300 ((i.val : Int) + 1) ((j.val : Int) + 1) = some true := by decide +kernel
end finFnExactSetsOf

theorem FnExactSetsOf : laws_FnExactSetsOf.Pure := by
  intro n k _ _
  by_cases h : (1 ≤ n ∧ n ≤ 8) ∧ (1 ≤ k ∧ k ≤ n)
  · obtain ⟨i, j, rfl, rfl, hij⟩ := finFnExactSetsOf.cases8 n k h.1.1 h.1.2 h.2.1 h.2.2
    exact ⟨300, finFnExactSetsOf.all i j hij⟩
  · refine ⟨300, ?_⟩
    unfold laws_FnExactSetsOf.f spec_SetsOf.f impl_SetsOf.f spec_knGiven.f impl_areItems.f spec_l1In.f impl_in.f
    by_cases h1 : 1 ≤ n
    · by_cases h2 : n ≤ 8
      · by_cases h3 : 1 ≤ k
        · have h4 : ¬ k ≤ n := fun h4 => h ⟨⟨h1, h2⟩, h3, h4⟩
          simp [h1, h2, h3, h4]
        · simp [h1, h2, h3]
      · simp [h1, h2]
    · simp [h1]

end Go.Proofs.Ytjklbakimmnjdaa.Pure
