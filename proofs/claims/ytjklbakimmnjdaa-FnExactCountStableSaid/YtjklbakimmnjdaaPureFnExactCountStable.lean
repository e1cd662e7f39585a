/- For all whole numbers n and k the law on CountStable answers true. -/
import Derived.Test.YtjklbakimmnjdaaAllx5
import Derived.Test.YtjklbakimmnjdaaEqs
namespace Go.Proofs.Ytjklbakimmnjdaa.Pure
open Go.RowKit Go.Proofs.Ytjklbakimmnjdaa.All Go.Proofs.Ytjklbakimmnjdaa.Eqs Go.Proofs.YtjklbakimmnjdaaW.PrintWords Go.Proofs.YtjklbakimmnjdaaW.PrintLast
namespace ofFnExactCountStable
theorem cases8 (n k : Int) (hn : 1 ≤ n) (hn8 : n ≤ 8) (hk : 1 ≤ k) (hkn : k ≤ n) : ∃ i j : Fin 8, n = (i.val : Int) + 1 ∧ k = (j.val : Int) + 1 ∧ j.val ≤ i.val :=
  ⟨⟨(n - 1).toNat, by omega⟩, ⟨(k - 1).toNat, by omega⟩, by simp only; omega, by simp only; omega, by simp only; omega⟩
theorem given_iff (n k : Int) : spec_knGiven.f n k = some (decide ((1 ≤ n ∧ n ≤ 8) ∧ (1 ≤ k ∧ k ≤ n))) := by
  unfold spec_knGiven.f spec_l1In.f
  by_cases h1 : 1 ≤ n <;> by_cases h2 : n ≤ 8 <;> by_cases h3 : 1 ≤ k <;> by_cases h4 : k ≤ n <;> simp [h1, h2, h3, h4]
theorem items_iff (n k : Int) : impl_areItems.f n k = some (decide ((1 ≤ n ∧ n ≤ 8) ∧ (1 ≤ k ∧ k ≤ n))) := by
  unfold impl_areItems.f impl_in.f
  by_cases h1 : 1 ≤ n <;> by_cases h2 : n ≤ 8 <;> by_cases h3 : 1 ≤ k <;> by_cases h4 : k ≤ n <;> simp [h1, h2, h3, h4]
theorem all : ∀ i j : Fin 8, j.val ≤ i.val → laws_FnExactCountStable.f 300 ((i.val : Int) + 1) ((j.val : Int) + 1) = some true := by decide +kernel
end ofFnExactCountStable
open ofFnExactCountStable in
theorem FnExactCountStable : laws_FnExactCountStable.Pure := by
  intro n k _ _
  by_cases h : (1 ≤ n ∧ n ≤ 8) ∧ (1 ≤ k ∧ k ≤ n)
  · obtain ⟨i, j, rfl, rfl, hij⟩ := cases8 n k h.1.1 h.1.2 h.2.1 h.2.2
    exact ⟨300, all i j hij⟩
  · refine ⟨300, ?_⟩
    unfold laws_FnExactCountStable.f spec_CountStable.f impl_CountStable.f
    rw [given_iff, items_iff, decide_eq_false h]
    rfl

end Go.Proofs.Ytjklbakimmnjdaa.Pure
