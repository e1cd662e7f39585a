/- For all whole numbers n and k the law on StableSets answers true. -/
import Derived.Test.YtjklbakimmnjdaaAllx12
import Derived.Test.YtjklbakimmnjdaaEqs
namespace Go.Proofs.Ytjklbakimmnjdaa.Pure
open Go.RowKit Go.Proofs.Ytjklbakimmnjdaa.All Go.Proofs.Ytjklbakimmnjdaa.Eqs Go.Proofs.YtjklbakimmnjdaaW.PrintWords Go.Proofs.YtjklbakimmnjdaaW.PrintLast
namespace ofFnExactStableSets
theorem cases8 (n k : Int) (hn : 1 ≤ n) (hn8 : n ≤ 8) (hk : 1 ≤ k) (hkn : k ≤ n) : ∃ i j : Fin 8, n = (i.val : Int) + 1 ∧ k = (j.val : Int) + 1 ∧ j.val ≤ i.val :=
  ⟨⟨(n - 1).toNat, by omega⟩, ⟨(k - 1).toNat, by omega⟩, by simp only; omega, by simp only; omega, by simp only; omega⟩
theorem given_iff (n k : Int) : spec_knGiven.f n k = some (decide ((1 ≤ n ∧ n ≤ 8) ∧ (1 ≤ k ∧ k ≤ n))) := by
  unfold spec_knGiven.f spec_l1In.f
  by_cases h1 : 1 ≤ n <;> by_cases h2 : n ≤ 8 <;> by_cases h3 : 1 ≤ k <;> by_cases h4 : k ≤ n <;> simp [h1, h2, h3, h4]
theorem items_iff (n k : Int) : impl_areItems.f n k = some (decide ((1 ≤ n ∧ n ≤ 8) ∧ (1 ≤ k ∧ k ≤ n))) := by
  unfold impl_areItems.f impl_in.f
  by_cases h1 : 1 ≤ n <;> by_cases h2 : n ≤ 8 <;> by_cases h3 : 1 ≤ k <;> by_cases h4 : k ≤ n <;> simp [h1, h2, h3, h4]
def check (n k : Int) : Bool := match spec_StableSets.f 300 n k, impl_StableSets.f 300 n k with
  | some (r, b), some (r', b') => r == r' && (b == b' && decide (r.length ≤ 300))
  | _, _ => false
theorem all : ∀ i j : Fin 8, j.val ≤ i.val → check ((i.val : Int) + 1) ((j.val : Int) + 1) = true := by decide +kernel
theorem same (n k : Int) : ∃ r b, spec_StableSets.f 300 n k = some (r, b) ∧ impl_StableSets.f 300 n k = some (r, b) ∧ r.length ≤ 300 := by
  by_cases h : (1 ≤ n ∧ n ≤ 8) ∧ (1 ≤ k ∧ k ≤ n)
  · obtain ⟨i, j, rfl, rfl, hij⟩ := cases8 n k h.1.1 h.1.2 h.2.1 h.2.2
    have hc := all i j hij
    unfold check at hc
    split at hc
    · rename_i r b r' b' h1 h2
      simp only [Bool.and_eq_true, beq_iff_eq, decide_eq_true_eq] at hc
      obtain ⟨rfl, rfl, hl⟩ := hc
      exact ⟨r, b, h1, h2, hl⟩
    · exact absurd hc (by simp)
  · refine ⟨[], false, ?_, ?_, by simp⟩
    · unfold spec_StableSets.f; rw [given_iff, decide_eq_false h]; rfl
    · unfold impl_StableSets.f; rw [items_iff, decide_eq_false h]; rfl
end ofFnExactStableSets
open ofFnExactStableSets in
theorem FnExactStableSets : laws_FnExactStableSets.Pure := by
  intro n k _ _
  obtain ⟨r, b, hs, hi, hl⟩ := same n k
  have hs' : ∀ m, 300 ≤ m → spec_StableSets.f m n k = some (r, b) := fun m hm => at_rounds (spec_StableSets.mono n k) hm hs
  have hi' : ∀ m, 300 ≤ m → impl_StableSets.f m n k = some (r, b) := fun m hm => at_rounds (impl_StableSets.mono n k) hm hi
  refine ⟨403, ?_⟩
  unfold laws_FnExactStableSets.f
  rw [hs' _ (by omega), Option.bind_some, hi' _ (by omega), Option.bind_some, eqIntS_same r (by omega) _ (by omega), Option.bind_some, if_pos rfl]
  simp only [laws_FnExactStableSets.j0, bne_self_eq_false]
  rw [if_neg (by decide), markIntS_is r (by omega) 1 (by omega) (by omega) _ (by omega), Option.bind_some]
  simp only
  rw [heldIntS_marks _ (by omega) 1 (by omega) (by omega) _ (by omega), Option.bind_some, if_neg (by omega), if_pos rfl, hi' _ (by omega), Option.bind_some]
  simp only
  rw [eqIntS_same r (by omega) _ (by omega), Option.bind_some, if_pos rfl]
  simp only [laws_FnExactStableSets.j1, bne_self_eq_false]
  rw [if_neg (by decide), heldIntS_marks _ (by omega) 1 (by omega) (by omega) _ (by omega), Option.bind_some, if_neg (by omega), if_pos rfl]

end Go.Proofs.Ytjklbakimmnjdaa.Pure
