/- For all n, k and every list of colours the law on FirstApart answers true. -/
import Derived.Test.YtjklbakimmnjdaaAllx14
import Derived.Test.YtjklbakimmnjdaaAllx4
import Derived.Test.YtjklbakimmnjdaaAllx13
import Derived.Test.YtjklbakimmnjdaaEqs
import Derived.Test.YtjklbakimmnjdaaToInt
import Derived.Test.YtjklbakimmnjdaaClash
namespace Go.Proofs.Ytjklbakimmnjdaa.Pure
open Go.RowKit Go.Proofs.Ytjklbakimmnjdaa.All Go.Proofs.Ytjklbakimmnjdaa.Eqs Go.Proofs.YtjklbakimmnjdaaW.PrintWords Go.Proofs.YtjklbakimmnjdaaW.PrintLast
namespace ofFnExactFirstApart
theorem cases8 (n k : Int) (hn : 1 ≤ n) (hn8 : n ≤ 8) (hk : 1 ≤ k) (hkn : k ≤ n) : ∃ i j : Fin 8, n = (i.val : Int) + 1 ∧ k = (j.val : Int) + 1 ∧ j.val ≤ i.val :=
  ⟨⟨(n - 1).toNat, by omega⟩, ⟨(k - 1).toNat, by omega⟩, by simp only; omega, by simp only; omega, by simp only; omega⟩
theorem given_iff (n k : Int) : spec_knGiven.f n k = some (decide ((1 ≤ n ∧ n ≤ 8) ∧ (1 ≤ k ∧ k ≤ n))) := by
  unfold spec_knGiven.f spec_l1In.f
  by_cases h1 : 1 ≤ n <;> by_cases h2 : n ≤ 8 <;> by_cases h3 : 1 ≤ k <;> by_cases h4 : k ≤ n <;> simp [h1, h2, h3, h4]
theorem items_iff (n k : Int) : impl_areItems.f n k = some (decide ((1 ≤ n ∧ n ≤ 8) ∧ (1 ≤ k ∧ k ≤ n))) := by
  unfold impl_areItems.f impl_in.f
  by_cases h1 : 1 ≤ n <;> by_cases h2 : n ≤ 8 <;> by_cases h3 : 1 ≤ k <;> by_cases h4 : k ≤ n <;> simp [h1, h2, h3, h4]
def check (n k : Int) : Bool := match spec_knSets.f 300 n k, impl_setsOf.f 300 n k, spec_knChoose.f 300 n k, impl_choose.f 300 n k with
  | some r, some r', some a, some b => r == r' && (a == (r.length : Int) && (b == (r.length : Int) && decide (r.length ≤ 300)))
  | _, _, _, _ => false
theorem all : ∀ i j : Fin 8, j.val ≤ i.val → check ((i.val : Int) + 1) ((j.val : Int) + 1) = true := by decide +kernel
theorem sets (n k : Int) (h : (1 ≤ n ∧ n ≤ 8) ∧ (1 ≤ k ∧ k ≤ n)) : ∃ s : List Int, s.length ≤ 300 ∧ ∀ m, 300 ≤ m → spec_knSets.f m n k = some s ∧ impl_setsOf.f m n k = some s ∧ spec_knChoose.f m n k = some (s.length : Int) ∧ impl_choose.f m n k = some (s.length : Int) := by
  obtain ⟨i, j, rfl, rfl, hij⟩ := cases8 n k h.1.1 h.1.2 h.2.1 h.2.2
  have hc := all i j hij
  unfold check at hc
  split at hc
  · rename_i r r' a b h1 h2 h3 h4
    simp only [Bool.and_eq_true, beq_iff_eq, decide_eq_true_eq] at hc
    obtain ⟨rfl, rfl, rfl, hl⟩ := hc
    exact ⟨r, hl, fun m hm => ⟨at_rounds (spec_knSets.mono _ _) hm h1, at_rounds (impl_setsOf.mono _ _) hm h2, at_rounds (spec_knChoose.mono _ _) hm h3, at_rounds (impl_choose.mono _ _) hm h4⟩⟩
  · exact absurd hc (by simp)
theorem same (n k : Int) (c : List Int) : ∃ (r : List Int) (b : Bool), r.length ≤ 1000 ∧ ∀ m, 200000 ≤ m → spec_FirstApart.f m n k c = some (r, b) ∧ impl_FirstApart.f m n k c = some (r, b) := by
  by_cases h : (1 ≤ n ∧ n ≤ 8) ∧ (1 ≤ k ∧ k ≤ n)
  · obtain ⟨s, hs, hm⟩ := sets n k h
    by_cases hl : c.length = s.length
    · obtain ⟨p, hp⟩ := clash_is s c hl hs
      have h2' := clash_two s c hl hs p (hp 100000 (Nat.le_refl _)).1
      refine ⟨p, !p.isEmpty, by omega, fun m hm' => ?_⟩
      obtain ⟨k', rfl⟩ : ∃ m', m = m' + 1 := ⟨m - 1, by omega⟩
      obtain ⟨_, h2, h3, h4⟩ := hm (k' + 1) (by omega)
      obtain ⟨h1, _, _, _⟩ := hm k' (by omega)
      unfold spec_FirstApart.f impl_FirstApart.f
      rw [given_iff, items_iff, decide_eq_true h]
      simp only [Option.bind_some, if_true, h2, h3, h4, hl, bne_self_eq_false, spec_FirstApart.j0, h1]
      rw [(hp k' (by omega)).2, (hp (k' + 1) (by omega)).1]
      cases p <;> simp
    · refine ⟨[], false, by simp, fun m hm' => ?_⟩
      obtain ⟨k', rfl⟩ : ∃ m', m = m' + 1 := ⟨m - 1, by omega⟩
      obtain ⟨_, h2, h3, h4⟩ := hm (k' + 1) (by omega)
      have e : ((c.length : Int) != (s.length : Int)) = true := bne_iff_ne.mpr (by omega)
      unfold spec_FirstApart.f impl_FirstApart.f
      rw [given_iff, items_iff, decide_eq_true h]
      simp only [Option.bind_some, if_true, h2, h3, h4, e, spec_FirstApart.j0]
      rw [if_neg (by omega)]
      exact ⟨trivial, rfl⟩
  · refine ⟨[], false, by simp, fun m hm' => ?_⟩
    obtain ⟨k', rfl⟩ : ∃ m', m = m' + 1 := ⟨m - 1, by omega⟩
    unfold spec_FirstApart.f impl_FirstApart.f
    rw [given_iff, items_iff, decide_eq_false h]
    exact ⟨rfl, rfl⟩
end ofFnExactFirstApart
open ofFnExactFirstApart in
theorem FnExactFirstApart : laws_FnExactFirstApart.Pure := by
  intro n k c _ _ _ _ _
  obtain ⟨r, b, hr, hab⟩ := same n k c
  refine ⟨1048576 + 1048576, ?_⟩
  unfold laws_FnExactFirstApart.f
  by_cases h : (c.length : Int) > 1048576
  · rw [if_pos h]
  · rw [if_neg h, toIntS_is c (by omega) _ (by omega), Option.bind_some, (hab _ (by omega)).1, Option.bind_some, Option.bind_some, (hab _ (by omega)).2, Option.bind_some]
    simp only
    rw [eqIntS_same r (by omega) _ (by omega), Option.bind_some, if_pos rfl]
    simp only [laws_FnExactFirstApart.j0, bne_self_eq_false]
    rw [if_neg (by decide), toIntS_is c (by omega) _ (by omega), Option.bind_some, eqIntS_same c (by omega) _ (by omega), Option.bind_some, if_pos rfl, markIntS_is c (by omega) 1 (by omega) (by omega) _ (by omega), Option.bind_some]
    simp only
    rw [if_neg (by omega), eqIntS_same r (by omega) _ (by omega), Option.bind_some, if_pos rfl]
    simp only [laws_FnExactFirstApart.j1]
    rw [if_neg (by decide), markIntS_is r (by omega) 1 (by omega) (by omega) _ (by omega), Option.bind_some]
    simp only
    rw [heldIntS_marks _ (by omega) 1 (by omega) (by omega) _ (by omega), Option.bind_some, if_neg (by omega), if_pos rfl, toIntS_is c (by omega) _ (by omega), Option.bind_some, (hab _ (by omega)).2, Option.bind_some]
    simp only
    rw [eqIntS_same r (by omega) _ (by omega), Option.bind_some, if_pos rfl]
    simp only [laws_FnExactFirstApart.j2, bne_self_eq_false]
    rw [if_neg (by decide), heldIntS_marks _ (by omega) 1 (by omega) (by omega) _ (by omega), Option.bind_some, if_neg (by omega), if_pos rfl]

end Go.Proofs.Ytjklbakimmnjdaa.Pure
