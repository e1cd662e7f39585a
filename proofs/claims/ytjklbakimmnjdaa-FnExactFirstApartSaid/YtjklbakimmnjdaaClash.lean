/- The reference's knClash and the program's firstApart come to the same pair, for lists of colours as long as the list of sets. -/
import Derived.Test.YtjklbakimmnjdaaAllx7
import Derived.Test.YtjklbakimmnjdaaAllx9
import Derived.Test.YtjklbakimmnjdaaEqs
namespace Go.Proofs.Ytjklbakimmnjdaa.Eqs
open Go.RowKit Go.Proofs.Ytjklbakimmnjdaa.All Go.Proofs.YtjklbakimmnjdaaW.PrintWords Go.Proofs.YtjklbakimmnjdaaW.PrintLast
theorem clash_step (s c : List Int) (hl : c.length = s.length) (hb : s.length < 1152921504606846976) : ∀ k : Nat,
    (∀ a i : Nat, i + a = s.length → a * (s.length + 2) < k → ∃ p, impl_firstApart.l0 k s c s (s.length : Int) i = some p ∧ spec_knClash.l0 k s c s (s.length : Int) i = some (p, !p.isEmpty)) ∧
    (∀ a i j : Nat, i + a + 1 = s.length → j ≤ s.length → a * (s.length + 2) + (s.length - j) + 1 < k → ∃ p, impl_firstApart.l1 k s c i (rd s i) j s (s.length : Int) i = some p ∧ spec_knClash.l1 k s c i (rd s i) j s (s.length : Int) i = some (p, !p.isEmpty)) := by
  intro k
  induction k with
  | zero => exact ⟨fun _ _ _ h => absurd h (Nat.not_lt_zero _), fun _ _ _ _ _ h => absurd h (Nat.not_lt_zero _)⟩
  | succ k ih =>
    refine ⟨fun a i hi hk => ?_, fun a i j hi hj hk => ?_⟩
    · simp only [impl_firstApart.l0, spec_knClash.l0]
      cases a with
      | zero => rw [if_neg (by omega), if_neg (by omega)]; exact ⟨[], rfl, rfl⟩
      | succ a =>
        rw [Nat.succ_mul] at hk
        rw [if_pos (by omega), if_pos (by omega), if_pos (by omega), if_pos (by omega), if_pos (by omega), if_pos (by omega), wrap_id (by omega) (by omega)]
        have := ih.2 a i (i + 1) (by omega) (by omega) (by omega)
        rwa [show ((i + 1 : Nat) : Int) = (i : Int) + 1 from rfl] at this
    · simp only [impl_firstApart.l1, spec_knClash.l1]
      have e3 : ((0 : Int) ≤ (j : Int)) = True := eq_true (by omega)
      have e4 : ((0 : Int) ≤ (i : Int)) = True := eq_true (by omega)
      have e5 : ((i : Int) < (c.length : Int)) = True := eq_true (by omega)
      by_cases h : j < s.length
      · have e1 : ((j : Int) < (s.length : Int)) = True := eq_true (by omega)
        have e2 : ((j : Int) < (c.length : Int)) = True := eq_true (by omega)
        have e6 : wrap64 ((j : Int) + 1) = ((j + 1 : Nat) : Int) := wrap_id (by omega) (by omega)
        simp only [e1, e2, e3, e4, e5, e6, if_true]
        have next := ih.2 a i (j + 1) hi (by omega) (by omega)
        by_cases h1 : Go.bits .and .i64 (rd s i) (rd s j) = 0
        · simp only [h1, if_true]
          by_cases h2 : rd c i = rd c j
          · simp only [h2, if_true]; exact ⟨_, rfl, rfl⟩
          · simp only [h2, if_false]; exact next
        · simp only [h1, if_false]; exact next
      · have e1 : ((j : Int) < (s.length : Int)) = False := eq_false (by omega)
        have e6 : wrap64 ((i : Int) + 1) = ((i + 1 : Nat) : Int) := wrap_id (by omega) (by omega)
        simp only [e1, e6, if_false]
        exact ih.1 a (i + 1) (by omega) (by omega)
theorem clash_is (s c : List Int) (hl : c.length = s.length) (hb : s.length ≤ 300) : ∃ p, ∀ k, 100000 ≤ k → impl_firstApart.f k s c = some p ∧ spec_knClash.f k s c = some (p, !p.isEmpty) := by
  have hk : s.length * (s.length + 2) < 100000 := by
    have : s.length * (s.length + 2) ≤ 300 * 302 := Nat.mul_le_mul hb (by omega)
    omega
  obtain ⟨p, h1, h2⟩ := (clash_step s c hl (by omega) 100000).1 s.length 0 (by omega) hk
  refine ⟨p, fun k hk => ⟨at_rounds (impl_firstApart.mono s c) hk h1, at_rounds (spec_knClash.mono s c) hk h2⟩⟩
theorem two_step (s c : List Int) : ∀ k : Nat, (∀ i n p, impl_firstApart.l0 k s c s n i = some p → p.length ≤ 2) ∧ (∀ a b i j n p, impl_firstApart.l1 k s c a b j s n i = some p → p.length ≤ 2) := by
  intro k
  induction k with
  | zero => exact ⟨fun _ _ _ h => by simp [impl_firstApart.l0] at h, fun _ _ _ _ _ _ h => by simp [impl_firstApart.l1] at h⟩
  | succ k ih =>
    refine ⟨fun i n p h => ?_, fun a b i j n p h => ?_⟩
    · simp only [impl_firstApart.l0] at h
      split at h
      · split at h
        · split at h
          · exact ih.2 _ _ _ _ _ _ h
          · exact absurd h (by simp)
        · exact absurd h (by simp)
      · obtain rfl := Option.some.inj h; simp
    · simp only [impl_firstApart.l1] at h
      split at h
      · split at h
        · split at h
          · split at h
            · split at h
              · split at h
                · split at h
                  · obtain rfl := Option.some.inj h; simp
                  · exact ih.2 _ _ _ _ _ _ h
                · exact absurd h (by simp)
              · exact absurd h (by simp)
            · exact absurd h (by simp)
          · exact ih.2 _ _ _ _ _ _ h
        · exact absurd h (by simp)
      · exact ih.1 _ _ _ h
theorem clash_two (s c : List Int) (_ : c.length = s.length) (_ : s.length ≤ 300) (p : List Int) (h : impl_firstApart.f 100000 s c = some p) : p.length ≤ 2 := (two_step s c 100000).1 _ _ _ h
end Go.Proofs.Ytjklbakimmnjdaa.Eqs
