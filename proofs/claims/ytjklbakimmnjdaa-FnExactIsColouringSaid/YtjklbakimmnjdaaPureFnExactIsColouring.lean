/- For all n, k and every list of colours the law on IsColouring answers true. -/
import Derived.Test.YtjklbakimmnjdaaAllx10
import Derived.Test.YtjklbakimmnjdaaAllx4
import Derived.Test.YtjklbakimmnjdaaAllx13
import Derived.Test.YtjklbakimmnjdaaEqs
import Derived.Test.YtjklbakimmnjdaaToInt
import Derived.Test.YtjklbakimmnjdaaClash
namespace Go.Proofs.Ytjklbakimmnjdaa.Pure
open Go.RowKit Go.Proofs.Ytjklbakimmnjdaa.All Go.Proofs.Ytjklbakimmnjdaa.Eqs Go.Proofs.YtjklbakimmnjdaaW.PrintWords Go.Proofs.YtjklbakimmnjdaaW.PrintLast
namespace ofFnExactIsColouring
theorem cases8 (n k : Int) (hn : 1 ≤ n) (hn8 : n ≤ 8) (hk : 1 ≤ k) (hkn : k ≤ n) : ∃ i j : Fin 8, n = (i.val : Int) + 1 ∧ k = (j.val : Int) + 1 ∧ j.val ≤ i.val :=
  ⟨⟨(n - 1).toNat, by omega⟩, ⟨(k - 1).toNat, by omega⟩, by simp only; omega, by simp only; omega, by simp only; omega⟩
theorem given_iff (n k : Int) : spec_knGiven.f n k = some (decide ((1 ≤ n ∧ n ≤ 8) ∧ (1 ≤ k ∧ k ≤ n))) := by
  unfold spec_knGiven.f spec_l1In.f
  by_cases h1 : 1 ≤ n <;> by_cases h2 : n ≤ 8 <;> by_cases h3 : 1 ≤ k <;> by_cases h4 : k ≤ n <;> simp [h1, h2, h3, h4]
theorem items_iff (n k : Int) : impl_areItems.f n k = some (decide ((1 ≤ n ∧ n ≤ 8) ∧ (1 ≤ k ∧ k ≤ n))) := by
  unfold impl_areItems.f impl_in.f
  by_cases h1 : 1 ≤ n <;> by_cases h2 : n ≤ 8 <;> by_cases h3 : 1 ≤ k <;> by_cases h4 : k ≤ n <;> simp [h1, h2, h3, h4]
def check (n k : Int) : Bool := match spec_knSets.f 300 n k, impl_setsOf.f 300 n k, spec_knChoose.f 300 n k, impl_choose.f 300 n k with
  | some r, some r', some a, some b => r == r' && (a == (r.length : Int) && (b == (r.length : Int) && decide (r.length ≤ 300)))
  | _, _, _, _ => false
theorem all : ∀ i j : Fin 8, j.val ≤ i.val → check ((i.val : Int) + 1) ((j.val : Int) + 1) = true := by decide +kernel
theorem sets (n k : Int) (h : (1 ≤ n ∧ n ≤ 8) ∧ (1 ≤ k ∧ k ≤ n)) : ∃ s : List Int, s.length ≤ 300 ∧ ∀ m, 300 ≤ m → spec_knSets.f m n k = some s ∧ impl_setsOf.f m n k = some s ∧ spec_knChoose.f m n k = some (s.length : Int) ∧ impl_choose.f m n k = some (s.length : Int) := by
  obtain ⟨i, j, rfl, rfl, hij⟩ := cases8 n k h.1.1 h.1.2 h.2.1 h.2.2
  have hc := all i j hij
  unfold check at hc
  split at hc
  · rename_i r r' a b h1 h2 h3 h4
    simp only [Bool.and_eq_true, beq_iff_eq, decide_eq_true_eq] at hc
    obtain ⟨rfl, rfl, rfl, hl⟩ := hc
    exact ⟨r, hl, fun m hm => ⟨at_rounds (spec_knSets.mono _ _) hm h1, at_rounds (impl_setsOf.mono _ _) hm h2, at_rounds (spec_knChoose.mono _ _) hm h3, at_rounds (impl_choose.mono _ _) hm h4⟩⟩
  · exact absurd hc (by simp)
theorem neg_loop (s c : List Int) (hb : c.length ≤ 300) (p : List Int) (b : Bool) (hcl : ∀ k, 100000 ≤ k → spec_knClash.f k s c = some (p, b)) (d : Nat) : ∀ (k i : Nat), i + d = c.length → d + 100001 < k →
    spec_IsColouring.l0 k c s c (c.length : Int) i = some (if (List.range' i d).any (fun j => decide (c.getD j 0 < 0)) = true then (false, true) else (!b, true)) := by
  induction d with
  | zero =>
    intro k i hi hk
    obtain ⟨k, rfl⟩ : ∃ m, k = m + 1 := ⟨k - 1, by omega⟩
    simp only [spec_IsColouring.l0]
    rw [if_neg (by omega), hcl _ (by omega)]
    simp
  | succ d ih =>
    intro k i hi hk
    obtain ⟨k, rfl⟩ : ∃ m, k = m + 1 := ⟨k - 1, by omega⟩
    simp only [spec_IsColouring.l0]
    have e1 : ((i : Int) < (c.length : Int)) = True := eq_true (by omega)
    have e2 : ((0 : Int) ≤ (i : Int)) = True := eq_true (by omega)
    have e3 : wrap64 ((i : Int) + 1) = ((i + 1 : Nat) : Int) := wrap_id (by omega) (by omega)
    simp only [e1, e2, e3, if_true]
    rw [List.range'_succ, List.any_cons]
    have e4 : rd c (i : Int) = c.getD i 0 := rfl
    by_cases h : c.getD i 0 < 0
    · rw [e4, if_pos h, decide_eq_true h]; simp
    · rw [e4, if_neg h, decide_eq_false h, ih k (i + 1) (by omega) (by omega), Bool.false_or]
theorem same (n k : Int) (c : List Int) : ∃ a b : Bool, ∀ m, 200000 ≤ m → spec_IsColouring.f m n k c = some (a, b) ∧ impl_IsColouring.f m n k c = some (a, b) := by
  by_cases h : (1 ≤ n ∧ n ≤ 8) ∧ (1 ≤ k ∧ k ≤ n)
  · obtain ⟨s, hs, hm⟩ := sets n k h
    by_cases hl : c.length = s.length
    · obtain ⟨p, hp⟩ := clash_is s c hl hs
      refine ⟨(if (List.range' 0 c.length).any (fun j => decide (c.getD j 0 < 0)) = true then false else p.isEmpty), true, fun m hm' => ?_⟩
      obtain ⟨h1, h2, _, _⟩ := hm m (by omega)
      unfold spec_IsColouring.f impl_IsColouring.f
      rw [given_iff, items_iff, decide_eq_true h]
      simp only [Option.bind_some, if_true, h1, h2, hl]
      have hn := neg_loop s c (by omega) p (!p.isEmpty) (fun k hk => (hp k hk).2) c.length m 0 (by omega) (by omega)
      rw [hl] at hn
      rw [show ((0 : Int)) = ((0 : Nat) : Int) from rfl, hn, (hp m (by omega)).1]
      cases hA : (List.range' 0 s.length).any (fun j => decide (c.getD j 0 < 0)) with
      | true => simp
      | false => cases p <;> simp
    · refine ⟨false, true, fun m hm' => ?_⟩
      obtain ⟨h1, h2, _, _⟩ := hm m (by omega)
      unfold spec_IsColouring.f impl_IsColouring.f
      rw [given_iff, items_iff, decide_eq_true h]
      simp only [Option.bind_some, if_true, h1, h2]
      rw [if_neg (by omega), if_neg hl]
      exact ⟨rfl, rfl⟩
  · refine ⟨false, false, fun m _ => ?_⟩
    unfold spec_IsColouring.f impl_IsColouring.f
    rw [given_iff, items_iff, decide_eq_false h]
    exact ⟨rfl, rfl⟩
end ofFnExactIsColouring
open ofFnExactIsColouring in
theorem FnExactIsColouring : laws_FnExactIsColouring.Pure := by
  intro n k c _ _ _ _ _
  obtain ⟨a, b, hab⟩ := same n k c
  refine ⟨1048576 + 1048576, ?_⟩
  unfold laws_FnExactIsColouring.f
  by_cases h : (c.length : Int) > 1048576
  · rw [if_pos h]
  · rw [if_neg h, toIntS_is c (by omega) _ (by omega), Option.bind_some, (hab _ (by omega)).1, Option.bind_some, Option.bind_some, (hab _ (by omega)).2, Option.bind_some]
    simp only [bne_self_eq_false]
    rw [if_neg (by decide)]
    simp only [laws_FnExactIsColouring.j0]
    rw [if_neg (by decide), toIntS_is c (by omega) _ (by omega), Option.bind_some, eqIntS_same c (by omega) _ (by omega)]
    rfl

end Go.Proofs.Ytjklbakimmnjdaa.Pure
