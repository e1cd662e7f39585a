/- The law's own helpers on games: szGame, toGame and eqGame as plain functions. -/
import Derived.Test.YteikfmoklpokhaaQAx0
import Derived.Test.YteikfmoklpokhaaQAx1
import Derived.Test.YteikfmoklpokhaaQAx3
import Derived.Test.YteikfmoklpokhaaQAx5
import Derived.Test.YteikfmoklpokhaaQAEqs
import Derived.Test.YteikfmoklpokhaaQAEqsR
namespace Go.Proofs.Yteikfmoklpokhaa.Eqs
open Go.RowKit Go.Proofs.Yteikfmoklpokhaa.All Go.Proofs.YteikfmoklpokhaaW.PrintWords Go.Proofs.YteikfmoklpokhaaW.PrintLast
theorem szg_l0 (ls : List (List Int)) (hm : ∀ l ∈ ls, l.length ≤ maxLen) (hl : ls.length ≤ maxLen) (d : Nat) : ∀ (k i : Nat) (left : Int), i + d = ls.length → d < k → 0 ≤ left → left ≤ 1048576 →
    ∃ r, laws_szIntSS.l0 k ls left i = some r ∧ r ≤ 1048576 ∧ (0 ≤ r → ∀ j, i ≤ j → j < ls.length → (ls.getD j []).length ≤ 1048576) := by
  induction d with
  | zero =>
    intro k i left hi hk h0 h1
    obtain ⟨k, rfl⟩ : ∃ m, k = m + 1 := ⟨k - 1, by omega⟩
    simp only [laws_szIntSS.l0]
    rw [if_neg (by omega)]
    exact ⟨left, rfl, h1, fun _ j h2 h3 => by omega⟩
  | succ d ih =>
    intro k i left hi hk h0 h1
    obtain ⟨k, rfl⟩ : ∃ m, k = m + 1 := ⟨k - 1, by omega⟩
    simp only [laws_szIntSS.l0]
    unfold maxLen at hm hl
    have e1 : ((i : Int) < (ls.length : Int)) = True := eq_true (by omega)
    have e2 : ((0 : Int) ≤ (i : Int)) = True := eq_true (by omega)
    have e3 : wrap64 ((i : Int) + 1) = ((i + 1 : Nat) : Int) := wrap_id (by omega) (by omega)
    simp only [e1, e2, e3, if_true]
    have hx := hm _ (getD_mem (ls := ls) (i := i) (by omega))
    rw [show rd_L1 ls (i : Int) = ls.getD i [] from rfl]
    unfold laws_szIntS.f
    have e4 : wrap64 (left - ((ls.getD i []).length : Int)) = left - ((ls.getD i []).length : Int) := wrap_id (by omega) (by omega)
    rw [e4]
    by_cases h : left - ((ls.getD i []).length : Int) < 0
    · rw [if_pos h]
      exact ⟨-1, rfl, by omega, fun h => by omega⟩
    · rw [if_neg h]
      simp only [Option.bind_some]
      rw [if_neg h]
      obtain ⟨r, hr, hb, hj⟩ := ih k (i + 1) (left - ((ls.getD i []).length : Int)) (by omega) (by omega) (by omega) (by omega)
      refine ⟨r, hr, hb, fun h0 j h2 h3 => ?_⟩
      by_cases e : j = i
      · subst e; omega
      · exact hj h0 j (by omega) h3
theorem szAny (ls : List (List Int)) (hl : ls.length ≤ maxLen) (hm : ∀ l ∈ ls, l.length ≤ maxLen) (left : Int) (h0 : 0 ≤ left) (h1 : left ≤ 1048576) : ∃ r, r ≤ 1048576 ∧ (0 ≤ r → Small ls) ∧ ∀ k, 1048577 < k → laws_szIntSS.f k ls left = some r := by
  have hl' := hl
  unfold maxLen at hl'
  have hw : wrap64 (left - (ls.length : Int)) = left - (ls.length : Int) := wrap_id (by omega) (by omega)
  by_cases h : left - (ls.length : Int) < 0
  · refine ⟨-1, by omega, fun h => by omega, fun k _ => ?_⟩
    unfold laws_szIntSS.f
    rw [hw, if_pos h]
  · obtain ⟨r, hr, hb, hj⟩ := szg_l0 ls hm hl ls.length 1048578 0 (left - (ls.length : Int)) (by omega) (by omega) (by omega) (by omega)
    have key : laws_szIntSS.f 1048578 ls left = some r := by
      unfold laws_szIntSS.f
      rw [hw, if_neg h]
      exact hr
    refine ⟨r, hb, fun h0 => ⟨by omega, fun l hl' => ?_⟩, fun k hk => at_rounds (laws_szIntSS.mono ls left) (show 1048578 ≤ k by omega) key⟩
    obtain ⟨j, hj', rfl⟩ := List.mem_iff_getElem.1 hl'
    have := hj h0 j (Nat.zero_le _) hj'
    simpa [List.getD, List.getElem?_eq_getElem hj'] using this
theorem szGame_is (a b : List (List Int)) (ha : a.length ≤ maxLen) (hb : b.length ≤ maxLen) (hma : ∀ l ∈ a, l.length ≤ maxLen) (hmb : ∀ l ∈ b, l.length ≤ maxLen) : ∃ r, (0 ≤ r → Small a ∧ Small b) ∧ ∀ k, 1048577 < k → laws_szGame.f k a b 1048576 = some r := by
  obtain ⟨r, h1, h2, h3⟩ := szAny a ha hma 1048576 (by omega) (by omega)
  by_cases h : r < 0
  · refine ⟨-1, fun h => by omega, fun k hk => ?_⟩
    unfold laws_szGame.f
    rw [h3 k hk, Option.bind_some, if_pos h]
  · obtain ⟨r', h1', h2', h3'⟩ := szAny b hb hmb r (by omega) h1
    by_cases h' : r' < 0
    · refine ⟨-1, fun h => by omega, fun k hk => ?_⟩
      unfold laws_szGame.f
      rw [h3 k hk, Option.bind_some, if_neg h, h3' k hk, Option.bind_some, if_pos h']
    · refine ⟨r', fun _ => ⟨h2 (by omega), h2' (by omega)⟩, fun k hk => ?_⟩
      unfold laws_szGame.f
      rw [h3 k hk, Option.bind_some, if_neg h, h3' k hk, Option.bind_some, if_neg h']
theorem toGame_is (a b : List (List Int)) (ha : Small a) (hb : Small b) (k : Nat) (hk : 2097155 < k) : laws_toGame.f k a b = some (a, b) := by
  unfold laws_toGame.f
  rw [toIntSS_is a ha k hk, Option.bind_some, toIntSS_is b hb k hk, Option.bind_some]
theorem eqGame_same (a b : List (List Int)) (ha : Small a) (hb : Small b) (k : Nat) (hk : 2097155 < k) : laws_eqGame.f k a b a b = some true := by
  unfold laws_eqGame.f
  rw [eqIntSS_same a ha k hk, Option.bind_some, if_pos rfl, eqIntSS_same b hb k hk, Option.bind_some, if_pos rfl]
end Go.Proofs.Yteikfmoklpokhaa.Eqs

