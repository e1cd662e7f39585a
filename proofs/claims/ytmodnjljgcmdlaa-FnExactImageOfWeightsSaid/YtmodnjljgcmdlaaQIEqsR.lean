/- The law's own helpers on lists of lists of whole numbers: szIntSS, toIntSS and eqIntSS as plain functions. -/
import Derived.Test.YtmodnjljgcmdlaaQIx0
import Derived.Test.YtmodnjljgcmdlaaQIx5
import Derived.Test.YtmodnjljgcmdlaaQIEqs
import Derived.Test.YtmodnjljgcmdlaaQIToInt
namespace Go.Proofs.Ytmodnjljgcmdlaa.Eqs
open Go.RowKit Go.Proofs.Ytmodnjljgcmdlaa.All Go.Proofs.YtmodnjljgcmdlaaW.PrintWords Go.Proofs.YtmodnjljgcmdlaaW.PrintLast

/-- Few enough to be looked at. -/
def Small (ls : List (List Int)) : Prop := ls.length ≤ 1048576 ∧ ∀ l ∈ ls, l.length ≤ 1048576
theorem getD_mem {ls : List (List Int)} {i : Nat} (hi : i < ls.length) : ls.getD i [] ∈ ls := by
  simp [List.getD, List.getElem?_eq_getElem hi]
theorem sz_l0 (ls : List (List Int)) (hm : ∀ l ∈ ls, l.length ≤ maxLen) (hl : ls.length ≤ maxLen) (d : Nat) : ∀ (k i : Nat) (left : Int), i + d = ls.length → d < k → 0 ≤ left → left ≤ 1048576 →
    ∃ r, laws_szIntSS.l0 k ls left i = some r ∧ (0 ≤ r → ∀ j, i ≤ j → j < ls.length → (ls.getD j []).length ≤ 1048576) := by
  induction d with
  | zero =>
    intro k i left hi hk h0 h1
    obtain ⟨k, rfl⟩ : ∃ m, k = m + 1 := ⟨k - 1, by omega⟩
    simp only [laws_szIntSS.l0]
    rw [if_neg (by omega)]
    exact ⟨left, rfl, fun _ j h2 h3 => by omega⟩
  | succ d ih =>
    intro k i left hi hk h0 h1
    obtain ⟨k, rfl⟩ : ∃ m, k = m + 1 := ⟨k - 1, by omega⟩
    simp only [laws_szIntSS.l0]
    unfold maxLen at hm hl
    have e1 : ((i : Int) < (ls.length : Int)) = True := eq_true (by omega)
    have e2 : ((0 : Int) ≤ (i : Int)) = True := eq_true (by omega)
    have e3 : wrap64 ((i : Int) + 1) = ((i + 1 : Nat) : Int) := wrap_id (by omega) (by omega)
    simp only [e1, e2, e3, if_true]
    have hx := hm _ (getD_mem (ls := ls) (i := i) (by omega))
    rw [show rd_L1 ls (i : Int) = ls.getD i [] from rfl]
    unfold laws_szIntS.f
    have e4 : wrap64 (left - ((ls.getD i []).length : Int)) = left - ((ls.getD i []).length : Int) := wrap_id (by omega) (by omega)
    rw [e4]
    by_cases h : left - ((ls.getD i []).length : Int) < 0
    · rw [if_pos h]
      exact ⟨-1, rfl, fun h => by omega⟩
    · rw [if_neg h]
      simp only [Option.bind_some]
      rw [if_neg h]
      obtain ⟨r, hr, hj⟩ := ih k (i + 1) (left - ((ls.getD i []).length : Int)) (by omega) (by omega) (by omega) (by omega)
      refine ⟨r, hr, fun h0 j h2 h3 => ?_⟩
      by_cases e : j = i
      · subst e; omega
      · exact hj h0 j (by omega) h3
theorem szIntSS_is (ls : List (List Int)) (hl : ls.length ≤ maxLen) (hm : ∀ l ∈ ls, l.length ≤ maxLen) : (∀ k, 1048577 < k → ∃ r, laws_szIntSS.f k ls 1048576 = some r ∧ r < 0) ∨ (Small ls ∧ ∀ k, 1048577 < k → ∃ r, laws_szIntSS.f k ls 1048576 = some r ∧ 0 ≤ r) := by
  by_cases h : (1048576 : Int) - (ls.length : Int) < 0
  · refine .inl fun k _ => ⟨-1, ?_, by omega⟩
    unfold laws_szIntSS.f
    have hl' := hl
    unfold maxLen at hl'
    rw [show wrap64 (1048576 - (ls.length : Int)) = 1048576 - (ls.length : Int) from wrap_id (by omega) (by omega), if_pos h]
  · have key : ∀ k, 1048577 < k → laws_szIntSS.f k ls 1048576 = laws_szIntSS.l0 k ls (1048576 - (ls.length : Int)) 0 := by
      intro k _
      unfold laws_szIntSS.f
      rw [show wrap64 (1048576 - (ls.length : Int)) = 1048576 - (ls.length : Int) from wrap_id (by omega) (by omega), if_neg h]
    obtain ⟨r, hr, hj⟩ := sz_l0 ls hm hl ls.length 1048578 0 (1048576 - (ls.length : Int)) (by omega) (by omega) (by omega) (by omega)
    have up : ∀ k, 1048577 < k → laws_szIntSS.f k ls 1048576 = some r := fun k hk => at_rounds (laws_szIntSS.mono ls 1048576) (show 1048578 ≤ k by omega) ((key _ (by omega)).trans hr)
    by_cases h0 : r < 0
    · exact .inl fun k hk => ⟨r, up k hk, h0⟩
    · refine .inr ⟨⟨by omega, fun l hl' => ?_⟩, fun k hk => ⟨r, up k hk, by omega⟩⟩
      obtain ⟨j, hj', rfl⟩ := List.mem_iff_getElem.1 hl'
      have := hj (by omega) j (Nat.zero_le _) hj'
      simpa [List.getD, List.getElem?_eq_getElem hj'] using this
theorem copyR_step (l : List (List Int)) (i : Nat) (hi : i < l.length) : (l.take i ++ List.replicate (l.length - i) []).set i (l.getD i []) = l.take (i + 1) ++ List.replicate (l.length - (i + 1)) [] := by
  have h1 : (l.take i).length = i := by simp; omega
  rw [List.set_append_right _ _ (by omega), h1, Nat.sub_self, show l.length - i = (l.length - (i + 1)) + 1 by omega, List.replicate_succ, List.set_cons_zero, List.take_succ_eq_append_getElem hi, List.append_assoc]
  simp [List.getD, List.getElem?_eq_getElem hi]
theorem toIntSS_l0 (l : List (List Int)) (hs : Small l) (d : Nat) : ∀ (k : Nat) (i : Nat), i ≤ l.length → l.length - i = d → d + 1048578 < k →
    laws_toIntSS.l0 k l (l.take i ++ List.replicate (l.length - i) []) i = some l := by
  have hl := hs.1
  induction d with
  | zero =>
    intro k i h1 hd hk
    obtain ⟨k, rfl⟩ : ∃ m, k = m + 1 := ⟨k - 1, by omega⟩
    obtain rfl : i = l.length := by omega
    simp only [laws_toIntSS.l0]
    rw [if_neg (by omega)]
    simp
  | succ d ih =>
    intro k i h1 hd hk
    obtain ⟨k, rfl⟩ : ∃ m, k = m + 1 := ⟨k - 1, by omega⟩
    simp only [laws_toIntSS.l0]
    have h2 : (l.take i ++ List.replicate (l.length - i) ([] : List Int)).length = l.length := by simp; omega
    have h3 := hs.2 _ (getD_mem (ls := l) (i := i) (by omega))
    rw [if_pos (by omega), if_pos (by omega), show rd_L1 l (i : Int) = l.getD i [] from rfl, toIntS_is _ h3 k (by omega), Option.bind_some, if_pos (by rw [h2]; omega), wrap_id (by omega) (by omega), show ((i : Int)).toNat = i from rfl, copyR_step l i (by omega)]
    exact ih k (i + 1) (by omega) (by omega) (by omega)
theorem toIntSS_is (l : List (List Int)) (hs : Small l) (k : Nat) (hk : 2097155 < k) : laws_toIntSS.f k l = some l := by
  have hl := hs.1
  unfold laws_toIntSS.f
  rw [if_pos (by omega), if_pos (by omega)]
  have := toIntSS_l0 l hs l.length k 0 (by omega) (by omega) (by omega)
  simpa using this
theorem eqIntSS_l0 (l : List (List Int)) (hs : Small l) (d : Nat) : ∀ (k i : Nat), i + d = l.length → d + 1048578 < k → laws_eqIntSS.l0 k l l i = some true := by
  have hl := hs.1
  induction d with
  | zero =>
    intro k i hi hk
    obtain ⟨k, rfl⟩ : ∃ m, k = m + 1 := ⟨k - 1, by omega⟩
    simp only [laws_eqIntSS.l0]; rw [if_neg (by omega)]
  | succ d ih =>
    intro k i hi hk
    obtain ⟨k, rfl⟩ : ∃ m, k = m + 1 := ⟨k - 1, by omega⟩
    simp only [laws_eqIntSS.l0]
    have h3 := hs.2 _ (getD_mem (ls := l) (i := i) (by omega))
    rw [if_pos (by omega), if_pos (by omega), if_pos (by omega), show rd_L1 l (i : Int) = l.getD i [] from rfl, eqIntS_same _ (by omega) k (by omega), Option.bind_some, if_pos rfl, wrap_id (by omega) (by omega)]
    exact ih k (i + 1) (by omega) (by omega)
theorem eqIntSS_same (l : List (List Int)) (hs : Small l) (k : Nat) (hk : 2097155 < k) : laws_eqIntSS.f k l l = some true := by
  have hl := hs.1
  unfold laws_eqIntSS.f
  rw [if_pos rfl]
  exact eqIntSS_l0 l hs l.length k 0 (by omega) (by omega)
end Go.Proofs.Ytmodnjljgcmdlaa.Eqs

