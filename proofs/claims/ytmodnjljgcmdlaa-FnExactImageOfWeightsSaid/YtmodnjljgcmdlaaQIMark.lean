/- The law's own helpers markIntS and heldIntS as plain functions of lists, for lists shorter than 2^60. -/
import Derived.Test.YtmodnjljgcmdlaaQIx0
import Derived.Test.YtmodnjljgcmdlaaQIx5
import Derived.Test.YtmodnjljgcmdlaaQIx1
import Derived.Test.YtmodnjljgcmdlaaQIEqs
namespace Go.Proofs.Ytmodnjljgcmdlaa.Eqs
open Go.RowKit Go.Proofs.Ytmodnjljgcmdlaa.All Go.Proofs.YtmodnjljgcmdlaaW.PrintWords Go.Proofs.YtmodnjljgcmdlaaW.PrintLast

/-- What is written: c, c + 1, .. -/
def marks : Nat → Int → List Int
  | 0, _ => []
  | n + 1, c => c :: marks n (c + 1)
theorem marks_length : ∀ n c, (marks n c).length = n
  | 0, _ => rfl
  | n + 1, c => by simp [marks, marks_length n]
theorem marks_get : ∀ n c i, i < n → (marks n c).getD i 0 = c + i
  | 0, _, _, h => absurd h (Nat.not_lt_zero _)
  | n + 1, c, 0, _ => by simp [marks]
  | n + 1, c, i + 1, h => by
    have := marks_get n (c + 1) i (by omega)
    simp only [marks, List.getD_cons_succ]
    rw [this]; omega
theorem marks_snoc : ∀ n c, marks n c ++ [c + n] = marks (n + 1) c
  | 0, c => by simp [marks]
  | n + 1, c => by
    have := marks_snoc n (c + 1)
    simp only [marks, List.cons_append] at this ⊢
    rw [← this]
    congr 3; omega
theorem mark_step (l : List Int) (c : Int) (i : Nat) (hi : i < l.length) : (marks i c ++ l.drop i).set i (c + i) = marks (i + 1) c ++ l.drop (i + 1) := by
  rw [List.set_append_right _ _ (by rw [marks_length]; omega), marks_length, Nat.sub_self, List.drop_eq_getElem_cons hi, List.set_cons_zero, ← marks_snoc, List.append_assoc]
  rfl
theorem markIntS_l0 (l : List Int) (hl : l.length < 1152921504606846976) (c : Int) (hc0 : 0 ≤ c) (hc : c < 1152921504606846976) (d : Nat) : ∀ (k : Nat) (i : Nat), i ≤ l.length → l.length - i = d → d < k →
    laws_markIntS.l0 k (marks i c ++ l.drop i) (c + i) i = some (c + l.length, marks l.length c) := by
  induction d with
  | zero =>
    intro k i h1 hd hk
    obtain ⟨k, rfl⟩ : ∃ m, k = m + 1 := ⟨k - 1, by omega⟩
    obtain rfl : i = l.length := by omega
    simp only [laws_markIntS.l0]
    rw [if_neg (by simp [marks_length])]
    simp
  | succ d ih =>
    intro k i h1 hd hk
    obtain ⟨k, rfl⟩ : ∃ m, k = m + 1 := ⟨k - 1, by omega⟩
    simp only [laws_markIntS.l0]
    rw [if_pos (by simp [marks_length]; omega), if_pos (by omega), wrap_id (by omega) (by omega), wrap_id (by omega) (by omega), show ((i : Int)).toNat = i from rfl, mark_step l c i (by omega)]
    have := ih k (i + 1) (by omega) (by omega) (by omega)
    rw [show ((i : Int) + 1) = ((i + 1 : Nat) : Int) from rfl, show c + (i : Int) + 1 = c + ((i + 1 : Nat) : Int) by omega]
    exact this
theorem markIntS_is (l : List Int) (hl : l.length < 1152921504606846976) (c : Int) (hc0 : 0 ≤ c) (hc : c < 1152921504606846976) (k : Nat) (hk : l.length < k) : laws_markIntS.f k l c = some (c + l.length, marks l.length c) := by
  unfold laws_markIntS.f
  have := markIntS_l0 l hl c hc0 hc l.length k 0 (by omega) (by omega) hk
  simpa [marks] using this
theorem heldIntS_l0 (n : Nat) (hl : n < 1152921504606846976) (c : Int) (hc0 : 0 ≤ c) (hc : c < 1152921504606846976) (d : Nat) : ∀ (k : Nat) (i : Nat), i ≤ n → n - i = d → d < k →
    laws_heldIntS.l0 k (marks n c) (c + i) i = some (c + n) := by
  induction d with
  | zero =>
    intro k i h1 hd hk
    obtain ⟨k, rfl⟩ : ∃ m, k = m + 1 := ⟨k - 1, by omega⟩
    obtain rfl : i = n := by omega
    simp only [laws_heldIntS.l0]
    rw [if_neg (by simp [marks_length])]
  | succ d ih =>
    intro k i h1 hd hk
    obtain ⟨k, rfl⟩ : ∃ m, k = m + 1 := ⟨k - 1, by omega⟩
    simp only [laws_heldIntS.l0]
    rw [if_pos (by rw [marks_length]; omega), if_pos (by omega), if_pos (by show (marks n c).getD i 0 = _; exact marks_get n c i (by omega)), wrap_id (by omega) (by omega), wrap_id (by omega) (by omega)]
    have := ih k (i + 1) (by omega) (by omega) (by omega)
    rw [show ((i : Int) + 1) = ((i + 1 : Nat) : Int) from rfl, show c + (i : Int) + 1 = c + ((i + 1 : Nat) : Int) by omega]
    exact this
theorem heldIntS_marks (n : Nat) (hl : n < 1152921504606846976) (c : Int) (hc0 : 0 ≤ c) (hc : c < 1152921504606846976) (k : Nat) (hk : n < k) : laws_heldIntS.f k (marks n c) c = some (c + n) := by
  unfold laws_heldIntS.f
  have := heldIntS_l0 n hl c hc0 hc n k 0 (by omega) (by omega) hk
  simpa using this
end Go.Proofs.Ytmodnjljgcmdlaa.Eqs

