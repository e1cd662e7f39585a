/- heldIntSS finds what markIntSS wrote. -/
import Derived.Test.YteikfmoklpokhaaQAx0
import Derived.Test.YteikfmoklpokhaaQAx5
import Derived.Test.YteikfmoklpokhaaQAEqs
import Derived.Test.YteikfmoklpokhaaQAEqsR
import Derived.Test.YteikfmoklpokhaaQAMark
import Derived.Test.YteikfmoklpokhaaQAOwn
namespace Go.Proofs.Yteikfmoklpokhaa.Own
open Go.RowKit Go.Proofs.Yteikfmoklpokhaa.All Go.Proofs.Yteikfmoklpokhaa.Eqs Go.Proofs.YteikfmoklpokhaaW.PrintWords Go.Proofs.YteikfmoklpokhaaW.PrintLast
set_option linter.unusedVariables false
theorem marksS_small {ls : List (List Int)} (h : Small ls) (a : Int) : Small (marksS ls a) := by
  refine ⟨by rw [marksS_length]; exact h.1, ?_⟩
  have h2 := h.2
  clear h
  induction ls generalizing a with
  | nil => simp [marksS]
  | cons l ls ih =>
    intro x hx
    simp only [marksS, List.mem_cons] at hx
    rcases hx with rfl | hx
    · rw [marks_length]; exact h2 l (by simp)
    · exact ih _ (fun y hy => h2 y (by simp [hy])) x hx
theorem marksS_getD : ∀ (ls : List (List Int)) (a : Int) (i : Nat), i < ls.length → (marksS ls a).getD i [] = marks (ls.getD i []).length (a + (total (ls.take i) : Int))
  | [], _, _, h => absurd h (Nat.not_lt_zero _)
  | l :: ls, a, 0, _ => by simp [marksS, total]
  | l :: ls, a, i + 1, h => by
    have := marksS_getD ls (a + (l.length : Int)) i (by simpa using h)
    simp only [marksS, List.getD_cons_succ, List.take_succ_cons, total]
    rw [this]
    congr 1; omega
theorem heldS_l0 (ls : List (List Int)) (hs : Small ls) (a : Int) (ha : 0 ≤ a) (ha2 : a ≤ 1125899906842624) (d : Nat) : ∀ (k i : Nat), i + d = ls.length → d + 1048578 < k →
    laws_heldIntSS.l0 k (marksS ls a) (a + (total (ls.take i) : Int)) i = some (a + (total ls : Int)) := by
  have hl := hs.1
  have ht := total_small hs
  induction d with
  | zero =>
    intro k i hi hk
    obtain ⟨k, rfl⟩ : ∃ m, k = m + 1 := ⟨k - 1, by omega⟩
    simp only [laws_heldIntSS.l0]
    rw [if_neg (by rw [marksS_length]; omega), List.take_of_length_le (by omega)]
  | succ d ih =>
    intro k i hi hk
    obtain ⟨k, rfl⟩ : ∃ m, k = m + 1 := ⟨k - 1, by omega⟩
    have hlt : i < ls.length := by omega
    have hti := total_take_le ls i
    have hx : (ls.getD i []).length ≤ 1048576 := hs.2 _ (getD_mem hlt)
    have hts := total_take ls i hlt
    have hti2 := total_take_le ls (i + 1)
    simp only [laws_heldIntSS.l0]
    rw [if_pos (by rw [marksS_length]; omega), if_pos (by omega), show rd_L1 (marksS ls a) (i : Int) = (marksS ls a).getD i [] from rfl, marksS_getD ls a i hlt, heldIntS_marks _ (by omega) _ (by omega) (by omega) k (by omega)]
    simp only [Option.bind_some]
    rw [if_neg (by omega), wrap_id (by omega) (by omega), show a + (total (ls.take i) : Int) + ((ls.getD i []).length : Int) = a + (total (ls.take (i + 1)) : Int) by omega, show ((i : Int) + 1) = ((i + 1 : Nat) : Int) by omega]
    exact ih k (i + 1) (by omega) (by omega)
theorem heldSS_is (ls : List (List Int)) (hs : Small ls) (a : Int) (ha : 0 ≤ a) (ha2 : a ≤ 1125899906842624) (k : Nat) (hk : 3000000 < k) : laws_heldIntSS.f k (marksS ls a) a = some (a + (total ls : Int)) := by
  have hl := hs.1
  unfold laws_heldIntSS.f
  have := heldS_l0 ls hs a ha ha2 ls.length k 0 (by omega) (by omega)
  simpa [total] using this
theorem heldS (k : Nat) (w : World) (lo hi : Nat) (A : Option Addr) (n c : Nat) (ls : List (List Int)) (a m : Int) (h : OS w lo hi (.slice A n c) (marksS ls a)) (hs : Small ls) (ha : 0 ≤ a) (ha2 : a ≤ 1125899906842624) (hm : m = a + (total ls : Int)) (hk : 3000000 < k) :
    Calls Try.prog 47 #[.slice A n c, .int .i64 a] w fun e w' => e = .returned (.int .i64 m) ∧ Below w.heap.size w w' := by
  subst hm
  have hr := h.reads
  have e : n = (marksS ls a).length := hr.1
  subst e
  refine (laws_heldIntSS.calls k A c (marksS ls a) a (a + (total ls : Int)) w hr.2.2 hr.2.1 (heldSS_is ls hs a ha ha2 k hk)).mono ?_
  rintro e w' ⟨rfl, hd⟩
  refine ⟨rfl, ?_⟩
  first | exact hd | (obtain ⟨q, rfl⟩ := hd; exact pw_below_drewN (Below.refl _ _) _)
end Go.Proofs.Yteikfmoklpokhaa.Own

