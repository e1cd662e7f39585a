/- FavouriteOf, EnvyAt, SumAt and RentEnvy: for every argument whose lists are not too long the reference and the program come to the same answer. -/
import Derived.Test.YtbbkohmebjcghaaQCx0
import Derived.Test.YtbbkohmebjcghaaQCx2
import Derived.Test.YtbbkohmebjcghaaQCx1
import Derived.Test.YtbbkohmebjcghaaQCCakeAs0
import Derived.Test.YtbbkohmebjcghaaQCCakeBs2
import Derived.Test.YtbbkohmebjcghaaQCEqs
namespace Go.Proofs.Ytbbkohmebjcghaa.Cake
open Go.RowKit Go.Proofs.Ytbbkohmebjcghaa.All Go.Proofs.Ytbbkohmebjcghaa.Eqs Go.Proofs.YtbbkohmebjcghaaW.PrintWords Go.Proofs.YtbbkohmebjcghaaW.PrintLast Go.Proofs.YtbbkohmebjcghaaW.PrintMore
theorem ord_facts {own : List Int} (h : isOrd own = true) : own.length = 3 ∧ ∀ i : Int, 0 ≤ i → i < 3 → 0 ≤ rd own i ∧ rd own i < 3 := by
  unfold isOrd at h
  simp only [List.any_eq_true, decide_eq_true_eq] at h
  obtain ⟨j, hj, he⟩ := h
  rw [← he]
  have : j = 0 ∨ j = 1 ∨ j = 2 ∨ j = 3 ∨ j = 4 ∨ j = 5 := by have := List.mem_range'.1 hj; omega
  have key : ∀ l : List Int, l.length = 3 → (0 ≤ rd l 0 ∧ rd l 0 < 3) → (0 ≤ rd l 1 ∧ rd l 1 < 3) → (0 ≤ rd l 2 ∧ rd l 2 < 3) → l.length = 3 ∧ ∀ i : Int, 0 ≤ i → i < 3 → 0 ≤ rd l i ∧ rd l i < 3 := by
    intro l hl h0 h1 h2
    refine ⟨hl, fun i a b => ?_⟩
    have : i = 0 ∨ i = 1 ∨ i = 2 := by omega
    rcases this with rfl | rfl | rfl
    · exact h0
    · exact h1
    · exact h2
  rcases this with rfl | rfl | rfl | rfl | rfl | rfl <;> exact key _ rfl (by decide) (by decide) (by decide)
/-- Three lists of three. -/
def Three (ws : List (List Int)) : Prop := ws.length = 3 ∧ ∀ i : Int, 0 ≤ i → i < 3 → (rd_L1 ws i).length = 3
theorem three_map {ls : List (List Int)} (f : List Int → List Int) (h : ls.length = 3) (hf : ∀ t, (f t).length = 3) : Three (ls.map f) := by
  refine ⟨by simpa using h, fun i a b => ?_⟩
  have : i.toNat < (ls.map f).length := by simp; omega
  simp [rd_L1, List.getD, List.getElem?_eq_getElem (show i.toNat < ls.length by omega), hf]
theorem envy_some (ws : List (List Int)) (own : List Int) (hw : Three ws) (ho : isOrd own = true) : ∀ k : Nat,
    (∀ (a : Nat) (i m : Int), 0 ≤ i → i + a = 3 → a * 5 < k → ∃ r, spec_ckEnvy.l0 k own m ws 3 i = some r) ∧
    (∀ (a : Nat) (i j m : Int), 0 ≤ i → i + a + 1 = 3 → 0 ≤ j → j ≤ 3 → a * 5 + (3 - j) + 1 < k → ∃ r, spec_ckEnvy.l1 k own m i (rd_L1 ws i) ws 3 i (rd_L1 ws i) 3 j = some r) := by
  obtain ⟨h3, hin⟩ := ord_facts ho
  intro k
  induction k with
  | zero => exact ⟨fun _ _ _ _ _ h => absurd h (Nat.not_lt_zero _), fun _ _ _ _ _ _ _ _ h => by omega⟩
  | succ k ih =>
    refine ⟨fun a i m h0 hi hk => ?_, fun a i j m h0 hi hj0 hj hk => ?_⟩
    · simp only [spec_ckEnvy.l0]
      cases a with
      | zero => rw [if_neg (by omega)]; exact ⟨m, rfl⟩
      | succ a =>
        have := hw.1
        rw [if_pos (by omega), if_pos (by omega), if_pos (by omega), hw.2 i h0 (by omega)]
        exact ih.2 a i 0 m h0 (by omega) (by omega) (by omega) (by omega)
    · simp only [spec_ckEnvy.l1]
      have e1 := hw.2 i h0 (by omega)
      have e2 := hin i h0 (by omega)
      have := hw.1
      by_cases h : j < 3
      · rw [if_pos h, if_pos hj0, if_pos (by omega), if_pos (by omega), if_pos (by omega), if_pos (by omega), if_pos (by omega), most_is, Option.bind_some, wrap_id (x := j + 1) (by omega) (by omega)]
        exact ih.2 a i (j + 1) _ h0 hi (by omega) (by omega) (by omega)
      · rw [if_neg h, wrap_id (by omega) (by omega)]
        exact ih.1 a (i + 1) m (by omega) (by omega) (by omega)
theorem envy_is (ws : List (List Int)) (own : List Int) (hw : Three ws) (ho : isOrd own = true) : ∃ r, ∀ k, 20 ≤ k → spec_ckEnvy.f k ws own = some r ∧ impl_envyOf.f k ws own = some r := by
  have h3 := (ord_facts ho).1
  have hl : (ws.length : Int) = 3 := by have := hw.1; omega
  obtain ⟨r, hr⟩ := (envy_some ws own hw ho 20).1 3 0 0 (by omega) (by omega) (by omega)
  have h1 : spec_ckEnvy.f 20 ws own = some r := by unfold spec_ckEnvy.f; rw [hl]; exact hr
  refine ⟨r, fun k hk => ?_⟩
  have h2 := at_rounds (spec_ckEnvy.mono ws own) hk h1
  refine ⟨h2, ?_⟩
  unfold impl_envyOf.f
  rw [← (envy_same ws own (by rw [hw.1, h3]) k).1 0 0]
  exact h2





end Go.Proofs.Ytbbkohmebjcghaa.Cake

