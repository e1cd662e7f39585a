/- FavouriteOf, EnvyAt, SumAt and RentEnvy: for every argument whose lists are not too long the reference and the program come to the same answer. -/
import Derived.Test.YtbbkohmebjcghaaEnvx19
import Derived.Test.YtbbkohmebjcghaaEnvx20
import Derived.Test.YtbbkohmebjcghaaEnvx15
import Derived.Test.YtbbkohmebjcghaaEnvx18
import Derived.Test.YtbbkohmebjcghaaEnvx6
import Derived.Test.YtbbkohmebjcghaaEnvx11
import Derived.Test.YtbbkohmebjcghaaCakeC
namespace Go.Proofs.Ytbbkohmebjcghaa.Cake
open Go.RowKit Go.Proofs.Ytbbkohmebjcghaa.Env Go.Proofs.Ytbbkohmebjcghaa.Eqs Go.Proofs.YtbbkohmebjcghaaW.PrintWords Go.Proofs.YtbbkohmebjcghaaW.PrintLast Go.Proofs.YtbbkohmebjcghaaW.PrintMore
theorem ord_facts {own : List Int} (h : isOrd own = true) : own.length = 3 ∧ ∀ i : Int, 0 ≤ i → i < 3 → 0 ≤ rd own i ∧ rd own i < 3 := by
  unfold isOrd at h
  simp only [List.any_eq_true, decide_eq_true_eq] at h
  obtain ⟨j, hj, he⟩ := h
  rw [← he]
  have : j = 0 ∨ j = 1 ∨ j = 2 ∨ j = 3 ∨ j = 4 ∨ j = 5 := by have := List.mem_range'.1 hj; omega
  have key : ∀ l : List Int, l.length = 3 → (0 ≤ rd l 0 ∧ rd l 0 < 3) → (0 ≤ rd l 1 ∧ rd l 1 < 3) → (0 ≤ rd l 2 ∧ rd l 2 < 3) → l.length = 3 ∧ ∀ i : Int, 0 ≤ i → i < 3 → 0 ≤ rd l i ∧ rd l i < 3 := by
    intro l hl h0 h1 h2
    refine ⟨hl, fun i a b => ?_⟩
    have : i = 0 ∨ i = 1 ∨ i = 2 := by omega
    rcases this with rfl | rfl | rfl
    · exact h0
    · exact h1
    · exact h2
  rcases this with rfl | rfl | rfl | rfl | rfl | rfl <;> exact key _ rfl (by decide) (by decide) (by decide)
/-- Three lists of three. -/
def Three (ws : List (List Int)) : Prop := ws.length = 3 ∧ ∀ i : Int, 0 ≤ i → i < 3 → (rd_L1 ws i).length = 3
theorem three_map {ls : List (List Int)} (f : List Int → List Int) (h : ls.length = 3) (hf : ∀ t, (f t).length = 3) : Three (ls.map f) := by
  refine ⟨by simpa using h, fun i a b => ?_⟩
  have : i.toNat < (ls.map f).length := by simp; omega
  simp [rd_L1, List.getD, List.getElem?_eq_getElem (show i.toNat < ls.length by omega), hf]
theorem envy_some (ws : List (List Int)) (own : List Int) (hw : Three ws) (ho : isOrd own = true) : ∀ k : Nat,
    (∀ (a : Nat) (i m : Int), 0 ≤ i → i + a = 3 → a * 5 < k → ∃ r, spec_ckEnvy.l0 k own m ws 3 i = some r) ∧
    (∀ (a : Nat) (i j m : Int), 0 ≤ i → i + a + 1 = 3 → 0 ≤ j → j ≤ 3 → a * 5 + (3 - j) + 1 < k → ∃ r, spec_ckEnvy.l1 k own m i (rd_L1 ws i) ws 3 i (rd_L1 ws i) 3 j = some r) := by
  obtain ⟨h3, hin⟩ := ord_facts ho
  intro k
  induction k with
  | zero => exact ⟨fun _ _ _ _ _ h => absurd h (Nat.not_lt_zero _), fun _ _ _ _ _ _ _ _ h => by omega⟩
  | succ k ih =>
    refine ⟨fun a i m h0 hi hk => ?_, fun a i j m h0 hi hj0 hj hk => ?_⟩
    · simp only [spec_ckEnvy.l0]
      cases a with
      | zero => rw [if_neg (by omega)]; exact ⟨m, rfl⟩
      | succ a =>
        have := hw.1
        rw [if_pos (by omega), if_pos (by omega), if_pos (by omega), hw.2 i h0 (by omega)]
        exact ih.2 a i 0 m h0 (by omega) (by omega) (by omega) (by omega)
    · simp only [spec_ckEnvy.l1]
      have e1 := hw.2 i h0 (by omega)
      have e2 := hin i h0 (by omega)
      have := hw.1
      by_cases h : j < 3
      · rw [if_pos h, if_pos hj0, if_pos (by omega), if_pos (by omega), if_pos (by omega), if_pos (by omega), if_pos (by omega), most_is, Option.bind_some, wrap_id (x := j + 1) (by omega) (by omega)]
        exact ih.2 a i (j + 1) _ h0 hi (by omega) (by omega) (by omega)
      · rw [if_neg h, wrap_id (by omega) (by omega)]
        exact ih.1 a (i + 1) m (by omega) (by omega) (by omega)
theorem envy_is (ws : List (List Int)) (own : List Int) (hw : Three ws) (ho : isOrd own = true) : ∃ r, ∀ k, 20 ≤ k → spec_ckEnvy.f k ws own = some r ∧ impl_envyOf.f k ws own = some r := by
  have h3 := (ord_facts ho).1
  have hl : (ws.length : Int) = 3 := by have := hw.1; omega
  obtain ⟨r, hr⟩ := (envy_some ws own hw ho 20).1 3 0 0 (by omega) (by omega) (by omega)
  have h1 : spec_ckEnvy.f 20 ws own = some r := by unfold spec_ckEnvy.f; rw [hl]; exact hr
  refine ⟨r, fun k hk => ?_⟩
  have h2 := at_rounds (spec_ckEnvy.mono ws own) hk h1
  refine ⟨h2, ?_⟩
  unfold impl_envyOf.f
  rw [← (envy_same ws own (by rw [hw.1, h3]) k).1 0 0]
  exact h2
theorem sum_some (ws : List (List Int)) (own : List Int) (hw : Three ws) (ho : isOrd own = true) : ∀ (a k : Nat) (i s : Int), 0 ≤ i → i + a = 3 → a < k → ∃ r, spec_ckSum.l0 k own s ws 3 i = some r := by
  obtain ⟨h3, hin⟩ := ord_facts ho
  have hl := hw.1
  intro a
  induction a with
  | zero =>
    intro k i s h0 hi hk
    obtain ⟨k, rfl⟩ : ∃ m, k = m + 1 := ⟨k - 1, by omega⟩
    simp only [spec_ckSum.l0]; rw [if_neg (by omega)]; exact ⟨s, rfl⟩
  | succ a ih =>
    intro k i s h0 hi hk
    obtain ⟨k, rfl⟩ : ∃ m, k = m + 1 := ⟨k - 1, by omega⟩
    simp only [spec_ckSum.l0]
    have e1 := hw.2 i h0 (by omega)
    have e2 := hin i h0 (by omega)
    rw [if_pos (by omega), if_pos (by omega), if_pos (by omega), if_pos (by omega), if_pos (by omega), if_pos (by omega), wrap_id (x := i + 1) (by omega) (by omega)]
    exact ih k (i + 1) _ (by omega) (by omega) (by omega)
/-- A point's three numbers. -/
theorem point_is {n i : Int} (h : isPt n i = true) : ∃ (ps : List S54) (a b c : Nat), (∀ k, 100 ≤ k → impl_points.f k n = some ps) ∧ i < (ps.length : Int) ∧ (rd_T54 ps i).f0 = a ∧ (rd_T54 ps i).f1 = b ∧ (rd_T54 ps i).f2 = c ∧ (∀ k, 20 ≤ k → spec_meAt.f k n i = some [(a : Int), (b : Int), (c : Int)]) ∧ (a : Int) + b + c = n := by
  obtain ⟨h1, h8, h0, hlt⟩ := pt_bounds h
  obtain ⟨ps, hp, hl, _, hpt⟩ := pts n h1 h8
  obtain ⟨e, p0, p1, p2, ps'⟩ := hpt i.toNat (by omega)
  rw [show ((i.toNat : Nat) : Int) = i by omega] at e p0 p1 p2 ps'
  exact ⟨ps, (rd_T54 ps i).f0.toNat, (rd_T54 ps i).f1.toNat, (rd_T54 ps i).f2.toNat, hp, by omega, by omega, by omega, by omega, fun k hk => by rw [e k hk]; congr 1; simp only [List.cons.injEq, and_true]; omega, by omega⟩
theorem envyAt_same (n : Int) (ls : List (List Int)) (i : Int) (own : List Int) (hs : Small ls) : ∃ r b, ∀ k, 2097200 ≤ k → spec_EnvyAt.f k n ls i own = some (r, b) ∧ impl_EnvyAt.f k n ls i own = some (r, b) := by
  have zero : ∀ k, 2097200 ≤ k → spec_EnvyAt.j0 k n ls i own true = some (0, false) ∧ impl_EnvyAt.j0 k n ls i own true = some (0, false) := fun k hk => by
    obtain ⟨k, rfl⟩ : ∃ m, k = m + 1 := ⟨k - 1, by omega⟩
    exact ⟨rfl, rfl⟩
  have unf : ∀ k, 2097200 ≤ k → spec_EnvyAt.f k n ls i own = (if tastesOk n ls = true then (if isPt n i = true then spec_EnvyAt.j0 k n ls i own (!isOrd own) else spec_EnvyAt.j0 k n ls i own true) else spec_EnvyAt.j0 k n ls i own true) ∧ impl_EnvyAt.f k n ls i own = (if tastesOk n ls = true then (if isPt n i = true then impl_EnvyAt.j0 k n ls i own (!isOrd own) else impl_EnvyAt.j0 k n ls i own true) else impl_EnvyAt.j0 k n ls i own true) := fun k hk => by
    unfold spec_EnvyAt.f impl_EnvyAt.f
    rw [spec_tastes n ls hs k (by omega), impl_tastes, spec_point, impl_point, shares_is own k (by omega)]
    exact ⟨rfl, rfl⟩
  by_cases ht : tastesOk n ls = true
  · by_cases hp : isPt n i = true
    · by_cases ho : isOrd own = true
      · obtain ⟨h1, h8, hg⟩ := good_of ht
        obtain ⟨ps, a, b, c, hps, hlt, e0, e1, e2, hat, hsum⟩ := point_is hp
        obtain ⟨_, _, h0, _⟩ := pt_bounds hp
        have hg' : Good (a + b + c) ls := by rwa [show n.toNat = a + b + c by omega] at hg
        obtain ⟨r, hr⟩ := envy_is (ls.map (worth3 a b c)) own (three_map _ hg.1 (fun _ => rfl)) ho
        refine ⟨r, true, fun k hk => ?_⟩
        obtain ⟨u1, u2⟩ := unf k hk
        rw [u1, u2, if_pos ht, if_pos hp, if_pos ht, if_pos hp, ho]
        obtain ⟨k, rfl⟩ : ∃ m, k = m + 1 := ⟨k - 1, by omega⟩
        simp only [spec_EnvyAt.j0, impl_EnvyAt.j0, Bool.not_true]
        rw [if_neg (by decide), if_neg (by decide), spec_worths n i a b c hat ls hg' (by omega) k (by omega), hps k (by omega), Option.bind_some, Option.bind_some, if_pos h0, if_pos hlt, e0, e1, e2, impl_worths a b c ls hg' (by omega) k (by omega), Option.bind_some, (hr k (by omega)).1, (hr k (by omega)).2]
        exact ⟨rfl, rfl⟩
      · refine ⟨0, false, fun k hk => ?_⟩
        obtain ⟨u1, u2⟩ := unf k hk
        rw [u1, u2, if_pos ht, if_pos hp, if_pos ht, if_pos hp, Bool.eq_false_iff.mpr ho]
        exact zero k hk
    · refine ⟨0, false, fun k hk => ?_⟩
      obtain ⟨u1, u2⟩ := unf k hk
      rw [u1, u2, if_pos ht, if_neg hp, if_pos ht, if_neg hp]
      exact zero k hk
  · refine ⟨0, false, fun k hk => ?_⟩
    obtain ⟨u1, u2⟩ := unf k hk
    rw [u1, u2, if_neg ht, if_neg ht]
    exact zero k hk
theorem sumAt_is (n : Int) (ls : List (List Int)) (i : Int) (own : List Int) (hs : Small ls) : ∃ r b, ∀ k, 2097200 ≤ k → spec_SumAt.f k n ls i own = some (r, b) ∧ impl_SumAt.f k n ls i own = some (r, b) := by
  have zero : ∀ k, 2097200 ≤ k → spec_SumAt.j0 k n ls i own true = some (0, false) ∧ impl_SumAt.j0 k n ls i own true = some (0, false) := fun k hk => by
    obtain ⟨k, rfl⟩ : ∃ m, k = m + 1 := ⟨k - 1, by omega⟩
    exact ⟨rfl, rfl⟩
  have unf : ∀ k, 2097200 ≤ k → spec_SumAt.f k n ls i own = (if tastesOk n ls = true then (if isPt n i = true then spec_SumAt.j0 k n ls i own (!isOrd own) else spec_SumAt.j0 k n ls i own true) else spec_SumAt.j0 k n ls i own true) ∧ impl_SumAt.f k n ls i own = (if tastesOk n ls = true then (if isPt n i = true then impl_SumAt.j0 k n ls i own (!isOrd own) else impl_SumAt.j0 k n ls i own true) else impl_SumAt.j0 k n ls i own true) := fun k hk => by
    unfold spec_SumAt.f impl_SumAt.f
    rw [spec_tastes n ls hs k (by omega), impl_tastes, spec_point, impl_point, shares_is own k (by omega)]
    exact ⟨rfl, rfl⟩
  by_cases ht : tastesOk n ls = true
  · by_cases hp : isPt n i = true
    · by_cases ho : isOrd own = true
      · obtain ⟨h1, h8, hg⟩ := good_of ht
        obtain ⟨ps, a, b, c, hps, hlt, e0, e1, e2, hat, hsum⟩ := point_is hp
        obtain ⟨_, _, h0, _⟩ := pt_bounds hp
        have hg' : Good (a + b + c) ls := by rwa [show n.toNat = a + b + c by omega] at hg
        have hth := three_map (worth3 a b c) hg.1 (fun _ => rfl)
        have hl3 : (((ls.map (worth3 a b c)).length : Nat) : Int) = 3 := by have := hth.1; omega
        obtain ⟨r, hr⟩ := sum_some (ls.map (worth3 a b c)) own hth ho 3 20 0 0 (by omega) (by omega) (by omega)
        have hr' : ∀ k, 20 ≤ k → spec_ckSum.f k (ls.map (worth3 a b c)) own = some r := fun k hk => at_rounds (spec_ckSum.mono _ _) hk (by unfold spec_ckSum.f; rw [hl3]; exact hr)
        refine ⟨r, true, fun k hk => ?_⟩
        obtain ⟨u1, u2⟩ := unf k hk
        rw [u1, u2, if_pos ht, if_pos hp, if_pos ht, if_pos hp, ho]
        obtain ⟨k, rfl⟩ : ∃ m, k = m + 1 := ⟨k - 1, by omega⟩
        simp only [spec_SumAt.j0, impl_SumAt.j0, Bool.not_true]
        have hk' := hr' k (by omega)
        rw [if_neg (by decide), if_neg (by decide), spec_worths n i a b c hat ls hg' (by omega) k (by omega), hps k (by omega), Option.bind_some, Option.bind_some, if_pos h0, if_pos hlt, e0, e1, e2, impl_worths a b c ls hg' (by omega) k (by omega), Option.bind_some, hk', sumAt_same]
        unfold spec_ckSum.f at hk'
        rw [hk']
        exact ⟨rfl, rfl⟩
      · refine ⟨0, false, fun k hk => ?_⟩
        obtain ⟨u1, u2⟩ := unf k hk
        rw [u1, u2, if_pos ht, if_pos hp, if_pos ht, if_pos hp, Bool.eq_false_iff.mpr ho]
        exact zero k hk
    · refine ⟨0, false, fun k hk => ?_⟩
      obtain ⟨u1, u2⟩ := unf k hk
      rw [u1, u2, if_pos ht, if_neg hp, if_pos ht, if_neg hp]
      exact zero k hk
  · refine ⟨0, false, fun k hk => ?_⟩
    obtain ⟨u1, u2⟩ := unf k hk
    rw [u1, u2, if_neg ht, if_neg ht]
    exact zero k hk
theorem rentEnvy_same (n : Int) (ls : List (List Int)) (i : Int) (own : List Int) (hs : Small ls) : ∃ r b, ∀ k, 2097200 ≤ k → spec_RentEnvy.f k n ls i own = some (r, b) ∧ impl_RentEnvy.f k n ls i own = some (r, b) := by
  have zero : ∀ k, 2097200 ≤ k → spec_RentEnvy.j0 k n ls i own true = some (0, false) ∧ impl_RentEnvy.j0 k n ls i own true = some (0, false) := fun k hk => by
    obtain ⟨k, rfl⟩ : ∃ m, k = m + 1 := ⟨k - 1, by omega⟩
    exact ⟨rfl, rfl⟩
  have unf : ∀ k, 2097200 ≤ k → spec_RentEnvy.f k n ls i own = (if isPt n i = true then (if three 3 20 ls = true then spec_RentEnvy.j0 k n ls i own (!isOrd own) else spec_RentEnvy.j0 k n ls i own true) else spec_RentEnvy.j0 k n ls i own true) ∧ impl_RentEnvy.f k n ls i own = (if three 3 20 ls = true then (if isPt n i = true then impl_RentEnvy.j0 k n ls i own (!isOrd own) else impl_RentEnvy.j0 k n ls i own true) else impl_RentEnvy.j0 k n ls i own true) := fun k hk => by
    unfold spec_RentEnvy.f impl_RentEnvy.f
    rw [spec_rooms ls hs k (by omega), impl_rooms, spec_point, impl_point, shares_is own k (by omega)]
    exact ⟨rfl, rfl⟩
  by_cases ht : three 3 20 ls = true
  · by_cases hp : isPt n i = true
    · by_cases ho : isOrd own = true
      · have hg := rooms_of ht
        obtain ⟨ps, a, b, c, hps, hlt, e0, e1, e2, hat, hsum⟩ := point_is hp
        obtain ⟨h1, h8, h0, _⟩ := pt_bounds hp
        obtain ⟨r, hr⟩ := envy_is (ls.map (net3 a b c)) own (three_map _ hg.1 (fun _ => rfl)) ho
        refine ⟨r, true, fun k hk => ?_⟩
        obtain ⟨u1, u2⟩ := unf k hk
        rw [u1, u2, if_pos hp, if_pos ht, if_pos ht, if_pos hp, ho]
        obtain ⟨k, rfl⟩ : ∃ m, k = m + 1 := ⟨k - 1, by omega⟩
        simp only [spec_RentEnvy.j0, impl_RentEnvy.j0, Bool.not_true]
        have c1 : spec_ckCosts.f k n ls i = some (ls.map (net3 a b c)) := by
          unfold spec_ckCosts.f
          rw [hat k (by omega), Option.bind_some]
          have := costs_l0 a b c (by omega) (by omega) (by omega) ls hg ls.length k 0 [] (by omega) (by have := hg.1; omega) (by have := hg.1; simp; omega)
          simpa using this
        have c2 : impl_netAt.f k ls a b c = some (ls.map (net3 a b c)) := by
          unfold impl_netAt.f
          have := net_l0 a b c (by omega) (by omega) (by omega) ls hg ls.length k 0 [] (by omega) (by have := hg.1; omega) (by have := hg.1; simp; omega)
          simpa using this
        rw [if_neg (by decide), if_neg (by decide), c1, hps k (by omega), Option.bind_some, Option.bind_some, if_pos h0, if_pos hlt, e0, e1, e2, c2, Option.bind_some, (hr k (by omega)).1, (hr k (by omega)).2]
        exact ⟨rfl, rfl⟩
      · refine ⟨0, false, fun k hk => ?_⟩
        obtain ⟨u1, u2⟩ := unf k hk
        rw [u1, u2, if_pos hp, if_pos ht, if_pos ht, if_pos hp, Bool.eq_false_iff.mpr ho]
        exact zero k hk
    · refine ⟨0, false, fun k hk => ?_⟩
      obtain ⟨u1, u2⟩ := unf k hk
      rw [u1, u2, if_neg hp, if_pos ht, if_neg hp]
      exact zero k hk
  · refine ⟨0, false, fun k hk => ?_⟩
    obtain ⟨u1, u2⟩ := unf k hk
    rw [u1, u2, if_neg ht, if_neg ht]
    by_cases hp : isPt n i = true
    · rw [if_pos hp]; exact zero k hk
    · rw [if_neg hp]; exact zero k hk
end Go.Proofs.Ytbbkohmebjcghaa.Cake
