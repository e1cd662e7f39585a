/- Regular images: the reference and the program come to the same. -/
import Derived.Test.YtdcdjhbmdbghiaaQSx0
import Derived.Test.YtdcdjhbmdbghiaaQSx4
import Derived.Test.YtdcdjhbmdbghiaaQSx1
import Derived.Test.YtdcdjhbmdbghiaaQSx2
import Derived.Test.YtdcdjhbmdbghiaaQSMapA
import Derived.Test.YtdcdjhbmdbghiaaQSMapM
namespace Go.Proofs.Ytdcdjhbmdbghiaa.Maps
open Go.RowKit Go.Proofs.Ytdcdjhbmdbghiaa.All Go.Proofs.Ytdcdjhbmdbghiaa.Eqs Go.Proofs.Ytdcdjhbmdbghiaa.L1 Go.Proofs.YtdcdjhbmdbghiaaW.PrintWords Go.Proofs.YtdcdjhbmdbghiaaW.PrintLast Go.Proofs.YtdcdjhbmdbghiaaW.PrintMore
/-- Between -1 and 1. -/
def clamp (x : Int) : Int := if 0 < x then 1 else if x < 0 then -1 else 0
theorem clampS (x : Int) : ∃ t, spec_l1Most.f (-1) x = some t ∧ spec_l1Least.f 1 t = some (clamp x) := by
  unfold spec_l1Most.f spec_l1Least.f clamp
  by_cases h : (-1 : Int) > x
  · exact ⟨-1, by rw [if_pos h], by rw [if_neg (by omega), if_neg (by omega), if_pos (by omega)]⟩
  · refine ⟨x, by rw [if_neg h], ?_⟩
    by_cases h1 : 1 < x
    · rw [if_pos h1, if_pos (by omega)]
    · rw [if_neg h1]
      by_cases h2 : 0 < x
      · rw [if_pos h2, show x = 1 by omega]
      · rw [if_neg h2]
        by_cases h3 : x < 0
        · rw [if_pos h3, show x = -1 by omega]
        · rw [if_neg h3, show x = 0 by omega]
def mostOf (a b : Int) : Int := if a > b then a else b
def leastOf2 (a b : Int) : Int := if a < b then a else b
theorem most_is (a b : Int) : spec_l1Most.f a b = some (mostOf a b) := by unfold spec_l1Most.f mostOf; split <;> rfl
theorem least_is (a b : Int) : spec_l1Least.f a b = some (leastOf2 a b) := by unfold spec_l1Least.f leastOf2; split <;> rfl
/-- What the reference tells of three areas. -/
def hasP (x y z : Int) : Int :=
  let m := leastOf2 (leastOf2 (leastOf2 1 (clamp x)) (clamp y)) (clamp z)
  let M := mostOf (mostOf (mostOf (-1) (clamp x)) (clamp y)) (clamp z)
  if m = 1 then 1 else if M = -1 then -1 else if m = -1 then (if M = 1 then 0 else 2) else 2
theorem has_is (x y z : Int) : Ev (fun k => spec_fxHas.f k [x, y, z]) (hasP x y z) := by
  obtain ⟨tx, x1, x2⟩ := clampS x
  obtain ⟨ty, y1, y2⟩ := clampS y
  obtain ⟨tz, z1, z2⟩ := clampS z
  refine Ev.congr (fun k => by unfold spec_fxHas.f; rfl) (step4 (g := fun _ => some (hasP x y z)) (fun k => ?_) (Ev.now _))
  simp only [spec_fxHas.l0]
  rw [if_pos (of_decide_eq_true rfl), if_pos (of_decide_eq_true rfl), if_pos (of_decide_eq_true rfl), show rd [x, y, z] 0 = x from rfl, x1, Option.bind_some, x2, Option.bind_some, most_is, Option.bind_some, Option.bind_some, x2, Option.bind_some, least_is, Option.bind_some, show wrap64 (0 + 1) = 1 by decide +kernel]
  rw [if_pos (of_decide_eq_true rfl), if_pos (of_decide_eq_true rfl), if_pos (of_decide_eq_true rfl), show rd [x, y, z] 1 = y from rfl, y1, Option.bind_some, y2, Option.bind_some, most_is, Option.bind_some, Option.bind_some, y2, Option.bind_some, least_is, Option.bind_some, show wrap64 (1 + 1) = 2 by decide +kernel]
  rw [if_pos (of_decide_eq_true rfl), if_pos (of_decide_eq_true rfl), if_pos (of_decide_eq_true rfl), show rd [x, y, z] 2 = z from rfl, z1, Option.bind_some, z2, Option.bind_some, most_is, Option.bind_some, Option.bind_some, z2, Option.bind_some, least_is, Option.bind_some, show wrap64 (2 + 1) = 3 by decide +kernel]
  rw [if_neg (of_decide_eq_false rfl)]
  unfold hasP
  simp only
  split
  · rfl
  · split
    · rfl
    · split
      · split <;> rfl
      · rfl
/-- What the program tells of three areas. -/
def sideP (x y z : Int) : Int :=
  let m := mn (mn x y) z
  let M := mx (mx x y) z
  if m > 0 then 1 else if M < 0 then -1 else if m < 0 then (if M > 0 then 2 else 0) else 0
theorem min_is (x y z : Int) : Ev (fun k => slices_Min_int_int.f k [x, y, z]) (mn (mn x y) z) := by
  refine Ev.congr (fun k => by unfold slices_Min_int_int.f; rw [if_neg (of_decide_eq_false rfl), if_pos (of_decide_eq_true rfl)]) (step4 (g := fun _ => some (mn (mn x y) z)) (fun k => ?_) (Ev.now _))
  simp only [slices_Min_int_int.l0]
  rw [if_pos (of_decide_eq_true rfl), if_pos (of_decide_eq_true rfl), show wrap64 (1 + 1) = 2 by decide +kernel]
  rw [if_pos (of_decide_eq_true rfl), if_pos (of_decide_eq_true rfl), show wrap64 (2 + 1) = 3 by decide +kernel]
  rw [if_neg (of_decide_eq_false rfl)]
  rfl
theorem max_is (x y z : Int) : Ev (fun k => slices_Max_int_int.f k [x, y, z]) (mx (mx x y) z) := by
  refine Ev.congr (fun k => by unfold slices_Max_int_int.f; rw [if_neg (of_decide_eq_false rfl), if_pos (of_decide_eq_true rfl)]) (step4 (g := fun _ => some (mx (mx x y) z)) (fun k => ?_) (Ev.now _))
  simp only [slices_Max_int_int.l0]
  rw [if_pos (of_decide_eq_true rfl), if_pos (of_decide_eq_true rfl), show wrap64 (1 + 1) = 2 by decide +kernel]
  rw [if_pos (of_decide_eq_true rfl), if_pos (of_decide_eq_true rfl), show wrap64 (2 + 1) = 3 by decide +kernel]
  rw [if_neg (of_decide_eq_false rfl)]
  rfl
theorem side_is (x y z : Int) : Ev (fun k => impl_side.f k [x, y, z]) (sideP x y z) := by
  have e : (if mn (mn x y) z > 0 then some (1 : Int) else if mx (mx x y) z < 0 then some (-1) else if mn (mn x y) z < 0 then if mx (mx x y) z > 0 then some 2 else some 0 else some 0) = some (sideP x y z) := by
    unfold sideP
    simp only
    split
    · rfl
    · split
      · rfl
      · split
        · split <;> rfl
        · rfl
  refine Ev.congr (fun k => by unfold impl_side.f; rfl) (Ev.bind (min_is x y z) (Ev.bind (max_is x y z) ?_))
  simp only [e]
  exact Ev.now _
/-- One tells by a number what the other tells by another. -/
theorem side_has (x y z : Int) : (sideP x y z = 1 ∧ hasP x y z = 1 ∧ 0 < x ∧ 0 < y ∧ 0 < z) ∨ (sideP x y z = -1 ∧ hasP x y z = -1 ∧ x < 0 ∧ y < 0 ∧ z < 0) ∨ (sideP x y z = 2 ∧ hasP x y z = 0) ∨ (sideP x y z = 0 ∧ hasP x y z = 2) := by
  obtain ⟨m, hm⟩ : ∃ m, mn (mn x y) z = m := ⟨_, rfl⟩
  obtain ⟨M, hM⟩ : ∃ m, mx (mx x y) z = m := ⟨_, rfl⟩
  have m1 : m ≤ x ∧ m ≤ y ∧ m ≤ z ∧ (m = x ∨ m = y ∨ m = z) := by subst hm; unfold mn; split <;> split <;> omega
  have m2 : x ≤ M ∧ y ≤ M ∧ z ≤ M ∧ (M = x ∨ M = y ∨ M = z) := by subst hM; unfold mx; split <;> split <;> omega
  obtain ⟨a, ha⟩ : ∃ a, leastOf2 (leastOf2 (leastOf2 1 (clamp x)) (clamp y)) (clamp z) = a := ⟨_, rfl⟩
  obtain ⟨A, hA⟩ : ∃ a, mostOf (mostOf (mostOf (-1) (clamp x)) (clamp y)) (clamp z) = a := ⟨_, rfl⟩
  have c : ∀ v : Int, (0 < v ∧ clamp v = 1) ∨ (v = 0 ∧ clamp v = 0) ∨ (v < 0 ∧ clamp v = -1) := fun v => by unfold clamp; split <;> (try split) <;> omega
  have cx := c x
  have cy := c y
  have cz := c z
  have a1 : (a = 1 ∨ a = 0 ∨ a = -1) ∧ a ≤ clamp x ∧ a ≤ clamp y ∧ a ≤ clamp z ∧ (a = clamp x ∨ a = clamp y ∨ a = clamp z) := by
    subst ha; unfold leastOf2; repeat' split
    all_goals omega
  have A1 : (A = 1 ∨ A = 0 ∨ A = -1) ∧ clamp x ≤ A ∧ clamp y ≤ A ∧ clamp z ≤ A ∧ (A = clamp x ∨ A = clamp y ∨ A = clamp z) := by
    subst hA; unfold mostOf; repeat' split
    all_goals omega
  unfold sideP hasP
  simp only
  rw [hm, hM, ha, hA]
  clear hm hM ha hA c
  by_cases h1 : m > 0
  · refine Or.inl ⟨if_pos h1, if_pos (by omega), by omega, by omega, by omega⟩
  · by_cases h2 : M < 0
    · exact Or.inr (Or.inl ⟨by rw [if_neg h1, if_pos h2], by rw [if_neg (by omega), if_pos (by omega)], by omega, by omega, by omega⟩)
    · by_cases h3 : m < 0
      · by_cases h4 : M > 0
        · exact Or.inr (Or.inr (Or.inl ⟨by rw [if_neg h1, if_neg h2, if_pos h3, if_pos h4], by rw [if_neg (by omega), if_neg (by omega), if_pos (by omega), if_pos (by omega)]⟩))
        · exact Or.inr (Or.inr (Or.inr ⟨by rw [if_neg h1, if_neg h2, if_pos h3, if_neg h4], by rw [if_neg (by omega), if_neg (by omega), if_pos (by omega), if_neg (by omega)]⟩))
      · exact Or.inr (Or.inr (Or.inr ⟨by rw [if_neg h1, if_neg h2, if_neg h3], by rw [if_neg (by omega), if_neg (by omega), if_neg (by omega)]⟩))
/-- A cell: its areas, and what both tell of them. -/
theorem cell_same (n : Int) (ls : List (List Int)) (hg : goodP n ls = true) (cell : List Int) (hcl : cell.length = 3) (hcell : ∀ v ∈ cell, 0 ≤ v ∧ v < cnt n) : ∃ x y z, Ev (fun k => spec_fxAreas.f k n ls cell) [x, y, z] ∧ Ev (fun k => impl_areas.f k n ls cell) [x, y, z] ∧ Ev (fun k => spec_fxIn.f k n ls cell) (hasP x y z) ∧ Ev (fun k => impl_side.f k [x, y, z]) (sideP x y z) ∧ x.natAbs ≤ 450 ∧ y.natAbs ≤ 450 ∧ z.natAbs ≤ 450 := by
  obtain ⟨x, y, z, h1, h2, hb⟩ := areas_same n ls hg cell hcl hcell
  exact ⟨x, y, z, h1, h2, Ev.congr (fun k => by unfold spec_fxIn.f; rfl) (Ev.bind h1 (Ev.bind (has_is x y z) (Ev.now _))), side_is x y z, hb⟩
theorem reg_l0 (n : Int) (ls : List (List Int)) (hg : goodP n ls = true) (cs : List (List Int)) (h25 : cs.length ≤ 25) (hc : ∀ c ∈ cs, c.length = 3 ∧ ∀ v ∈ c, 0 ≤ v ∧ v < cnt n) (d : Nat) : ∀ (i : Nat), i + d = cs.length → ∃ b, Ev (fun k => spec_fxRegular.l0 k n ls cs (cs.length : Int) i) b ∧ Ev (fun k => sideAll k n ls (cs.drop i)) b := by
  induction d with
  | zero =>
    intro i hi
    rw [List.drop_of_length_le (by omega)]
    exact ⟨true, Ev.step (fun k => by simp only [spec_fxRegular.l0]; rw [if_neg (by omega)]) (Ev.now _), Ev.now _⟩
  | succ d ih =>
    intro i hi
    have hlt : i < cs.length := by omega
    have hcc := hc _ (List.getElem_mem hlt)
    obtain ⟨x, y, z, h1, h2, h3, h4, -⟩ := cell_same n ls hg cs[i] hcc.1 hcc.2
    obtain ⟨b, g1, g2⟩ := ih (i + 1) (by omega)
    rw [List.drop_eq_getElem_cons hlt]
    have e1 : ∀ k, spec_fxRegular.l0 (k + 1) n ls cs (cs.length : Int) i = (spec_fxIn.f k n ls cs[i]).bind fun t => if t = 2 then some false else spec_fxRegular.l0 k n ls cs (cs.length : Int) (wrap64 ((i : Int) + 1)) := fun k => by
      simp only [spec_fxRegular.l0]
      rw [if_pos (by omega), if_pos (by omega), if_pos (by omega), rdl_getElem hlt]
    refine ⟨!(sideP x y z == 0) && b, Ev.step e1 (Ev.bind h3 ?_), Ev.bind h2 (Ev.bind h4 (Ev.bind g2 (Ev.now _)))⟩
    rcases side_has x y z with ⟨s1, s2, -⟩ | ⟨s1, s2, -⟩ | ⟨s1, s2⟩ | ⟨s1, s2⟩
    · rw [s1, s2]; exact Ev.congr (fun k => by rw [if_neg (by decide), upI (by omega)]) g1
    · rw [s1, s2]; exact Ev.congr (fun k => by rw [if_neg (by decide), upI (by omega)]) g1
    · rw [s1, s2]; exact Ev.congr (fun k => by rw [if_neg (by decide), upI (by omega)]) g1
    · rw [s1, s2]; exact Ev.congr (fun k => by rw [if_pos rfl]; rfl) (Ev.now _)

end Go.Proofs.Ytdcdjhbmdbghiaa.Maps

