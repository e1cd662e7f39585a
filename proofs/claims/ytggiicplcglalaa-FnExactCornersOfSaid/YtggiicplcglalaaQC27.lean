/- Part of the proof that the law FnExactCornersOf answers true for all arguments. -/
import Derived.Test.YtggiicplcglalaaQC26
section
namespace Go.Proofs.Ytggiicplcglalaa.All
open Go.RowKit Go.Proofs.YtggiicplcglalaaW.PrintWords Go.Proofs.YtggiicplcglalaaW.PrintLast Go.Proofs.YtggiicplcglalaaW.PrintMore
attribute [local go_sem] max2_int min2_int max_two min_two max_three min_three max_four min_four
set_option linter.unusedVariables false
set_option linter.unusedSimpArgs false
mutual
def spec_gmRegular.l0 : Nat → Int → List (List Int) → List (List Int) → Option (Bool)
 | 0, _, _, _ => none
 | k + 1, x3, x664000, x664001 => if x3 ≤ 2 then ((spec_gmFigure.f k x664000 x664001 x3).bind fun t664 => ((spec_gmCorners.f k t664).bind fun t667 => (spec_gmRegular.l1 k x3 t667 (t667.length : Int) 0 x664000 x664001))) else (some true)
def spec_gmRegular.l1 : Nat → Int → List (List Int) → Int → Int → List (List Int) → List (List Int) → Option (Bool)
 | 0, _, _, _, _, _, _ => none
 | k + 1, x3, x13, x14, x15, x664000, x664001 => if x15 < x14 then (if 0 ≤ x15 then (if x15 < (x13.length : Int) then ((spec_gmLabels.f k x664000 x664001 x3 (rd_L1 x13 x15)).bind fun t671 => (if (t671.length : Int) > (wrap64 (((rd_L1 x13 x15).length : Int) - 1)) then (some false) else (spec_gmRegular.l1 k x3 x13 x14 (wrap64 (x15 + 1)) x664000 x664001))) else (none)) else (none)) else (spec_gmRegular.l0 k (wrap64 (x3 + 1)) x664000 x664001)
end
def spec_gmRegular.f (k : Nat) (l0_0 : List (List Int)) (l0_1 : List (List Int)) : Option (Bool) := spec_gmRegular.l0 k 1 l0_0 l0_1
theorem spec_gmRegular.mono_l : ∀ k, (∀ y0 y1 y2, LeO (spec_gmRegular.l0 k y0 y1 y2) (spec_gmRegular.l0 (k + 1) y0 y1 y2)) ∧ (∀ y0 y1 y2 y3 y4 y5, LeO (spec_gmRegular.l1 k y0 y1 y2 y3 y4 y5) (spec_gmRegular.l1 (k + 1) y0 y1 y2 y3 y4 y5))
 | 0 => ⟨fun _ _ _ r h => by simp [spec_gmRegular.l0] at h, fun _ _ _ _ _ _ r h => by simp [spec_gmRegular.l1] at h⟩
 | k + 1 => by
  obtain ⟨ih0, ih1⟩ := spec_gmRegular.mono_l k
  refine ⟨?_, ?_⟩ <;> intros <;> (first | unfold spec_gmRegular.l0 | unfold spec_gmRegular.l1)
  all_goals repeat' first
  | (with_reducible exact ih0 ..)
  | (with_reducible exact ih1 ..)
  | (with_reducible exact spec_gmCorners.mono ..)
  | (with_reducible exact spec_gmFigure.mono ..)
  | (with_reducible exact spec_gmLabels.mono ..)
  | (with_reducible exact LeO.refl _)
  | (with_reducible exact LeO.none _)
  | (with_reducible refine LeO.ite ?_ ?_)
  | (with_reducible refine LeO.bind ?_ (fun _ => ?_))
theorem spec_gmRegular.mono : ∀ a0 a1 k, LeO (spec_gmRegular.f k a0 a1) (spec_gmRegular.f (k + 1) a0 a1) := by
 intro a0 a1 k
 obtain ⟨ih0, ih1⟩ := spec_gmRegular.mono_l k
 unfold spec_gmRegular.f
 repeat' first
   | (with_reducible exact ih0 ..)
   | (with_reducible exact ih1 ..)
   | (with_reducible exact spec_gmCorners.mono ..)
   | (with_reducible exact spec_gmFigure.mono ..)
   | (with_reducible exact spec_gmLabels.mono ..)
   | (with_reducible exact LeO.refl _)
   | (with_reducible exact LeO.none _)
   | (with_reducible refine LeO.ite ?_ ?_)
   | (with_reducible refine LeO.bind ?_ (fun _ => ?_))
def spec_IsRegularGame.f (k : Nat) (l0_0 : List (List Int)) (l0_1 : List (List Int)) : Option (Bool × Bool) := (spec_gmGood.f k l0_0 l0_1).bind fun t675 => (if t675 = true then ((spec_gmRegular.f k l0_0 l0_1).bind fun t676 => (some (t676, true))) else (some (false, false)))
theorem spec_IsRegularGame.mono : ∀ a0 a1 k, LeO (spec_IsRegularGame.f k a0 a1) (spec_IsRegularGame.f (k + 1) a0 a1) := by
 intro a0 a1 k
 unfold spec_IsRegularGame.f
 repeat' first
   | (with_reducible exact spec_gmGood.mono ..)
   | (with_reducible exact spec_gmRegular.mono ..)
   | (with_reducible exact LeO.refl _)
   | (with_reducible exact LeO.none _)
   | (with_reducible refine LeO.ite ?_ ?_)
   | (with_reducible refine LeO.bind ?_ (fun _ => ?_))
def impl_figure_labelsAt.l0 : Nat → List Int → List Int → List (S70) → Int → Int → Option (List Int)
 | 0, _, _, _, _, _ => none
 | k + 1, x1, x5, x10, x11, x12 => if x12 < x11 then (if 0 ≤ x12 then (if x12 < (x10.length : Int) then ((impl_condition_meets.f k ((rd_T70 x10 x12).f0) ((rd_T70 x10 x12).f1) ((rd_T70 x10 x12).f2) x1).bind fun t683 => (if t683 = 0 then (if x5.length < 17592186044416 then (impl_figure_labelsAt.l0 k x1 (x5 ++ [x12]) x10 x11 (wrap64 (x12 + 1))) else (none)) else (impl_figure_labelsAt.l0 k x1 x5 x10 x11 (wrap64 (x12 + 1))))) else (none)) else (none)) else (some x5)
def impl_figure_labelsAt.f (k : Nat) (a0_0 : Int) (l0_1 : List (S70)) (l1 : List Int) : Option (List Int) := impl_figure_labelsAt.l0 k l1 (([] : List Int)) l0_1 (l0_1.length : Int) 0
theorem impl_figure_labelsAt.mono_l : ∀ k, (∀ y0 y1 y2 y3 y4, LeO (impl_figure_labelsAt.l0 k y0 y1 y2 y3 y4) (impl_figure_labelsAt.l0 (k + 1) y0 y1 y2 y3 y4))
 | 0 => fun _ _ _ _ _ r h => by simp [impl_figure_labelsAt.l0] at h
 | k + 1 => by
  have ih0 := impl_figure_labelsAt.mono_l k
  ·intro y0 y1 y2 y3 y4
   unfold impl_figure_labelsAt.l0
   repeat' first
   | (with_reducible exact ih0 ..)
   | (with_reducible exact impl_condition_meets.mono ..)
   | (with_reducible exact LeO.refl _)
   | (with_reducible exact LeO.none _)
   | (with_reducible refine LeO.ite ?_ ?_)
   | (with_reducible refine LeO.bind ?_ (fun _ => ?_))
theorem impl_figure_labelsAt.mono : ∀ a0 a1 a2 k, LeO (impl_figure_labelsAt.f k a0 a1 a2) (impl_figure_labelsAt.f (k + 1) a0 a1 a2) := by
 intro a0 a1 a2 k
 have ih0 := impl_figure_labelsAt.mono_l k
 unfold impl_figure_labelsAt.f
 repeat' first
   | (with_reducible exact ih0 ..)
   | (with_reducible exact impl_condition_meets.mono ..)
   | (with_reducible exact LeO.refl _)
   | (with_reducible exact LeO.none _)
   | (with_reducible refine LeO.ite ?_ ?_)
   | (with_reducible refine LeO.bind ?_ (fun _ => ?_))
def impl_LabelsOfCorner.j0 : Nat → Int → Bool → List (List Int) → List (List Int) → List Int → Option (List Int × Bool)
 | 0, _, _, _, _, _ => none
 | k + 1, x1, x16, x742000, x742001, x743000 => if x16 = true then (some (([] : List Int), false)) else ((impl_Game_figureOf.f k x742000 x742001 x1).bind fun bt745 => ((impl_figure_corners.f k bt745.1 bt745.2).bind fun t750 => ((impl_hasRow.f t750 x743000).bind fun t753 => (if t753 = true then ((impl_figure_labelsAt.f k bt745.1 bt745.2 x743000).bind fun t754 => (some (t754, true))) else (some (([] : List Int), false))))))
def impl_LabelsOfCorner.f (k : Nat) (l0_0 : List (List Int)) (l0_1 : List (List Int)) (a1 : Int) (l2 : List Int) : Option (List Int × Bool) := (impl_IsGame.f l0_0 l0_1).bind fun t743 => (if t743 = true then ((impl_isPlayer.f a1).bind fun t744 => (impl_LabelsOfCorner.j0 k a1 (!t744) l0_0 l0_1 l2)) else (impl_LabelsOfCorner.j0 k a1 true l0_0 l0_1 l2))
theorem impl_LabelsOfCorner.mono_l : ∀ k, (∀ y0 y1 y2 y3 y4, LeO (impl_LabelsOfCorner.j0 k y0 y1 y2 y3 y4) (impl_LabelsOfCorner.j0 (k + 1) y0 y1 y2 y3 y4))
 | 0 => fun _ _ _ _ _ r h => by simp [impl_LabelsOfCorner.j0] at h
 | k + 1 => by
  have ih0 := impl_LabelsOfCorner.mono_l k
  ·intro y0 y1 y2 y3 y4
   unfold impl_LabelsOfCorner.j0
   repeat' first
   | (with_reducible exact ih0 ..)
   | (with_reducible exact impl_Game_figureOf.mono ..)
   | (with_reducible exact impl_figure_corners.mono ..)
   | (with_reducible exact impl_figure_labelsAt.mono ..)
   | (with_reducible exact LeO.refl _)
   | (with_reducible exact LeO.none _)
   | (with_reducible refine LeO.ite ?_ ?_)
   | (with_reducible refine LeO.bind ?_ (fun _ => ?_))
theorem impl_LabelsOfCorner.mono : ∀ a0 a1 a2 a3 k, LeO (impl_LabelsOfCorner.f k a0 a1 a2 a3) (impl_LabelsOfCorner.f (k + 1) a0 a1 a2 a3) := by
 intro a0 a1 a2 a3 k
 have ih0 := impl_LabelsOfCorner.mono_l k
 unfold impl_LabelsOfCorner.f
 repeat' first
   | (with_reducible exact ih0 ..)
   | (with_reducible exact impl_Game_figureOf.mono ..)
   | (with_reducible exact impl_figure_corners.mono ..)
   | (with_reducible exact impl_figure_labelsAt.mono ..)
   | (with_reducible exact LeO.refl _)
   | (with_reducible exact LeO.none _)
   | (with_reducible refine LeO.ite ?_ ?_)
   | (with_reducible refine LeO.bind ?_ (fun _ => ?_))
def manyAt (k : Nat) (n : Int) (l : List S70) (cs : List (List Int)) (j : Nat) : Option (List Int) := impl_figure_labelsAt.f k n l (cs.getD j [])
def impl_figure_isRegular.f (k : Nat) (n : Int) (l : List S70) : Option Bool := (impl_figure_corners.f k n l).bind fun cs => if ((List.range' 0 cs.length).all fun j => (manyAt k n l cs j).isSome) = true then some (!((List.range' 0 cs.length).any fun j => decide (n < (((manyAt k n l cs j).getD []).length : Int)))) else none
theorem all_any_sameL (t : List Int → Bool) (F G : Nat → Option (List Int)) : ∀ L : List Nat, (∀ j ∈ L, (F j).isSome = true → G j = F j) → (L.all fun j => (F j).isSome) = true → (L.all fun j => (G j).isSome) = true ∧ (L.any fun j => t ((G j).getD [])) = (L.any fun j => t ((F j).getD []))
 | [], _, _ => ⟨rfl, rfl⟩
 | a :: L, h, ha => by
  simp only [List.all_cons, Bool.and_eq_true] at ha ⊢
  have e := h a (by simp) ha.1
  have ih := all_any_sameL t F G L (fun j hj => h j (by simp [hj])) ha.2
  simp only [List.any_cons, e, ih.2]
  exact ⟨⟨ha.1, ih.1⟩, trivial⟩
theorem impl_figure_isRegular.mono : ∀ n l k, LeO (impl_figure_isRegular.f k n l) (impl_figure_isRegular.f (k + 1) n l) := by
 intro n l k r h
 unfold impl_figure_isRegular.f at h ⊢
 obtain ⟨cs, hcs, h⟩ := Option.bind_eq_some_iff.mp h
 rw [impl_figure_corners.mono _ _ k _ hcs, Option.bind_some]
 by_cases c : ((List.range' 0 cs.length).all fun j => (manyAt k n l cs j).isSome) = true
 rotate_left
 ·rw [if_neg c] at h
  cases h
 rw [if_pos c] at h
 obtain ⟨a, b⟩ := all_any_sameL (fun z => decide (n < (z.length : Int))) (manyAt k n l cs) (manyAt (k + 1) n l cs) _ (fun j _ hs => by
  obtain ⟨v, hv⟩ := Option.isSome_iff_exists.mp hs
  rw [hv]
  exact impl_figure_labelsAt.mono _ _ _ k _ hv) c
 rw [if_pos a, b]
 exact h
def impl_Game_isRegular.f (k : Nat) (l0_0 : List (List Int)) (l0_1 : List (List Int)) : Option (Bool) := (impl_Game_figureOf.f k l0_0 l0_1 1).bind fun bt688 => ((impl_figure_isRegular.f k bt688.1 bt688.2).bind fun t692 => (if t692 = true then ((impl_Game_figureOf.f k l0_0 l0_1 2).bind fun bt693 => ((impl_figure_isRegular.f k bt693.1 bt693.2).bind fun t697 => (some t697))) else (some false)))
theorem impl_Game_isRegular.mono : ∀ a0 a1 k, LeO (impl_Game_isRegular.f k a0 a1) (impl_Game_isRegular.f (k + 1) a0 a1) := by
 intro a0 a1 k
 unfold impl_Game_isRegular.f
 repeat' first
   | (with_reducible exact impl_Game_figureOf.mono ..)
   | (with_reducible exact impl_figure_isRegular.mono ..)
   | (with_reducible exact LeO.refl _)
   | (with_reducible exact LeO.none _)
   | (with_reducible refine LeO.ite ?_ ?_)
   | (with_reducible refine LeO.bind ?_ (fun _ => ?_))
def impl_IsRegularGame.f (k : Nat) (l0_0 : List (List Int)) (l0_1 : List (List Int)) : Option (Bool × Bool) := (impl_IsGame.f l0_0 l0_1).bind fun t699 => (if t699 = true then ((impl_Game_isRegular.f k l0_0 l0_1).bind fun t700 => (some (t700, true))) else (some (false, false)))
theorem impl_IsRegularGame.mono : ∀ a0 a1 k, LeO (impl_IsRegularGame.f k a0 a1) (impl_IsRegularGame.f (k + 1) a0 a1) := by
 intro a0 a1 k
 unfold impl_IsRegularGame.f
 repeat' first
   | (with_reducible exact impl_Game_isRegular.mono ..)
   | (with_reducible exact LeO.refl _)
   | (with_reducible exact LeO.none _)
   | (with_reducible refine LeO.ite ?_ ?_)
   | (with_reducible refine LeO.bind ?_ (fun _ => ?_))
end Go.Proofs.Ytggiicplcglalaa.All
end
section
namespace Go.Proofs.Ytggiicplcglalaa.L1
open Go.RowKit Go.Proofs.Ytggiicplcglalaa.All Go.Proofs.Ytggiicplcglalaa.Eqs Go.Proofs.YtggiicplcglalaaW.PrintWords Go.Proofs.YtggiicplcglalaaW.PrintLast
theorem l1In_is (x lo hi : Int) : spec_l1In.f x lo hi = some (inB lo hi x) := by
 unfold spec_l1In.f inB
 by_cases h : lo ≤ x <;> simp [h]
theorem range_any {α : Type} (p : α → Bool) (z : α) (l : List α) : ∀ i d, i + d = l.length → ((List.range' i d).any fun j => p (l.getD j z)) = (l.drop i).any p
 | i, 0, h => by rw [List.drop_of_length_le (by omega)]; rfl
 | i, d + 1, h => by
  have hi : i < l.length := by omega
  rw [List.range'_succ, List.any_cons, range_any p z l (i + 1) d (by omega), List.drop_eq_getElem_cons hi, List.any_cons]
  simp [List.getD, List.getElem?_eq_getElem hi]
theorem any_not_all {α : Type} (p : α → Bool) (l : List α) : (l.any fun x => !p x) = !(l.all p) := by
 induction l with
 | nil => rfl
 | cons a l ih => rw [List.any_cons, List.all_cons, ih]; cases p a <;> simp
theorem anyOut_is (lo hi : Int) (l : List Int) : anyOut lo hi l = !(l.all (inB lo hi)) := by
 unfold anyOut
 rw [range_any (fun x => !inB lo hi x) 0 l 0 l.length (by omega), List.drop_zero, any_not_all]
theorem all_l0 (lo hi : Int) (l : List Int) (hl : l.length < 1152921504606846976) (d : Nat) : ∀ (k i : Nat), i + d = l.length → d < k → spec_l1All.l0 k lo hi l (l.length : Int) i = some ((l.drop i).all (inB lo hi)) := by
 induction d with
 | zero =>
  intro k i hi' hk
  obtain ⟨k, rfl⟩ : ∃ m, k = m + 1 := ⟨k - 1, by omega⟩
  simp only [spec_l1All.l0]; rw [if_neg (by omega), List.drop_of_length_le (by omega)]; rfl
 | succ d ih =>
  intro k i hi' hk
  obtain ⟨k, rfl⟩ : ∃ m, k = m + 1 := ⟨k - 1, by omega⟩
  have hlt : i < l.length := by omega
  simp only [spec_l1All.l0]
  rw [if_pos (by omega), if_pos (by omega), if_pos (by omega), l1In_is, Option.bind_some, List.drop_eq_getElem_cons hlt, List.all_cons, show rd l (i : Int) = l[i] by simp [rd, List.getD, List.getElem?_eq_getElem hlt]]
  cases h : inB lo hi l[i] with
  | false => rw [if_neg (by decide)]; rfl
  | true => rw [if_pos rfl, wrap_id (by omega) (by omega)]; simpa using ih k (i + 1) (by omega) (by omega)
theorem l1All_is (lo hi : Int) (l : List Int) (hl : l.length < 1152921504606846976) (k : Nat) (hk : l.length < k) : spec_l1All.f k l lo hi = some (l.all (inB lo hi)) := by
 unfold spec_l1All.f
 have := all_l0 lo hi l hl l.length k 0 (by omega) hk
 simpa using this
end Go.Proofs.Ytggiicplcglalaa.L1
end
section
namespace Go.Proofs.Ytggiicplcglalaa.Games
open Go.RowKit Go.Proofs.Ytggiicplcglalaa.All Go.Proofs.Ytggiicplcglalaa.Eqs Go.Proofs.Ytggiicplcglalaa.L1 Go.Proofs.YtggiicplcglalaaW.PrintWords Go.Proofs.YtggiicplcglalaaW.PrintLast
def table (a : List (List Int)) : Bool := inB 1 3 (a.length : Int) && (inB 1 3 ((a.getD 0 []).length : Int) && a.all fun r => decide ((r.length : Int) = ((a.getD 0 []).length : Int)) && r.all (inB (-9) 9))
theorem badRow_is (n : Nat) (r : List Int) : badRow n r = !(decide ((r.length : Int) = (n : Int)) && r.all (inB (-9) 9)) := by
 unfold badRow
 rw [anyOut_is]
 by_cases h : (r.length : Int) = (n : Int)
 ·rw [decide_eq_true h, show ((r.length : Int) != (n : Int)) = false from bne_eq_false_iff_eq.mpr h]; simp
 ·rw [decide_eq_false h, show ((r.length : Int) != (n : Int)) = true from bne_iff_ne.mpr h]; simp
theorem impl_table (a : List (List Int)) : impl_isTable.f a = some (table a) := by
 unfold impl_isTable.f table anyBadRow
 cases e1 : inB 1 3 (a.length : Int) with
 | false => rw [if_neg (by decide)]; rfl
 | true =>
  rw [if_pos rfl, Bool.true_and]
  cases e2 : inB 1 3 ((a.getD 0 []).length : Int) with
  | false => rw [if_neg (by decide)]; rfl
  | true =>
   rw [if_pos rfl, Bool.true_and, range_any (badRow (a.getD 0 []).length) [] a 0 a.length (by omega), List.drop_zero]
   have : (a.any (badRow (a.getD 0 []).length)) = a.any fun r => !(decide ((r.length : Int) = ((a.getD 0 []).length : Int)) && r.all (inB (-9) 9)) := by
    congr 1; funext l; exact badRow_is _ l
   rw [this, any_not_all, Bool.not_not]
theorem rows_l0 (a : List (List Int)) (hs : Small a) (h0 : 0 < a.length) (d : Nat) : ∀ (k i : Nat), i + d = a.length → d + 1048578 < k → spec_gmRows.l0 k a a (a.length : Int) i = some ((a.drop i).all fun r => decide ((r.length : Int) = ((a.getD 0 []).length : Int)) && r.all (inB (-9) 9)) := by
 have hl := hs.1
 induction d with
 | zero =>
  intro k i hi hk
  obtain ⟨k, rfl⟩ : ∃ m, k = m + 1 := ⟨k - 1, by omega⟩
  simp only [spec_gmRows.l0]
  rw [if_neg (by omega), List.drop_of_length_le (by omega)]
  rfl
 | succ d ih =>
  intro k i hi hk
  obtain ⟨k, rfl⟩ : ∃ m, k = m + 1 := ⟨k - 1, by omega⟩
  have hlt : i < a.length := by omega
  have hx := hs.2 _ (List.getElem_mem hlt)
  simp only [spec_gmRows.l0]
  rw [if_pos (by omega), if_pos (by omega), if_pos (by omega), if_pos (by omega), show rd_L1 a (i : Int) = a[i] by simp [rd_L1, List.getD, List.getElem?_eq_getElem hlt], show rd_L1 a 0 = a.getD 0 [] from rfl, List.drop_eq_getElem_cons hlt, List.all_cons]
  by_cases e : ((a[i].length : Nat) : Int) = ((a.getD 0 []).length : Int)
  ·rw [if_pos e, l1All_is _ _ _ (by omega) k (by omega), Option.bind_some, decide_eq_true e, Bool.true_and]
   cases e2 : a[i].all (inB (-9) 9) with
   | false => rw [if_neg (by decide)]; rfl
   | true => rw [if_pos rfl, wrap_id (by omega) (by omega), Bool.true_and]; exact ih k (i + 1) (by omega) (by omega)
  ·rw [if_neg e, decide_eq_false e]; rfl
theorem spec_table (a : List (List Int)) (hs : Small a) (k : Nat) (hk : 2097200 < k) : spec_gmRows.f k a = some (table a) := by
 have hl := hs.1
 unfold spec_gmRows.f table
 rw [l1In_is, Option.bind_some]
 obtain ⟨k, rfl⟩ : ∃ m, k = m + 1 := ⟨k - 1, by omega⟩
 cases e1 : inB 1 3 (a.length : Int) with
 | false => rw [if_neg (by decide)]; rfl
 | true =>
  have h0 : 0 < a.length := by unfold inB at e1; simp at e1; omega
  rw [if_pos rfl, Bool.true_and, if_pos (by omega), l1In_is, Option.bind_some, show rd_L1 a 0 = a.getD 0 [] from rfl]
  cases e2 : inB 1 3 ((a.getD 0 []).length : Int) with
  | false => rfl
  | true =>
   simp only [spec_gmRows.j0, Bool.not_true, Bool.false_eq_true, if_false, Bool.true_and]
   have := rows_l0 a hs h0 a.length k 0 (by omega) (by omega)
   simpa using this
def game (a b : List (List Int)) : Bool := table a && (table b && (decide ((a.length : Int) = (b.length : Int)) && decide (((a.getD 0 []).length : Int) = ((b.getD 0 []).length : Int))))
theorem table_pos {a : List (List Int)} (h : table a = true) : 0 < a.length := by
 unfold table inB at h; simp at h; omega
theorem impl_game (a b : List (List Int)) : impl_IsGame.f a b = some (game a b) := by
 unfold impl_IsGame.f game
 rw [impl_table, Option.bind_some]
 cases e1 : table a with
 | false => rfl
 | true =>
  rw [if_pos rfl, impl_table, Option.bind_some, Bool.true_and]
  cases e2 : table b with
  | false => rfl
  | true =>
   have h1 := table_pos e1
   have h2 := table_pos e2
   rw [if_pos rfl, Bool.true_and]
   by_cases e : (a.length : Int) = (b.length : Int)
   ·rw [if_pos e, if_pos (by omega), if_pos (by omega), decide_eq_true e]; rfl
   ·rw [if_neg e, decide_eq_false e]; rfl
theorem spec_game (a b : List (List Int)) (ha : Small a) (hb : Small b) (k : Nat) (hk : 2097200 < k) : spec_gmGood.f k a b = some (game a b) := by
 unfold spec_gmGood.f game
 rw [spec_table a ha k hk, Option.bind_some]
 cases e1 : table a with
 | false => rfl
 | true =>
  rw [if_pos rfl, spec_table b hb k hk, Option.bind_some, Bool.true_and]
  cases e2 : table b with
  | false => rfl
  | true =>
   have h1 := table_pos e1
   have h2 := table_pos e2
   rw [if_pos rfl, Bool.true_and]
   by_cases e : (a.length : Int) = (b.length : Int)
   ·rw [if_pos e, if_pos (by omega), if_pos (by omega), decide_eq_true e]; rfl
   ·rw [if_neg e, decide_eq_false e]; rfl
end Go.Proofs.Ytggiicplcglalaa.Games
end
section
namespace Go.Proofs.Ytggiicplcglalaa.GmDet
open Go.RowKit Go.Proofs.Ytggiicplcglalaa.All Go.Proofs.YtggiicplcglalaaW.PrintWords Go.Proofs.YtggiicplcglalaaW.PrintLast Go.Proofs.Ytggiicplcglalaa.Eqs
theorem rd_getElem {l : List Int} {i : Nat} (h : i < l.length) : rd l (i : Int) = l[i] := by simp [rd, List.getD, List.getElem?_eq_getElem h]
def cut (j : Nat) (r : List Int) : List Int := r.take j ++ r.drop (j + 1)
def minor (j : Nat) (M : List (List Int)) : List (List Int) := (M.drop 1).map (cut j)
def lap (D : Nat → Int) : Int → Nat → List Int → Int
 | _, _, [] => 0
 | s, j, a :: l => s * a * D j + lap D (-s) (j + 1) l
def detN : Nat → List (List Int) → Int
 | 0, _ => 1
 | n + 1, M => lap (fun j => detN n (minor j M)) 1 0 (M.getD 0 [])
theorem lap_bd (D : Nat → Int) (B : Nat) (n : Nat) (hD : ∀ j, j < n → (D j).natAbs ≤ B) : ∀ (l : List Int) (s : Int) (j : Nat), (s = 1 ∨ s = -1) → (∀ a ∈ l, a.natAbs ≤ 19) → j + l.length ≤ n → (lap D s j l).natAbs ≤ l.length * (19 * B)
 | [], _, _, _, _, _ => by simp [lap]
 | a :: l, s, j, hs, ha, hj => by
  have ih := lap_bd D B n hD l (-s) (j + 1) (by omega) (fun x hx => ha x (by simp [hx])) (by simp only [List.length_cons] at hj; omega)
  have h1 : (s * a * D j).natAbs ≤ 19 * B := by
   rw [Int.natAbs_mul, Int.natAbs_mul]
   have e : s.natAbs = 1 := by rcases hs with rfl | rfl <;> rfl
   rw [e, Nat.one_mul]
   exact Nat.mul_le_mul (ha a (by simp)) (hD j (by simp only [List.length_cons] at hj; omega))
  show (s * a * D j + lap D (-s) (j + 1) l).natAbs ≤ (l.length + 1) * (19 * B)
  rw [Nat.add_mul, Nat.one_mul]
  have := Int.natAbs_add_le (s * a * D j) (lap D (-s) (j + 1) l)
  omega
theorem sgn_mul {s a t : Int} {B : Nat} (hs : s = 1 ∨ s = -1) (ha : a.natAbs ≤ 19) (ht : t.natAbs ≤ B) (hB : B ≤ 3249) : wrap64 (wrap64 (s * a) * t) = s * a * t ∧ (s * a * t).natAbs ≤ 61731 := by
 have h1 : (s * a).natAbs ≤ 19 := by rcases hs with rfl | rfl <;> omega
 have h2 : (s * a * t).natAbs ≤ 61731 := by
  rw [Int.natAbs_mul]
  exact Nat.le_trans (Nat.mul_le_mul h1 ht) (by omega)
 rw [wrap_id (x := s * a) (by omega) (by omega), wrap_id (by omega) (by omega)]
 exact ⟨rfl, h2⟩
theorem own_is (l : List Int) (h : l.length < 17592186044416) : spec_l1Own.f l = some l := by
 simp only [spec_l1Own.f, Option.bind_some, List.length_nil, Nat.zero_add, List.nil_append]
 rw [if_pos h]
theorem sd_l1 (x0 : List (List Int)) (x3 x4 x6 : Int) (x15 : List Int) (x16 x17 : Int) (j : Nat) (hj1 : j ≤ 1000) (R : List (List Int)) (hR : ∀ r ∈ R, j < r.length ∧ r.length ≤ 1000) (hl : R.length ≤ 1000) (v : Int)
  (hfin : Ev (fun k => (spec_gmDeterminant.f k (R.map (cut j))).bind fun t => spec_gmDeterminant.l0 k x0 (wrap64 (x3 + wrap64 (wrap64 (x4 * x6) * t))) (wrap64 (-x4)) x15 x16 (wrap64 (x17 + 1))) v) (d : Nat) :
  ∀ i : Nat, i + d = R.length → Ev (fun k => spec_gmDeterminant.l1 k x0 x3 x4 (j : Int) x6 ((R.take i).map (cut j)) x15 x16 x17 R (R.length : Int) (i : Int)) v := by
 induction d with
 | zero =>
  intro i hi
  rw [List.take_of_length_le (by omega)]
  exact Ev.step (fun k => by simp only [spec_gmDeterminant.l1]; rw [if_neg (by omega)]) hfin
 | succ d ih =>
  intro i hi
  have h1 : i < R.length := by omega
  obtain ⟨r1, r2⟩ := hR _ (List.getElem_mem h1)
  refine Ev.step (f := fun k => spec_gmDeterminant.l1 k x0 x3 x4 (j : Int) x6 ((R.take (i + 1)).map (cut j)) x15 x16 x17 R (R.length : Int) ((i + 1 : Nat) : Int)) (fun k => ?_) (ih (i + 1) (by omega))
  simp only [spec_gmDeterminant.l1]
  have er : rd_L1 R (i : Int) = R[i] := by simp [rd_L1, List.getD, List.getElem?_eq_getElem h1]
  have ej : wrap64 ((j : Int) + 1) = ((j + 1 : Nat) : Int) := by unfold wrap64; omega
  have ei : wrap64 ((i : Int) + 1) = ((i + 1 : Nat) : Int) := by unfold wrap64; omega
  rw [if_pos (by omega), if_pos (by omega), if_pos (by omega), if_pos (by omega), er, if_pos (by omega), Int.toNat_natCast, own_is _ (by simp; omega), Option.bind_some, ej, if_pos (by omega), if_pos (by omega), Int.toNat_natCast, if_pos (by simp; omega), if_pos (by simp; omega), ei, List.take_succ_eq_append_getElem h1, List.map_append]
  rfl
theorem sd_l0 (M : List (List Int)) (n B : Nat) (hn : n + 1 ≤ 3) (hB : B ≤ 3249) (row : List Int) (hrow : row.length = n + 1) (hr : ∀ a ∈ row, a.natAbs ≤ 19) (hM : M.length = n + 1) (hMr : ∀ r ∈ M, r.length = n + 1) (D : Nat → Int) (hD : ∀ j, j < n + 1 → (D j).natAbs ≤ B ∧ Ev (fun k => spec_gmDeterminant.f k (minor j M)) (D j)) (d : Nat) :
  ∀ (i : Nat) (acc s : Int), i + d = n + 1 → (s = 1 ∨ s = -1) → acc.natAbs ≤ i * 61731 → Ev (fun k => spec_gmDeterminant.l0 k M acc s row (row.length : Int) (i : Int)) (acc + lap D s i (row.drop i)) := by
 induction d with
 | zero =>
  intro i acc s hi hs ha
  rw [List.drop_eq_nil_of_le (by omega)]
  simp only [lap, Int.add_zero]
  exact Ev.step (fun k => by simp only [spec_gmDeterminant.l0]; rw [if_neg (by omega)]) (Ev.now acc)
 | succ d ih =>
  intro i acc s hi hs ha
  have h1 : i < row.length := by omega
  obtain ⟨b1, e1⟩ := hD i (by omega)
  have hai := hr _ (List.getElem_mem h1)
  obtain ⟨m1, m2⟩ := sgn_mul hs hai b1 hB
  rw [List.drop_eq_getElem_cons h1]
  simp only [lap]
  have ei : wrap64 ((i : Int) + 1) = ((i + 1 : Nat) : Int) := by unfold wrap64; omega
  have es : wrap64 (-s) = -s := wrap_id (by omega) (by omega)
  generalize hx : row[i] = x at m1 m2 ⊢
  generalize hP : s * x * D i = P at m1 m2 ⊢
  have b2 : (acc + P).natAbs ≤ (i + 1) * 61731 := by
   have := Int.natAbs_add_le acc P
   omega
  have ew : wrap64 (acc + P) = acc + P := wrap_id (by omega) (by omega)
  have key := ih (i + 1) (acc + P) (-s) (by omega) (by omega) b2
  rw [show acc + (P + lap D (-s) (i + 1) (row.drop (i + 1))) = acc + P + lap D (-s) (i + 1) (row.drop (i + 1)) from (Int.add_assoc _ _ _).symm]
  refine Ev.step (f := fun k => spec_gmDeterminant.l1 k M acc s (i : Int) x (((M.drop 1).take 0).map (cut i)) row (row.length : Int) (i : Int) (M.drop 1) ((M.drop 1).length : Int) ((0 : Nat) : Int)) (fun k => ?_)
   (sd_l1 M acc s x row (row.length : Int) (i : Int) i (by omega) (M.drop 1) (fun r h => by have := hMr r (List.mem_of_mem_drop h); omega) (by rw [List.length_drop]; omega) _ ?_ (M.drop 1).length 0 (by omega))
  ·simp only [spec_gmDeterminant.l0]
   rw [if_pos (by omega), if_pos (by omega), if_pos (by omega), if_pos (by omega), Option.bind_some, rd_getElem h1, hx]
   rfl
  ·refine Ev.bind (a := D i) e1 ?_
   refine Ev.congr (f := fun k => spec_gmDeterminant.l0 k M (acc + P) (-s) row (row.length : Int) ((i + 1 : Nat) : Int)) (fun k => ?_) key
   rw [m1, ew, es, ei]
theorem minor_sq {M : List (List Int)} {n : Nat} (hM : M.length = n + 1) (hMr : ∀ r ∈ M, r.length = n + 1 ∧ ∀ a ∈ r, a.natAbs ≤ 19) {j : Nat} (hj : j < n + 1) : (minor j M).length = n ∧ ∀ r ∈ minor j M, r.length = n ∧ ∀ a ∈ r, a.natAbs ≤ 19 := by
 refine ⟨by simp [minor]; omega, fun r hr => ?_⟩
 obtain ⟨q, hq, rfl⟩ := List.mem_map.1 hr
 obtain ⟨q1, q2⟩ := hMr q (List.mem_of_mem_drop hq)
 refine ⟨by simp [cut]; omega, fun a ha => ?_⟩
 rcases List.mem_append.1 ha with h | h
 ·exact q2 a (List.mem_of_mem_take h)
 ·exact q2 a (List.mem_of_mem_drop h)
theorem specDet : ∀ (n : Nat), n ≤ 3 → ∀ M : List (List Int), M.length = n → (∀ r ∈ M, r.length = n ∧ ∀ a ∈ r, a.natAbs ≤ 19) → (detN n M).natAbs ≤ 57 ^ n ∧ Ev (fun k => spec_gmDeterminant.f k M) (detN n M)
 | 0, _, M, hM, _ => by
  refine ⟨by simp [detN], ?_⟩
  exact Ev.step (f := fun _ => some 1) (fun k => by simp only [spec_gmDeterminant.f]; rw [if_pos (by omega)]) (Ev.now 1)
 | n + 1, hn, M, hM, hMr => by
  have hlen : (M.getD 0 []) ∈ M := by
   rw [List.getD_eq_getElem?_getD, List.getElem?_eq_getElem (show 0 < M.length by omega)]
   exact List.getElem_mem _
  obtain ⟨q1, q2⟩ := hMr _ hlen
  have hD : ∀ j, j < n + 1 → (detN n (minor j M)).natAbs ≤ 57 ^ n ∧ Ev (fun k => spec_gmDeterminant.f k (minor j M)) (detN n (minor j M)) := fun j hj => by
   obtain ⟨a, b⟩ := minor_sq hM hMr hj
   exact specDet n (by omega) _ a b
  have hp : 57 ^ n ≤ 3249 := by
   have : n = 0 ∨ n = 1 ∨ n = 2 := by omega
   rcases this with rfl | rfl | rfl <;> decide
  constructor
  ·have := lap_bd (fun j => detN n (minor j M)) (57 ^ n) (n + 1) (fun j hj => (hD j hj).1) (M.getD 0 []) 1 0 (.inl rfl) q2 (by omega)
   rw [q1] at this
   simp only [detN, Nat.pow_succ]
   have h3 : (n + 1) * (19 * 57 ^ n) ≤ 3 * (19 * 57 ^ n) := Nat.mul_le_mul_right _ hn
   omega
  ·have := sd_l0 M n (57 ^ n) hn hp (M.getD 0 []) q1 q2 hM (fun r h => (hMr r h).1) (fun j => detN n (minor j M)) hD (n + 1) 0 0 1 (by omega) (.inl rfl) (by simp)
   simp only [List.drop_zero, Int.zero_add] at this
   refine Ev.step (fun k => ?_) this
   simp only [spec_gmDeterminant.f]
   rw [if_neg (by omega), if_pos (by omega)]
   rfl
theorem clone_is (l : List Int) (h : l.length < 17592186044416) : slices_Clone_int_int.f l = some l := by
 unfold slices_Clone_int_int.f
 rw [if_pos h]
theorem del_is (l : List Int) (j : Nat) (h : j < l.length) : slices_Delete_int_int.f l (j : Int) ((j + 1 : Nat) : Int) = some (cut j l) := by
 unfold slices_Delete_int_int.f cut
 rw [if_pos ⟨by omega, by omega, by omega⟩, Int.toNat_natCast, Int.toNat_natCast]
theorem id_l1 (x0 : List (List Int)) (x3 x4 : Int) (x18 x19 : Int) (j : Nat) (hj1 : j ≤ 1000) (row : List Int) (h0 : 0 < x0.length) (hrow : rd_L1 x0 0 = row) (hjr : j < row.length) (R : List (List Int)) (hR : ∀ r ∈ R, j < r.length ∧ r.length ≤ 1000) (hl : R.length ≤ 1000) (v : Int)
  (hfin : Ev (fun k => (impl_det.f k (R.map (cut j))).bind fun t => impl_det.l0 k x0 (wrap64 (x3 + wrap64 (wrap64 (x4 * row[j]) * t))) (wrap64 (-x4)) x18 (wrap64 (x19 + 1))) v) (d : Nat) :
  ∀ i : Nat, i + d = R.length → Ev (fun k => impl_det.l1 k x0 x3 x4 (j : Int) ((R.take i).map (cut j)) x18 x19 R (R.length : Int) (i : Int)) v := by
 induction d with
 | zero =>
  intro i hi
  rw [List.take_of_length_le (by omega)]
  refine Ev.step (fun k => ?_) hfin
  simp only [impl_det.l1]
  rw [if_neg (by omega), if_pos (by omega), if_pos (by omega), hrow, if_pos (by omega), rd_getElem hjr]
 | succ d ih =>
  intro i hi
  have h1 : i < R.length := by omega
  obtain ⟨r1, r2⟩ := hR _ (List.getElem_mem h1)
  refine Ev.step (f := fun k => impl_det.l1 k x0 x3 x4 (j : Int) ((R.take (i + 1)).map (cut j)) x18 x19 R (R.length : Int) ((i + 1 : Nat) : Int)) (fun k => ?_) (ih (i + 1) (by omega))
  simp only [impl_det.l1]
  have er : rd_L1 R (i : Int) = R[i] := by simp [rd_L1, List.getD, List.getElem?_eq_getElem h1]
  have ej : wrap64 ((j : Int) + 1) = ((j + 1 : Nat) : Int) := by unfold wrap64; omega
  have ei : wrap64 ((i : Int) + 1) = ((i + 1 : Nat) : Int) := by unfold wrap64; omega
  rw [if_pos (by omega), if_pos (by omega), if_pos (by omega), er, clone_is _ (by omega), Option.bind_some, ej, del_is _ _ r1, Option.bind_some, if_pos (by simp; omega), ei, List.take_succ_eq_append_getElem h1, List.map_append]
  rfl
theorem id_l0 (M : List (List Int)) (n B : Nat) (hn : n + 1 ≤ 3) (hB : B ≤ 3249) (row : List Int) (hrow : row.length = n + 1) (hr : ∀ a ∈ row, a.natAbs ≤ 19) (hM : M.length = n + 1) (hr0 : rd_L1 M 0 = row) (hMr : ∀ r ∈ M, r.length = n + 1) (D : Nat → Int) (hD : ∀ j, j < n + 1 → (D j).natAbs ≤ B ∧ Ev (fun k => impl_det.f k (minor j M)) (D j)) (d : Nat) :
  ∀ (i : Nat) (acc s : Int), i + d = n + 1 → (s = 1 ∨ s = -1) → acc.natAbs ≤ i * 61731 → Ev (fun k => impl_det.l0 k M acc s (M.length : Int) (i : Int)) (acc + lap D s i (row.drop i)) := by
 induction d with
 | zero =>
  intro i acc s hi hs ha
  rw [List.drop_eq_nil_of_le (by omega)]
  simp only [lap, Int.add_zero]
  exact Ev.step (fun k => by simp only [impl_det.l0]; rw [if_neg (by omega)]) (Ev.now acc)
 | succ d ih =>
  intro i acc s hi hs ha
  have h1 : i < row.length := by omega
  obtain ⟨b1, e1⟩ := hD i (by omega)
  have hai := hr _ (List.getElem_mem h1)
  obtain ⟨m1, m2⟩ := sgn_mul hs hai b1 hB
  have hmid := id_l1 M acc s (M.length : Int) (i : Int) i (by omega) row (by omega) hr0 h1 (M.drop 1) (fun r h => by have := hMr r (List.mem_of_mem_drop h); omega) (by rw [List.length_drop]; omega) (acc + lap D s i (row.drop i))
  rw [List.drop_eq_getElem_cons h1] at hmid ⊢
  simp only [lap] at hmid ⊢
  have ei : wrap64 ((i : Int) + 1) = ((i + 1 : Nat) : Int) := by unfold wrap64; omega
  have es : wrap64 (-s) = -s := wrap_id (by omega) (by omega)
  generalize hx : row[i] = x at m1 m2 hmid ⊢
  generalize hP : s * x * D i = P at m1 m2 hmid ⊢
  have b2 : (acc + P).natAbs ≤ (i + 1) * 61731 := by
   have := Int.natAbs_add_le acc P
   omega
  have ew : wrap64 (acc + P) = acc + P := wrap_id (by omega) (by omega)
  have key := ih (i + 1) (acc + P) (-s) (by omega) (by omega) b2
  rw [Int.add_assoc] at key
  refine Ev.step (f := fun k => impl_det.l1 k M acc s (i : Int) (((M.drop 1).take 0).map (cut i)) (M.length : Int) (i : Int) (M.drop 1) ((M.drop 1).length : Int) ((0 : Nat) : Int)) (fun k => ?_)
   (hmid ?_ (M.drop 1).length 0 (by omega))
  ·simp only [impl_det.l0]
   rw [if_pos (by omega), if_pos (by omega), Option.bind_some]
   rfl
  ·refine Ev.bind (a := D i) e1 ?_
   refine Ev.congr (f := fun k => impl_det.l0 k M (acc + P) (-s) (M.length : Int) ((i + 1 : Nat) : Int)) (fun k => ?_) key
   rw [m1, ew, es, ei]
theorem implDet : ∀ (n : Nat), 1 ≤ n → n ≤ 3 → ∀ M : List (List Int), M.length = n → (∀ r ∈ M, r.length = n ∧ ∀ a ∈ r, a.natAbs ≤ 19) → Ev (fun k => impl_det.f k M) (detN n M)
 | 0, h, _, _, _, _ => by omega
 | n + 1, _, hn, M, hM, hMr => by
  have hr0 : rd_L1 M 0 = M.getD 0 [] := rfl
  have hlen : (M.getD 0 []) ∈ M := by
   rw [List.getD_eq_getElem?_getD, List.getElem?_eq_getElem (show 0 < M.length by omega)]
   exact List.getElem_mem _
  obtain ⟨q1, q2⟩ := hMr _ hlen
  by_cases n0 : n = 0
  ·subst n0
   have h0 : 0 < (M.getD 0 []).length := by omega
   have e : detN (0 + 1) M = (M.getD 0 [])[0] := by
    obtain ⟨a, ha⟩ := List.length_eq_one_iff.mp (show (M.getD 0 []).length = 1 by omega)
    simp only [detN, ha, lap]
    simp
   rw [e]
   refine Ev.step (f := fun _ => some (M.getD 0 [])[0]) (fun k => ?_) (Ev.now _)
   simp only [impl_det.f]
   rw [if_pos (by omega), if_pos (by omega), hr0, if_pos (by omega)]
   have := rd_getElem h0
   simp only [Int.natCast_zero] at this
   rw [← this]
  ·have hD : ∀ j, j < n + 1 → (detN n (minor j M)).natAbs ≤ 57 ^ n ∧ Ev (fun k => impl_det.f k (minor j M)) (detN n (minor j M)) := fun j hj => by
    obtain ⟨a, b⟩ := minor_sq hM hMr hj
    exact ⟨(specDet n (by omega) _ a b).1, implDet n (by omega) (by omega) _ a b⟩
   have hp : 57 ^ n ≤ 3249 := by
    have : n = 1 ∨ n = 2 := by omega
    rcases this with rfl | rfl <;> decide
   have := id_l0 M n (57 ^ n) hn hp (M.getD 0 []) q1 q2 hM hr0 (fun r h => (hMr r h).1) (fun j => detN n (minor j M)) hD (n + 1) 0 0 1 (by omega) (.inl rfl) (by simp)
   simp only [List.drop_zero, Int.zero_add] at this
   refine Ev.step (fun k => ?_) this
   simp only [impl_det.f]
   rw [if_neg (by omega)]
   rfl
theorem detN1 (a : Int) : detN 1 [[a]] = a := by simp [detN, lap]
theorem detN2 (a b c d : Int) : detN 2 [[a, b], [c, d]] = a * d - b * c := by
 simp [detN, lap, minor, cut]
 grind
theorem detN3 (a b c d e f g h i : Int) : detN 3 [[a, b, c], [d, e, f], [g, h, i]] = a * (e * i - f * h) - b * (d * i - f * g) + c * (d * h - e * g) := by
 simp [detN, lap, minor, cut]
 grind
end Go.Proofs.Ytggiicplcglalaa.GmDet
end
namespace Go.Proofs.Ytggiicplcglalaa.LH
end Go.Proofs.Ytggiicplcglalaa.LH
section
namespace Go.Proofs.Ytggiicplcglalaa.LH
set_option linter.unusedSectionVars false
set_option autoImplicit true
set_option linter.unusedVariables false
abbrev H := Int × Int × Int × Int
def ev (f x : H) : Int := f.1 * x.1 + f.2.1 * x.2.1 + f.2.2.1 * x.2.2.1 + f.2.2.2 * x.2.2.2
def det3 (f g h : H) : Int := f.1 * (g.2.1 * h.2.2.1 - g.2.2.1 * h.2.1) - f.2.1 * (g.1 * h.2.2.1 - g.2.2.1 * h.1) + f.2.2.1 * (g.1 * h.2.1 - g.2.1 * h.1)
def mix (u : Int) (x : H) (v : Int) (y : H) : H := (u * x.1 + v * y.1, u * x.2.1 + v * y.2.1, u * x.2.2.1 + v * y.2.2.1, u * x.2.2.2 + v * y.2.2.2)
theorem ev_mix (f : H) (u : Int) (x : H) (v : Int) (y : H) : ev f (mix u x v y) = u * ev f x + v * ev f y := by
 simp only [ev, mix]; grind
theorem zero_of {f g h x : H} (hd : det3 f g h ≠ 0) (hx : x.2.2.2 = 0) (h1 : ev f x = 0) (h2 : ev g x = 0) (h3 : ev h x = 0) : x = (0, 0, 0, 0) := by
 obtain ⟨x1, x2, x3, x4⟩ := x
 obtain ⟨f1, f2, f3, f4⟩ := f
 obtain ⟨g1, g2, g3, g4⟩ := g
 obtain ⟨i1, i2, i3, i4⟩ := h
 simp only at hx
 subst hx
 simp only [ev, det3] at hd h1 h2 h3
 have a1 : (f1 * (g2 * i3 - g3 * i2) - f2 * (g1 * i3 - g3 * i1) + f3 * (g1 * i2 - g2 * i1)) * x1 = 0 := by grind
 have a2 : (f1 * (g2 * i3 - g3 * i2) - f2 * (g1 * i3 - g3 * i1) + f3 * (g1 * i2 - g2 * i1)) * x2 = 0 := by grind
 have a3 : (f1 * (g2 * i3 - g3 * i2) - f2 * (g1 * i3 - g3 * i1) + f3 * (g1 * i2 - g2 * i1)) * x3 = 0 := by grind
 rcases Int.mul_eq_zero.mp a1 with c | c
 ·exact absurd c hd
 rcases Int.mul_eq_zero.mp a2 with c2 | c2
 ·exact absurd c2 hd
 rcases Int.mul_eq_zero.mp a3 with c3 | c3
 ·exact absurd c3 hd
 rw [c, c2, c3]
def gcd4 (x : H) : Nat := Nat.gcd (Nat.gcd (Nat.gcd x.1.natAbs x.2.1.natAbs) x.2.2.1.natAbs) x.2.2.2.natAbs
theorem gcd4_mul (u : Int) (x : H) : gcd4 (u * x.1, u * x.2.1, u * x.2.2.1, u * x.2.2.2) = u.natAbs * gcd4 x := by
 simp only [gcd4, Int.natAbs_mul, Nat.gcd_mul_left]
theorem prim_eq {p q : H} (hp : 0 < p.2.2.2) (hq : 0 < q.2.2.2) (gp : gcd4 p = 1) (gq : gcd4 q = 1) (h : mix p.2.2.2 q (-q.2.2.2) p = (0, 0, 0, 0)) : p = q := by
 obtain ⟨p1, p2, p3, p4⟩ := p
 obtain ⟨q1, q2, q3, q4⟩ := q
 simp only [mix, Prod.mk.injEq] at h hp hq
 obtain ⟨h1, h2, h3, _⟩ := h
 have e1 : p4 * q1 = q4 * p1 := by grind
 have e2 : p4 * q2 = q4 * p2 := by grind
 have e3 : p4 * q3 = q4 * p3 := by grind
 have a := gcd4_mul p4 (q1, q2, q3, q4)
 have b := gcd4_mul q4 (p1, p2, p3, p4)
 simp only at a b
 rw [e1, e2, e3, Int.mul_comm p4 q4, b, gp, gq] at a
 have e4 : p4 = q4 := by omega
 subst e4
 have c1 := Int.eq_of_mul_eq_mul_left (by omega) e1
 have c2 := Int.eq_of_mul_eq_mul_left (by omega) e2
 have c3 := Int.eq_of_mul_eq_mul_left (by omega) e3
 rw [c1, c2, c3]
theorem same_of {f g h p q : H} (hd : det3 f g h ≠ 0) (hp : 0 < p.2.2.2) (hq : 0 < q.2.2.2) (gp : gcd4 p = 1) (gq : gcd4 q = 1) (a1 : ev f p = 0) (a2 : ev g p = 0) (a3 : ev h p = 0) (b1 : ev f q = 0) (b2 : ev g q = 0) (b3 : ev h q = 0) : p = q := by
 refine prim_eq hp hq gp gq (zero_of hd ?_ ?_ ?_ ?_)
 ·simp only [mix]; grind
 ·rw [ev_mix, a1, b1]; omega
 ·rw [ev_mix, a2, b2]; omega
 ·rw [ev_mix, a3, b3]; omega
theorem ev_scale (f : H) (m : Int) (y : H) : ev f (m * y.1, m * y.2.1, m * y.2.2.1, m * y.2.2.2) = m * ev f y := by
 simp only [ev]; grind
section
variable (F : Nat → H) (N : Nat) (D : List H)
def labs (p : H) : List Nat := (List.range N).filter fun k => decide (ev (F k) p = 0)
variable {F N D}
end
end Go.Proofs.Ytggiicplcglalaa.LH
end
section
namespace Go.Proofs.Ytggiicplcglalaa.LH
set_option linter.unusedSectionVars false
set_option autoImplicit true
set_option linter.unusedVariables false
def emb : List Int → H
 | [a, d] => (a, 0, 0, d)
 | [a, b, d] => (a, b, 0, d)
 | [a, b, c, d] => (a, b, c, d)
 | _ => (0, 0, 0, 0)
def unitH : Nat → H
 | 0 => (1, 0, 0, 0)
 | 1 => (0, 1, 0, 0)
 | _ => (0, 0, 1, 0)
def dums : Nat → List H
 | 1 => [unitH 1, unitH 2]
 | 2 => [unitH 2]
 | _ => []
def detS (F : Nat → H) : List Nat → Int
 | [a] => det3 (F a) (unitH 1) (unitH 2)
 | [a, b] => det3 (F a) (F b) (unitH 2)
 | [a, b, c] => det3 (F a) (F b) (F c)
 | _ => 0
def IsCorner (F : Nat → H) (N dim : Nat) (p : List Int) : Prop :=
 p.length = dim + 1 ∧ 0 < (emb p).2.2.2 ∧ gcd4 (emb p) = 1 ∧ (∀ k, k < N → 0 ≤ ev (F k) (emb p)) ∧
 ∃ S : List Nat, S.length = dim ∧ (∀ k ∈ S, k < N ∧ ev (F k) (emb p) = 0) ∧ detS F S ≠ 0
theorem det3_rot (a b c : H) : det3 a b c = det3 b c a := by simp only [det3]; grind
theorem det3_swap (a b c : H) : det3 a b c = - det3 a c b := by simp only [det3]; grind
theorem det3_self (a b : H) : det3 a a b = 0 := by simp only [det3]; grind
theorem len1 {α : Type} : ∀ {S : List α}, S.length = 1 → ∃ a, S = [a]
 | [a], _ => ⟨a, rfl⟩
 | [], h => by simp at h
 | a :: b :: S, h => by simp at h
theorem len2 {α : Type} : ∀ {S : List α}, S.length = 2 → ∃ a b, S = [a, b]
 | [a, b], _ => ⟨a, b, rfl⟩
 | [], h => by simp at h
 | [a], h => by simp at h
 | a :: b :: c :: S, h => by simp at h
theorem len3 {α : Type} : ∀ {S : List α}, S.length = 3 → ∃ a b c, S = [a, b, c]
 | [a, b, c], _ => ⟨a, b, c, rfl⟩
 | [], h => by simp at h
 | [a], h => by simp at h
 | [a, b], h => by simp at h
 | a :: b :: c :: d :: S, h => by simp at h
theorem len4 {α : Type} {S : List α} (h : S.length = 4) : ∃ a b c d, S = [a, b, c, d] := by
 cases S with
 | nil => simp at h
 | cons a S =>
  obtain ⟨b, c, d, rfl⟩ := len3 (S := S) (by simpa using h)
  exact ⟨a, b, c, d, rfl⟩
theorem detS_nodup {F : Nat → H} {dim : Nat} (hd : dim = 1 ∨ dim = 2 ∨ dim = 3) {S : List Nat} (hS : S.length = dim) (h : detS F S ≠ 0) : S.Nodup := by
 rcases hd with rfl | rfl | rfl
 ·obtain ⟨a, rfl⟩ := len1 hS; simp
 ·obtain ⟨a, b, rfl⟩ := len2 hS
  simp only [List.nodup_cons, List.mem_singleton, List.not_mem_nil, not_false_eq_true, List.nodup_nil, and_true]
  intro e; subst e
  exact h (det3_self _ _)
 ·obtain ⟨a, b, c, rfl⟩ := len3 hS
  have h1 : a ≠ b := by intro e; subst e; exact h (det3_self _ _)
  have h2 : b ≠ c := by intro e; subst e; exact h (by show det3 _ _ _ = 0; rw [det3_rot]; exact det3_self _ _)
  have h3 : a ≠ c := by intro e; subst e; exact h (by show det3 _ _ _ = 0; rw [det3_rot, det3_rot]; exact det3_self _ _)
  simp [h1, h2, h3]
theorem emb_dums {dim : Nat} (hd : dim = 1 ∨ dim = 2 ∨ dim = 3) {p : List Int} (hp : p.length = dim + 1) : ∀ f ∈ dums dim, ev f (emb p) = 0 := by
 rcases hd with rfl | rfl | rfl
 ·obtain ⟨a, b, rfl⟩ := len2 hp; simp [dums, emb, ev, unitH]
 ·obtain ⟨a, b, c, rfl⟩ := len3 hp; simp [dums, emb, ev, unitH]
 ·simp [dums]
theorem emb_inj {dim : Nat} (hd : dim = 1 ∨ dim = 2 ∨ dim = 3) {p q : List Int} (hp : p.length = dim + 1) (hq : q.length = dim + 1) (e : emb p = emb q) : p = q := by
 rcases hd with rfl | rfl | rfl
 ·obtain ⟨a, b, rfl⟩ := len2 hp; obtain ⟨a', b', rfl⟩ := len2 hq; simp [emb] at e; simp [e]
 ·obtain ⟨a, b, c, rfl⟩ := len3 hp; obtain ⟨a', b', c', rfl⟩ := len3 hq; simp [emb] at e; simp [e]
 ·obtain ⟨a, b, c, d, rfl⟩ := len4 hp; obtain ⟨a', b', c', d', rfl⟩ := len4 hq; simp [emb] at e; simp [e]
theorem corner_unique {F : Nat → H} {N dim : Nat} (hd : dim = 1 ∨ dim = 2 ∨ dim = 3) {S : List Nat} (hS : S.length = dim) (hdet : detS F S ≠ 0) {p q : List Int} (hp : p.length = dim + 1) (hq : q.length = dim + 1) (pd : 0 < (emb p).2.2.2) (qd : 0 < (emb q).2.2.2) (pg : gcd4 (emb p) = 1) (qg : gcd4 (emb q) = 1)
  (pS : ∀ k ∈ S, ev (F k) (emb p) = 0) (qS : ∀ k ∈ S, ev (F k) (emb q) = 0) : p = q := by
 apply emb_inj hd hp hq
 have dp := emb_dums hd hp
 have dq := emb_dums hd hq
 rcases hd with rfl | rfl | rfl
 ·obtain ⟨a, rfl⟩ := len1 hS
  exact same_of hdet pd qd pg qg (pS a (by simp)) (dp _ (by simp [dums])) (dp _ (by simp [dums])) (qS a (by simp)) (dq _ (by simp [dums])) (dq _ (by simp [dums]))
 ·obtain ⟨a, b, rfl⟩ := len2 hS
  exact same_of hdet pd qd pg qg (pS a (by simp)) (pS b (by simp)) (dp _ (by simp [dums])) (qS a (by simp)) (qS b (by simp)) (dq _ (by simp [dums]))
 ·obtain ⟨a, b, c, rfl⟩ := len3 hS
  exact same_of hdet pd qd pg qg (pS a (by simp)) (pS b (by simp)) (pS c (by simp)) (qS a (by simp)) (qS b (by simp)) (qS c (by simp))
end Go.Proofs.Ytggiicplcglalaa.LH
end
