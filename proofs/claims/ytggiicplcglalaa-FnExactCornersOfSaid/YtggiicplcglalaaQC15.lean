/- Part of the proof that the law FnExactCornersOf answers true for all arguments. -/
import Derived.Test.YtggiicplcglalaaQC13
import Derived.Test.YtggiicplcglalaaQC14
namespace Go.Proofs.Ytggiicplcglalaa.All
open Go.RowKit Go.Proofs.YtggiicplcglalaaW.PrintWords Go.Proofs.YtggiicplcglalaaW.PrintLast Go.Proofs.YtggiicplcglalaaW.PrintMore
attribute [local go_sem] max2_int min2_int max_two min_two max_three min_three max_four min_four
set_option linter.unusedVariables false
set_option linter.unusedSimpArgs false
mutual
def impl_Game_figureOf.l0 : Nat → Int → Int → Int → List (S70) → List (S70) → Int → Int → List (List Int) → List (List Int) → Option (Int × (List (S70)))
 | 0, _, _, _, _, _, _, _, _, _ => none
 | k + 1, x1, x5, x6, x8, x9, x28, x29, x348000, x348001 => if x29 < x28 then ((impl_sure.f x29 x5).bind fun t359 => (if x8.length < 3518437208883 then (impl_Game_figureOf.l0 k x1 x5 x6 (x8 ++ [(⟨t359, 0, true⟩ : S70)]) x9 x28 (wrap64 (x29 + 1)) x348000 x348001) else (none))) else (impl_Game_figureOf.l1 k x1 x5 x8 x9 x6 0 x348000 x348001)
def impl_Game_figureOf.l1 : Nat → Int → Int → List (S70) → List (S70) → Int → Int → List (List Int) → List (List Int) → Option (Int × (List (S70)))
 | 0, _, _, _, _, _, _, _, _ => none
 | k + 1, x1, x5, x8, x9, x40, x41, x348000, x348001 => if x41 < x40 then ((impl_payR.f x41 x348000 x348001).bind fun t377 => (impl_Game_figureOf.l102 k x1 x5 x8 x9 t377 x40 x41 (t377.length : Int) 0 x348000 x348001)) else (if x1 = 2 then ((impl_condition_60.f k (([x9, x8] : List (List (S70))))).bind fun t368 => (some (x5, t368))) else ((impl_condition_60.f k (([x8, x9] : List (List (S70))))).bind fun t374 => (some (x5, t374))))
def impl_Game_figureOf.l102 : Nat → Int → Int → List (S70) → List (S70) → List Int → Int → Int → Int → Int → List (List Int) → List (List Int) → Option (Int × (List (S70)))
 | 0, _, _, _, _, _, _, _, _, _, _, _ => none
 | k + 1, x1, x5, x8, x9, x12, x40, x41, x48, x49, x348000, x348001 => if x49 < x48 then (if 0 ≤ x49 then (if x49 < (x12.length : Int) then (impl_Game_figureOf.l102 k x1 x5 x8 x9 (x12.set (x49 : Int).toNat (wrap64 ((rd x12 x49) + 10))) x40 x41 x48 (wrap64 (x49 + 1)) x348000 x348001) else (none)) else (none)) else (if x9.length < 3518437208883 then (impl_Game_figureOf.l1 k x1 x5 x8 (x9 ++ [(⟨x12, 1, false⟩ : S70)]) x40 (wrap64 (x41 + 1)) x348000 x348001) else (none))
def impl_Game_figureOf.l200 : Nat → Int → Int → Int → List (S70) → List (S70) → Int → Int → List (List Int) → List (List Int) → Option (Int × (List (S70)))
 | 0, _, _, _, _, _, _, _, _, _ => none
 | k + 1, x1, x5, x6, x8, x9, x28, x29, x348000, x348001 => if x29 < x28 then ((impl_sure.f x29 x5).bind fun t391 => (if x8.length < 3518437208883 then (impl_Game_figureOf.l200 k x1 x5 x6 (x8 ++ [(⟨t391, 0, true⟩ : S70)]) x9 x28 (wrap64 (x29 + 1)) x348000 x348001) else (none))) else (impl_Game_figureOf.l201 k x1 x5 x8 x9 x6 0 x348000 x348001)
def impl_Game_figureOf.l201 : Nat → Int → Int → List (S70) → List (S70) → Int → Int → List (List Int) → List (List Int) → Option (Int × (List (S70)))
 | 0, _, _, _, _, _, _, _, _ => none
 | k + 1, x1, x5, x8, x9, x40, x41, x348000, x348001 => if x41 < x40 then ((impl_payC.f k x41 x348000 x348001).bind fun t409 => (impl_Game_figureOf.l302 k x1 x5 x8 x9 t409 x40 x41 (t409.length : Int) 0 x348000 x348001)) else (if x1 = 2 then ((impl_condition_60.f k (([x9, x8] : List (List (S70))))).bind fun t400 => (some (x5, t400))) else ((impl_condition_60.f k (([x8, x9] : List (List (S70))))).bind fun t406 => (some (x5, t406))))
def impl_Game_figureOf.l302 : Nat → Int → Int → List (S70) → List (S70) → List Int → Int → Int → Int → Int → List (List Int) → List (List Int) → Option (Int × (List (S70)))
 | 0, _, _, _, _, _, _, _, _, _, _, _ => none
 | k + 1, x1, x5, x8, x9, x12, x40, x41, x48, x49, x348000, x348001 => if x49 < x48 then (if 0 ≤ x49 then (if x49 < (x12.length : Int) then (impl_Game_figureOf.l302 k x1 x5 x8 x9 (x12.set (x49 : Int).toNat (wrap64 ((rd x12 x49) + 10))) x40 x41 x48 (wrap64 (x49 + 1)) x348000 x348001) else (none)) else (none)) else (if x9.length < 3518437208883 then (impl_Game_figureOf.l201 k x1 x5 x8 (x9 ++ [(⟨x12, 1, false⟩ : S70)]) x40 (wrap64 (x41 + 1)) x348000 x348001) else (none))
end
def impl_Game_figureOf.f (k : Nat) (l0_0 : List (List Int)) (l0_1 : List (List Int)) (a1 : Int) : Option (Int × (List (S70))) := (impl_Game_m.f l0_0 l0_1).bind fun t349 => ((impl_Game_n.f l0_0 l0_1).bind fun t350 => (if a1 = 2 then ((impl_Game_n.f l0_0 l0_1).bind fun t351 => ((impl_Game_m.f l0_0 l0_1).bind fun t352 => (impl_Game_figureOf.l0 k a1 t351 t352 (([] : List (S70))) (([] : List (S70))) t351 0 l0_0 l0_1))) else (impl_Game_figureOf.l200 k a1 t349 t350 (([] : List (S70))) (([] : List (S70))) t349 0 l0_0 l0_1)))
theorem impl_Game_figureOf.mono_l : ∀ k, (∀ y0 y1 y2 y3 y4 y5 y6 y7 y8, LeO (impl_Game_figureOf.l0 k y0 y1 y2 y3 y4 y5 y6 y7 y8) (impl_Game_figureOf.l0 (k + 1) y0 y1 y2 y3 y4 y5 y6 y7 y8)) ∧ (∀ y0 y1 y2 y3 y4 y5 y6 y7, LeO (impl_Game_figureOf.l1 k y0 y1 y2 y3 y4 y5 y6 y7) (impl_Game_figureOf.l1 (k + 1) y0 y1 y2 y3 y4 y5 y6 y7)) ∧ (∀ y0 y1 y2 y3 y4 y5 y6 y7 y8 y9 y10, LeO (impl_Game_figureOf.l102 k y0 y1 y2 y3 y4 y5 y6 y7 y8 y9 y10) (impl_Game_figureOf.l102 (k + 1) y0 y1 y2 y3 y4 y5 y6 y7 y8 y9 y10)) ∧ (∀ y0 y1 y2 y3 y4 y5 y6 y7 y8, LeO (impl_Game_figureOf.l200 k y0 y1 y2 y3 y4 y5 y6 y7 y8) (impl_Game_figureOf.l200 (k + 1) y0 y1 y2 y3 y4 y5 y6 y7 y8)) ∧ (∀ y0 y1 y2 y3 y4 y5 y6 y7, LeO (impl_Game_figureOf.l201 k y0 y1 y2 y3 y4 y5 y6 y7) (impl_Game_figureOf.l201 (k + 1) y0 y1 y2 y3 y4 y5 y6 y7)) ∧ (∀ y0 y1 y2 y3 y4 y5 y6 y7 y8 y9 y10, LeO (impl_Game_figureOf.l302 k y0 y1 y2 y3 y4 y5 y6 y7 y8 y9 y10) (impl_Game_figureOf.l302 (k + 1) y0 y1 y2 y3 y4 y5 y6 y7 y8 y9 y10))
 | 0 => ⟨fun _ _ _ _ _ _ _ _ _ r h => by simp [impl_Game_figureOf.l0] at h, fun _ _ _ _ _ _ _ _ r h => by simp [impl_Game_figureOf.l1] at h, fun _ _ _ _ _ _ _ _ _ _ _ r h => by simp [impl_Game_figureOf.l102] at h, fun _ _ _ _ _ _ _ _ _ r h => by simp [impl_Game_figureOf.l200] at h, fun _ _ _ _ _ _ _ _ r h => by simp [impl_Game_figureOf.l201] at h, fun _ _ _ _ _ _ _ _ _ _ _ r h => by simp [impl_Game_figureOf.l302] at h⟩
 | k + 1 => by
  obtain ⟨ih0, ih1, ih2, ih3, ih4, ih5⟩ := impl_Game_figureOf.mono_l k
  refine ⟨?_, ?_, ?_, ?_, ?_, ?_⟩ <;> intros <;> (first | unfold impl_Game_figureOf.l0 | unfold impl_Game_figureOf.l1 | unfold impl_Game_figureOf.l102 | unfold impl_Game_figureOf.l200 | unfold impl_Game_figureOf.l201 | unfold impl_Game_figureOf.l302)
  all_goals repeat' first
  | (with_reducible exact ih0 ..)
  | (with_reducible exact ih1 ..)
  | (with_reducible exact ih2 ..)
  | (with_reducible exact ih3 ..)
  | (with_reducible exact ih4 ..)
  | (with_reducible exact ih5 ..)
  | (with_reducible exact impl_condition_60.mono ..)
  | (with_reducible exact impl_payC.mono ..)
  | (with_reducible exact LeO.refl _)
  | (with_reducible exact LeO.none _)
  | (with_reducible refine LeO.ite ?_ ?_)
  | (with_reducible refine LeO.bind ?_ (fun _ => ?_))
theorem impl_Game_figureOf.mono : ∀ a0 a1 a2 k, LeO (impl_Game_figureOf.f k a0 a1 a2) (impl_Game_figureOf.f (k + 1) a0 a1 a2) := by
 intro a0 a1 a2 k
 obtain ⟨ih0, ih1, ih2, ih3, ih4, ih5⟩ := impl_Game_figureOf.mono_l k
 unfold impl_Game_figureOf.f
 repeat' first
   | (with_reducible exact ih0 ..)
   | (with_reducible exact ih1 ..)
   | (with_reducible exact ih2 ..)
   | (with_reducible exact ih3 ..)
   | (with_reducible exact ih4 ..)
   | (with_reducible exact ih5 ..)
   | (with_reducible exact impl_condition_60.mono ..)
   | (with_reducible exact impl_payC.mono ..)
   | (with_reducible exact LeO.refl _)
   | (with_reducible exact LeO.none _)
   | (with_reducible refine LeO.ite ?_ ?_)
   | (with_reducible refine LeO.bind ?_ (fun _ => ?_))
def impl_Game_figureOf.T1 : Bool × List (List Nat × List Nat) := (true, [([], []), ([0], [0]), ([], []), ([2, 1], [2]), ([], []), ([1, 3, 0, 1], [1]), ([3, 5, 0, 1, 2, 3, 5], [3]), ([4, 6, 0, 1, 2, 3, 4, 5, 6], [4])])
def impl_Game_figureOf.B1 : List Nat := [0, 1, 0, 7, 0, 15, 47, 127]
theorem impl_Game_figureOf.tab1 : rtab .any (opsOf Try.f31 1) = impl_Game_figureOf.T1 := by kernel_rfl
theorem impl_Game_figureOf.bits1 : waitsOk impl_Game_figureOf.T1.2 impl_Game_figureOf.B1 = true := by kernel_rfl
def impl_Game_figureOf.T3 : Bool × List (List Nat × List Nat) := (true, [([], []), ([0], [0]), ([], []), ([2, 1], [2]), ([], []), ([1, 3, 0, 1], [1]), ([3, 5, 0, 1, 2, 3, 5], [3]), ([4, 6, 0, 1, 2, 3, 4, 5, 6], [4])])
def impl_Game_figureOf.B3 : List Nat := [0, 1, 0, 7, 0, 15, 47, 127]
theorem impl_Game_figureOf.tab3 : rtab .any (opsOf Try.f31 3) = impl_Game_figureOf.T3 := by kernel_rfl
theorem impl_Game_figureOf.bits3 : waitsOk impl_Game_figureOf.T3.2 impl_Game_figureOf.B3 = true := by kernel_rfl
set_option maxHeartbeats 8000000 in
set_option maxRecDepth 100000 in
theorem impl_Game_figureOf.calls (k : Nat) (A0_0 : Option Addr) (c0_0 : Nat) (l0_0 : List (List Int)) (A0_1 : Option Addr) (c0_1 : Nat) (l0_1 : List (List Int)) (a1 : Int) (r1 : Int) (r2 : List (S70)) (w : World) (hr0_0 : Kd.C (Kd.slice 3 (Kd.int .i64)) w A0_0 l0_0.length l0_0) (hc0_0 : l0_0.length ≤ c0_0) (hr0_1 : Kd.C (Kd.slice 3 (Kd.int .i64)) w A0_1 l0_1.length l0_1) (hc0_1 : l0_1.length ≤ c0_1) (h : impl_Game_figureOf.f k l0_0 l0_1 a1 = some (r1, r2)) :
  Calls Try.prog 31 #[.agg #[.slice A0_0 l0_0.length c0_0, .slice A0_1 l0_1.length c0_1], .int .i64 a1] w fun e w' => ∃ v1_ : Value, e = .returned (.agg #[.int .i64 r1, v1_]) ∧ Kd.N k70 70 w' w.heap.size (fun k_ => (w.heap.size ≤ k_)) v1_ r2 ∧ Below w.heap.size w w' := by
 have hu28 := Try.underlying28
 have hu51 := Try.underlying51
 have hu70 := Try.underlying70
 have HR0_0 := Aside0.mk hr0_0
 have HC0_0 := Aside0.mk hc0_0
 clear hr0_0 hc0_0
 have HR0_1 := Aside0.mk hr0_1
 have HC0_1 := Aside0.mk hc0_1
 clear hr0_1 hc0_1
 have HB := Aside0.mk (Below.refl w.heap.size w)
 have H : ((impl_Game_m.f l0_0 l0_1).bind fun t349 => ((impl_Game_n.f l0_0 l0_1).bind fun t350 => (if a1 = 2 then ((impl_Game_n.f l0_0 l0_1).bind fun t351 => ((impl_Game_m.f l0_0 l0_1).bind fun t352 => (impl_Game_figureOf.l0 k a1 t351 t352 (([] : List (S70))) (([] : List (S70))) t351 0 l0_0 l0_1))) else (impl_Game_figureOf.l200 k a1 t349 t350 (([] : List (S70))) (([] : List (S70))) t349 0 l0_0 l0_1)))) = some (r1, r2) := h
 clear h
 replace H := bindA H; obtain ⟨t349, A3, H⟩ := H
 replace H := bindA H; obtain ⟨t350, A4, H⟩ := H
 by_cases c5 : a1 = 2
 ·rw [if_pos c5] at H
  have c5b0 := eqb1 c5
  have c5b1 := eqb2 c5
  clear c5
  replace H := bindA H; obtain ⟨t351, A6, H⟩ := H
  replace H := bindA H; obtain ⟨t352, A7, H⟩ := H
  replace H := nameA (([] : List (S70))) (fun y353 => (impl_Game_figureOf.l0 k a1 t351 t352 y353 (([] : List (S70))) t351 0 l0_0 l0_1) = some (r1, r2)) H; obtain ⟨y353, Ny353, H⟩ := H
  replace H := nameA (([] : List (S70))) (fun y356 => (impl_Game_figureOf.l0 k a1 t351 t352 y353 y356 t351 0 l0_0 l0_1) = some (r1, r2)) H; obtain ⟨y356, Ny356, H⟩ := H
  have H' := Aside0.mk H
  clear H
  have eg55 : ∀ args w, (callFunc 55 args).run Try.prog w = .ok (.enter 55 args) w := enters_of Try.func55 (by kernel_rfl) rfl
  have eg57 : ∀ args w, (callFunc 57 args).run Try.prog w = .ok (.enter 57 args) w := enters_of Try.func57 (by kernel_rfl) rfl
  go_enter Try.func31, Try.ntmps31
  try go_wp2_with (first | ((with_reducible refine gate_dst (N := 2) rfl ?_); refine bE 2 #[.slice A0_0 l0_0.length c0_0, .slice A0_1 l0_1.length c0_1] 28 ?_; intro gb347 hg w8 hbox hb; have BK347 := am (hbox); have GW347 := am ((by rw [hg]; exact (below_size (mb HB.out)) : w.heap.size ≤ gb347)); have GE347 := GW347; replace HB := am (below_step (mb HB.out) hb); clear hb hbox hg) | ((with_reducible refine gate_dst (N := 4) rfl ?_); refine bE 4 #[.int .i64 0, .slice none 0 0] 51 ?_; intro gb348 hg w9 hbox hb; have BK348 := am (hbox); have GW348 := am ((by rw [hg]; exact (below_size (mb HB.out)) : w.heap.size ≤ gb348)); have GE348 := GW348; replace HB := am (below_step (mb HB.out) hb); have NB347_348 := am ((by rw [hg]; exact Nat.ne_of_lt (blk_lt (g := gb347) (o := .cells #[.slice A0_0 l0_0.length c0_0, .slice A0_1 l0_1.length c0_1] 28 (0, 0)) (mvK BK347.out)) : gb347 ≠ gb348)); have NB348_347 := am ((by rw [hg]; exact Nat.ne_of_gt (blk_lt (g := gb347) (o := .cells #[.slice A0_0 l0_0.length c0_0, .slice A0_1 l0_1.length c0_1] 28 (0, 0)) (mvK BK347.out)) : gb348 ≠ gb347)); replace BK347 := am (blk_below (mvK BK347.out) hb); clear hb hbox hg))
  replace BK347 := am (blk_drew BK347.out)
  replace BK348 := am (blk_drew BK348.out)
  replace HB := am (below_drew1 HB.out)
  refine start_ (n := 8) (S := fun w' => w'.cell? ⟨gb347, 0, none⟩ = some (.slice A0_0 l0_0.length c0_0) ∧ w'.cell? ⟨gb347, 1, none⟩ = some (.slice A0_1 l0_1.length c0_1)) (ds := []) (Array.replicate 8 false) (by kernel_rfl) rfl rfl ⟨(blk_cell BK347.out 0).trans rfl, (blk_cell BK347.out 1).trans rfl⟩ (fun hHeld => ?_); refine with_tabW impl_Game_figureOf.tab1 impl_Game_figureOf.bits1 (fun HT_ HW_ => ?_)
  generalize w9.drew = w10 at BK347 BK348 HB hHeld ⊢
  refine pY 4 18 HT_ ?_
  refine tY 0 14 HT_ HW_ hHeld ?_
  refine tY 2 16 HT_ HW_ hHeld ?_
  refine oY 1 15 HT_ (fun K hK => ?_)
  refine gY Try.func53 #[.agg #[.slice A0_0 l0_0.length c0_0, .slice A0_1 l0_1.length c0_1]] ?_
  with_reducible refine (impl_Game_m.calls _ _ l0_0 _ _ l0_1 t349 _ ?side1 ?side2 ?side3 ?side4 A3.out).mono ?_
  (case side1 => exact mvC (Kd.C_below HR0_0.out HB.out))
  (case side2 => exact HC0_0.out)
  (case side3 => exact mvC (Kd.C_below HR0_1.out HB.out))
  (case side4 => exact HC0_1.out)
  rintro e w11 ⟨rfl, hb⟩
  refine ⟨_, rfl, ?_⟩
  replace BK347 := am (blk_below (mvK BK347.out) hb)
  replace BK348 := am (blk_below (mvK BK348.out) hb)
  replace HB := am (below_step (mb HB.out) hb)
  (try clear hb)
  (try clear hb2)
  (try clear hk)
  (try clear hi)
  refine hK.out _ _ ⟨(blk_cell BK347.out 0).trans rfl, (blk_cell BK347.out 1).trans rfl⟩ (fun hHeld => ?_)
  clear hK K
  refine nY 15 ?_
  refine oY 3 17 HT_ (fun K hK => ?_)
  refine gY Try.func54 #[.agg #[.slice A0_0 l0_0.length c0_0, .slice A0_1 l0_1.length c0_1]] ?_
  with_reducible refine (impl_Game_n.calls _ _ l0_0 _ _ l0_1 t350 _ ?side1 ?side2 ?side3 ?side4 A4.out).mono ?_
  (case side1 => exact mvC (Kd.C_below HR0_0.out HB.out))
  (case side2 => exact HC0_0.out)
  (case side3 => exact mvC (Kd.C_below HR0_1.out HB.out))
  (case side4 => exact HC0_1.out)
  rintro e w12 ⟨rfl, hb⟩
  refine ⟨_, rfl, ?_⟩
  replace BK347 := am (blk_below (mvK BK347.out) hb)
  replace BK348 := am (blk_below (mvK BK348.out) hb)
  replace HB := am (below_step (mb HB.out) hb)
  (try clear hb)
  (try clear hb2)
  (try clear hk)
  (try clear hi)
  refine hK.out _ _ ⟨(blk_cell BK347.out 0).trans rfl, (blk_cell BK347.out 1).trans rfl⟩ (fun hHeld => ?_)
  clear hK K
  refine nY 17 ?_
  refine pY 5 5 HT_ ?_
  refine pY 6 6 HT_ ?_
  refine pY 7 7 HT_ ?_
  refine dY HT_ ?_
  try go_wp2
  replace BK347 := am (blk_drew BK347.out)
  replace BK348 := am (blk_drew BK348.out)
  replace HB := am (below_drew1 HB.out)
  refine start_ (n := 8) (S := fun w' => w'.cell? ⟨gb347, 0, none⟩ = some (.slice A0_0 l0_0.length c0_0) ∧ w'.cell? ⟨gb347, 1, none⟩ = some (.slice A0_1 l0_1.length c0_1)) (ds := []) (Array.replicate 8 false) (by kernel_rfl) rfl rfl ⟨(blk_cell BK347.out 0).trans rfl, (blk_cell BK347.out 1).trans rfl⟩ (fun hHeld => ?_); refine with_tabW impl_Game_figureOf.tab3 impl_Game_figureOf.bits3 (fun HT_ HW_ => ?_)
  generalize w12.drew = w13 at BK347 BK348 HB hHeld ⊢
  refine pY 4 25 HT_ ?_
  refine tY 0 21 HT_ HW_ hHeld ?_
  refine tY 2 23 HT_ HW_ hHeld ?_
  refine oY 1 22 HT_ (fun K hK => ?_)
  refine gY Try.func54 #[.agg #[.slice A0_0 l0_0.length c0_0, .slice A0_1 l0_1.length c0_1]] ?_
  with_reducible refine (impl_Game_n.calls _ _ l0_0 _ _ l0_1 t351 _ ?side1 ?side2 ?side3 ?side4 A6.out).mono ?_
  (case side1 => exact mvC (Kd.C_below HR0_0.out HB.out))
  (case side2 => exact HC0_0.out)
  (case side3 => exact mvC (Kd.C_below HR0_1.out HB.out))
  (case side4 => exact HC0_1.out)
  rintro e w14 ⟨rfl, hb⟩
  refine ⟨_, rfl, ?_⟩
  replace BK347 := am (blk_below (mvK BK347.out) hb)
  replace BK348 := am (blk_below (mvK BK348.out) hb)
  replace HB := am (below_step (mb HB.out) hb)
  (try clear hb)
  (try clear hb2)
  (try clear hk)
  (try clear hi)
  refine hK.out _ _ ⟨(blk_cell BK347.out 0).trans rfl, (blk_cell BK347.out 1).trans rfl⟩ (fun hHeld => ?_)
  clear hK K
  refine nY 22 ?_
  refine oY 3 24 HT_ (fun K hK => ?_)
  refine gY Try.func53 #[.agg #[.slice A0_0 l0_0.length c0_0, .slice A0_1 l0_1.length c0_1]] ?_
  with_reducible refine (impl_Game_m.calls _ _ l0_0 _ _ l0_1 t352 _ ?side1 ?side2 ?side3 ?side4 A7.out).mono ?_
  (case side1 => exact mvC (Kd.C_below HR0_0.out HB.out))
  (case side2 => exact HC0_0.out)
  (case side3 => exact mvC (Kd.C_below HR0_1.out HB.out))
  (case side4 => exact HC0_1.out)
  rintro e w15 ⟨rfl, hb⟩
  refine ⟨_, rfl, ?_⟩
  replace BK347 := am (blk_below (mvK BK347.out) hb)
  replace BK348 := am (blk_below (mvK BK348.out) hb)
  replace HB := am (below_step (mb HB.out) hb)
  (try clear hb)
  (try clear hb2)
  (try clear hk)
  (try clear hi)
  refine hK.out _ _ ⟨(blk_cell BK347.out 0).trans rfl, (blk_cell BK347.out 1).trans rfl⟩ (fun hHeld => ?_)
  clear hK K
  refine nY 24 ?_
  refine pY 5 5 HT_ ?_
  refine pY 6 6 HT_ ?_
  refine pY 7 7 HT_ ?_
  refine dY HT_ ?_
  try go_wp2_with (first | ((with_reducible refine gate_dst (N := 26) rfl ?_); refine Kd.N_lit k70 _ 70 ?hg (N' := 26) ?hd (xs := ([] : List (S70))) (inner := []) (ok := (fun k_ => (w.heap.size ≤ k_) ∧ k_ ≠ gb347 ∧ k_ ≠ gb348)) (okp := (fun k_ => (w.heap.size ≤ k_) ∧ k_ ≠ gb347 ∧ k_ ≠ gb348)) ?hr ?hp (fun _ hk => hk) ((show ∀ k_, w15.heap.size ≤ k_ → (fun k_ => (w.heap.size ≤ k_) ∧ k_ ≠ gb347 ∧ k_ ≠ gb348) k_ from fun k_ hk => ⟨(Nat.le_trans (below_size (mb HB.out)) hk), Kd.freshB (g := gb347) (o := .cells #[.slice A0_0 l0_0.length c0_0, .slice A0_1 l0_1.length c0_1] 28 (0, 0)) (mvK BK347.out) k_ hk, Kd.freshB (g := gb348) (o := .cells #[.int .i64 0, .slice none 0 0] 51 (0, 0)) (mvK BK348.out) k_ hk⟩) _ (Nat.le_refl _)) (Below.refl _ _) (Nat.le_refl _) (by simp) ?_; (case hd => rfl); (case hg => rfl); (case hr => first | (go_simp; done) | (go_simp; rfl)); (case hp => exact (Reps.none _ _)); intro v354 w16 ho17 hb hg_ hnew_; clear hg_ hnew_; (first | rw [← Ny353.out] at ho17 | (simp only [Int.reduceToNat] at ho17; rw [← Ny353.out] at ho17)); have HO355 := am (Kd.N_lower ho17 (below_size (mb HB.out))); replace BK347 := am (blk_below (mvK BK347.out) hb); replace BK348 := am (blk_below (mvK BK348.out) hb); replace HB := am (below_step (mb HB.out) hb); clear hb ho17) | ((with_reducible refine gate_dst (N := 27) rfl ?_); refine Kd.N_lit k70 _ 70 ?hg (N' := 27) ?hd (xs := ([] : List (S70))) (inner := []) (ok := (fun k_ => (w.heap.size ≤ k_) ∧ some k_ ≠ (v354 : Value).ownBlock ∧ k_ ≠ gb347 ∧ k_ ≠ gb348)) (okp := (fun k_ => (w.heap.size ≤ k_) ∧ some k_ ≠ (v354 : Value).ownBlock ∧ k_ ≠ gb347 ∧ k_ ≠ gb348)) ?hr ?hp (fun _ hk => hk) ((show ∀ k_, w16.heap.size ≤ k_ → (fun k_ => (w.heap.size ≤ k_) ∧ some k_ ≠ (v354 : Value).ownBlock ∧ k_ ≠ gb347 ∧ k_ ≠ gb348) k_ from fun k_ hk => ⟨(Nat.le_trans (below_size (mb HB.out)) hk), Kd.fresh' (Kd.N_lt (mvN HO355.out)) k_ hk, Kd.freshB (g := gb347) (o := .cells #[.slice A0_0 l0_0.length c0_0, .slice A0_1 l0_1.length c0_1] 28 (0, 0)) (mvK BK347.out) k_ hk, Kd.freshB (g := gb348) (o := .cells #[.int .i64 0, .slice none 0 0] 51 (0, 0)) (mvK BK348.out) k_ hk⟩) _ (Nat.le_refl _)) (Below.refl _ _) (Nat.le_refl _) (by simp) ?_; (case hd => rfl); (case hg => rfl); (case hr => first | (go_simp; done) | (go_simp; rfl)); (case hp => exact (Reps.none _ _)); intro v357 w18 ho19 hb hg_ hnew_; clear hg_ hnew_; (first | rw [← Ny356.out] at ho19 | (simp only [Int.reduceToNat] at ho19; rw [← Ny356.out] at ho19)); replace HO355 := am (Kd.N_elder' (mvN HO355.out) (Kd.N_base ho19) hb); have HO358 := am (Kd.N_lower ho19 (below_size (mb HB.out))); replace BK347 := am (blk_below (mvK BK347.out) hb); replace BK348 := am (blk_below (mvK BK348.out) hb); replace HB := am (below_step (mb HB.out) hb); clear hb ho19))
  go_loopg [8, 29] k (fun kq v8 v29 w' => ∃ (x8_1 : List (S70)) (x29_1 : Int), v29 = .int .i64 x29_1 ∧ Aside0 (impl_Game_figureOf.l0 kq a1 t351 t352 x8_1 y356 t351 x29_1 l0_0 l0_1 = some (r1, r2)) ∧ Aside0 (kq ≤ k) ∧ Aside0 (Kd.N k70 70 w' w.heap.size (fun k_ => (w.heap.size ≤ k_) ∧ some k_ ≠ (v357 : Value).ownBlock ∧ k_ ≠ gb347 ∧ k_ ≠ gb348) v8 x8_1) ∧ Aside0 (Kd.N k70 70 w' w.heap.size (fun k_ => (w.heap.size ≤ k_) ∧ some k_ ≠ (v8 : Value).ownBlock ∧ k_ ≠ gb347 ∧ k_ ≠ gb348) v357 y356) ∧ Aside0 (w'.heap[gb347]? = some (.cells #[(.slice A0_0 l0_0.length c0_0), (.slice A0_1 l0_1.length c0_1)] 28 (0, 0))) ∧ Aside0 (w'.heap[gb348]? = some (.cells #[.int .i64 0, (.slice none 0 0)] 51 (0, 0))) ∧ Aside0 (Below w.heap.size w w'))
  case atStart => exact ⟨(y353), (0), eqF, H', ⟨Nat.le_refl _⟩, ⟨Kd.N_mono (mvN HO355.out) (fun _ hk => ⟨hk.1.1, ⟨hk.2, ⟨hk.1.2.1, hk.1.2.2⟩⟩⟩)⟩, ⟨mvN HO358.out⟩, ⟨mvK BK347.out⟩, ⟨mvK BK348.out⟩, ⟨mb HB.out⟩⟩
  case round =>
   clear H'
   try clear p2
   try clear c3
   try clear c5
   try clear c5b0
   try clear c5b1
   obtain ⟨x8_1, x29_1, rfl, HA, HK1, HO_8, HO_9, BK347, BK348, HB⟩ := hrel
   cases gk with
   | zero => exact absurd HA.out (by simp [impl_Game_figureOf.l0])
   | succ k1 =>
    have H := HA.out
    clear HA
    simp only [impl_Game_figureOf.l0] at H
    by_cases c20 : x29_1 < t351
    ·rw [if_pos c20] at H
     have c20b0 := decide_eq_true c20
     clear c20
     replace H := bindA H; obtain ⟨t359, A21, H⟩ := H
     replace H := ifA H; obtain ⟨LMc22, H⟩ := H
     replace H := nameA (x8_1 ++ [(⟨t359, 0, true⟩ : S70)]) (fun y362 => (impl_Game_figureOf.l0 k1 a1 t351 t352 y362 y356 t351 (wrap64 (x29_1 + 1)) l0_0 l0_1) = some (r1, r2)) H; obtain ⟨y362, Ny362, H⟩ := H
     have H' := Aside0.mk H
     clear H
     go_wp2_with (first | ((with_reducible refine gC 59 rfl ?_); refine gL 35 Try.func59 #[.int .i64 x29_1, .int .i64 t351] ?_; (with_reducible refine (impl_sure.calls x29_1 t351 t359 _ A21.out).mono ?_); rintro e w23 ⟨v360, rfl, ho0, hb⟩; refine ⟨_, rfl, ?_⟩; replace HO_8 := am (Kd.N_elder' (mvN HO_8.out) (Kd.R_base ho0) hb); replace HO_9 := am (Kd.N_elder' (mvN HO_9.out) (Kd.R_base ho0) hb); have HO361 := am (Kd.R_lower (Kd.R_newM (M := fun k_ => (w.heap.size ≤ k_)) ho0 (below_size (mb HB.out)) (fun k_ h_ => h_)) (below_size (mb HB.out))); replace BK347 := am (blk_below (mvK BK347.out) hb); replace BK348 := am (blk_below (mvK BK348.out) hb); replace HB := am (below_step (mb HB.out) hb); (try clear hb ho0); obtain ⟨Ao24, co24, eo24⟩ := Kd.R_slice HO361.out; subst eo24) | ((with_reducible refine gate_builtin (b := .append) (xs := #[.tmp 32, .tmp 37]) rfl ?_); at_builtin; refine Kd.N_append k70 (w0 := w) w.heap.size rfl (.tmp 32) (.tmp 37) 49 70 (.agg #[(.slice none 0 0), (.int .i64 0), (.bool false)]) 40 rfl Try.underlying49 info70 rfl (by decide) (by omega) u8 x8_1 (⟨t359, 0, true⟩ : S70) [.slice Ao24 t359.length co24, .int .i64 0, .bool true] (fun k_ => (w.heap.size ≤ k_) ∧ some k_ ≠ (v357 : Value).ownBlock ∧ k_ ≠ gb347 ∧ k_ ≠ gb348) (fun k_ => ((fun k_ => (w.heap.size ≤ k_) ∧ some k_ ≠ (v357 : Value).ownBlock ∧ k_ ≠ gb347 ∧ k_ ≠ gb348)) k_ ∧ some k_ ≠ (u8 : Value).ownBlock) rfl rfl ?aP (fun _ hk => hk) ?aF ?aO ?aB ?aS ?aL ?_; (case aP => exact (k70_mkF _ _ (⟨t359, 0, true⟩ : S70) (Kd.R_reads' (Kd.R_mono (ok' := (fun k_ => ((fun k_ => (w.heap.size ≤ k_) ∧ some k_ ≠ (v357 : Value).ownBlock ∧ k_ ≠ gb347 ∧ k_ ≠ gb348)) k_ ∧ some k_ ≠ (u8 : Value).ownBlock)) (Kd.R_types (Kd.R_types (Kd.R_apart' (Kd.R_apart' (HO361.out) (Kd.N_typed HO_9.out) (by decide)) (Kd.N_typed HO_8.out) (by decide)) BK347.out (by decide)) BK348.out (by decide)) (fun k_ hk => ⟨⟨hk.1.1.1.1.1, ⟨hk.1.1.1.2, ⟨hk.1.2, hk.2⟩⟩⟩, hk.1.1.2⟩))).2.1 (Kd.R_F (Kd.R_mono (ok' := (fun k_ => ((fun k_ => (w.heap.size ≤ k_) ∧ some k_ ≠ (v357 : Value).ownBlock ∧ k_ ≠ gb347 ∧ k_ ≠ gb348)) k_ ∧ some k_ ≠ (u8 : Value).ownBlock)) (Kd.R_types (Kd.R_types (Kd.R_apart' (Kd.R_apart' (HO361.out) (Kd.N_typed HO_9.out) (by decide)) (Kd.N_typed HO_8.out) (by decide)) BK347.out (by decide)) BK348.out (by decide)) (fun k_ hk => ⟨⟨hk.1.1.1.1.1, ⟨hk.1.1.1.2, ⟨hk.1.2, hk.2⟩⟩⟩, hk.1.1.2⟩))))); (case aB => exact (mb HB.out)); (case aF => exact (fun k_ hk => ⟨(Nat.le_trans (below_size (mb HB.out)) hk), Kd.fresh' (Kd.N_lt (mvN HO_9.out)) k_ hk, Kd.freshB (g := gb347) (o := .cells #[.slice A0_0 l0_0.length c0_0, .slice A0_1 l0_1.length c0_1] 28 (0, 0)) (mvK BK347.out) k_ hk, Kd.freshB (g := gb348) (o := .cells #[.int .i64 0, .slice none 0 0] 51 (0, 0)) (mvK BK348.out) k_ hk⟩)); (case aO => exact (Kd.N_mono (mvN HO_8.out) (fun _ hk => ⟨hk.1.1, ⟨hk.1.2.1, ⟨hk.1.2.2.1, hk.1.2.2.2⟩⟩⟩))); (case aS => exact (below_size (mb HB.out))); (case aL => have := LMc22.out; omega); intro v363 w25 ho hb hg hat; rw [← Ny362.out] at ho; replace HO_9 := am (Kd.N_afterv (ok := (fun k_ => (w.heap.size ≤ k_) ∧ some k_ ≠ (.slice Ao24 t359.length co24 : Value).ownBlock ∧ k_ ≠ gb347 ∧ k_ ≠ gb348)) (Kd.N_mono (mvN HO_9.out) (fun _ hk => ⟨⟨hk.1.1, ⟨hk.2, ⟨hk.1.2.2.1, hk.1.2.2.2⟩⟩⟩, hk.1.2.1⟩)) hg hat); replace BK347 := am (blk_grown (mvK BK347.out) hg (Kd.N_ne HO_8.out BK347.out (by decide))); replace BK348 := am (blk_grown (mvK BK348.out) hg (Kd.N_ne HO_8.out BK348.out (by decide))); replace HB := am (hb); have HO364 := am (ho); clear HO_8; clear HO361; clear ho hb hg hat))
     go_roundg k1
     case measure => have := HK1.out; omega
     case rel => exact ⟨(y362), (wrap64 (x29_1 + 1)), eqF, H', ⟨by have := HK1.out; omega⟩, ⟨mvN HO364.out⟩, ⟨Kd.N_mono (mvN HO_9.out) (fun _ hk => ⟨hk.1.1, ⟨hk.2, ⟨hk.1.2.2.1, hk.1.2.2.2⟩⟩⟩)⟩, ⟨mvK BK347.out⟩, ⟨mvK BK348.out⟩, ⟨mb HB.out⟩⟩
    rw [if_neg c20] at H
    have c20b0 := decide_eq_false c20
    clear c20
    have H' := Aside0.mk H
    clear H
    go_wp2
    go_loopg [9, 41] k1 (fun kq v9 v41 w' => ∃ (x9_2 : List (S70)) (x41_2 : Int), v41 = .int .i64 x41_2 ∧ Aside0 (impl_Game_figureOf.l1 kq a1 t351 x8_1 x9_2 t352 x41_2 l0_0 l0_1 = some (r1, r2)) ∧ Aside0 (kq ≤ k1) ∧ Aside0 (Kd.N k70 70 w' w.heap.size (fun k_ => (w.heap.size ≤ k_) ∧ some k_ ≠ (v9 : Value).ownBlock ∧ k_ ≠ gb347 ∧ k_ ≠ gb348) u8 x8_1) ∧ Aside0 (Kd.N k70 70 w' w.heap.size (fun k_ => (w.heap.size ≤ k_) ∧ some k_ ≠ (u8 : Value).ownBlock ∧ k_ ≠ gb347 ∧ k_ ≠ gb348) v9 x9_2) ∧ Aside0 (w'.heap[gb347]? = some (.cells #[(.slice A0_0 l0_0.length c0_0), (.slice A0_1 l0_1.length c0_1)] 28 (0, 0))) ∧ Aside0 (w'.heap[gb348]? = some (.cells #[.int .i64 0, (.slice none 0 0)] 51 (0, 0))) ∧ Aside0 (Below w.heap.size w w'))
    case atStart => exact ⟨(y356), (0), eqF, H', ⟨Nat.le_refl _⟩, ⟨mvN HO_8.out⟩, ⟨mvN HO_9.out⟩, ⟨mvK BK347.out⟩, ⟨mvK BK348.out⟩, ⟨mb HB.out⟩⟩
    case round =>
     clear H'
     try clear c2
     try clear p2
     try clear c3
     try clear c5
     try clear c5b0
     try clear c5b1
     try clear p6
     try clear c20
     try clear c20b0
     try clear c22
     try clear p2
     obtain ⟨x9_2, x41_2, rfl, HA, HK2, HO_8, HO_9, BK347, BK348, HB⟩ := hrel
     cases gk with
     | zero => exact absurd HA.out (by simp [impl_Game_figureOf.l1])
     | succ k2 =>
      have H := HA.out
      clear HA
      simp only [impl_Game_figureOf.l1] at H
      by_cases c26 : x41_2 < t352
      rotate_left
      ·rw [if_neg c26] at H
       have c26b0 := decide_eq_false c26
       (try rw [hl12_3] at c26b0)
       clear c26
       by_cases c38 : a1 = 2
       rotate_left
       ·rw [if_neg c38] at H
        have c38b0 := neb1 c38
        have c38b1 := neb2 c38
        replace H := nameA (([x8_1, x9_2] : List (List (S70)))) (fun y371 => ((impl_condition_60.f k2 y371).bind fun t374 => (some (t351, t374))) = some (r1, r2)) H; obtain ⟨y371, Ny371, H⟩ := H
        replace H := bindA H; obtain ⟨t374, A49, H⟩ := H
        simp only [Option.some.injEq, Prod.mk.injEq] at H
        obtain ⟨rfl, rfl⟩ := H
        obtain ⟨Ao50, co50, eo50⟩ := Kd.N_slice HO_8.out
        subst eo50
        obtain ⟨Ao51, co51, eo51⟩ := Kd.N_slice HO_9.out
        subst eo51
        go_wp2_with (first | ((with_reducible refine gate_dst (N := 72) rfl ?_); refine Kd.N_lit (Kd.slice 70 k70) _ 49 ?hg (N' := 72) ?hd (xs := ([x8_1, x9_2] : List (List (S70)))) (inner := [.slice Ao50 x8_1.length co50, .slice Ao51 x9_2.length co51]) (ok := (fun k_ => (w.heap.size ≤ k_) ∧ k_ ≠ gb347 ∧ k_ ≠ gb348)) (okp := (fun k_ => (w.heap.size ≤ k_) ∧ k_ ≠ gb347 ∧ k_ ≠ gb348)) ?hr ?hp (fun _ hk => hk) ((show ∀ k_, wr.heap.size ≤ k_ → (fun k_ => (w.heap.size ≤ k_) ∧ k_ ≠ gb347 ∧ k_ ≠ gb348) k_ from fun k_ hk => ⟨(Nat.le_trans (below_size (mb HB.out)) hk), Kd.freshB (g := gb347) (o := .cells #[.slice A0_0 l0_0.length c0_0, .slice A0_1 l0_1.length c0_1] 28 (0, 0)) (mvK BK347.out) k_ hk, Kd.freshB (g := gb348) (o := .cells #[.int .i64 0, .slice none 0 0] 51 (0, 0)) (mvK BK348.out) k_ hk⟩) _ (Nat.le_refl _)) (Below.refl _ _) (Nat.le_refl _) (by simp) ?_; (case hd => rfl); (case hg => rfl); (case hr => first | (go_simp; done) | (go_simp; rfl)); (case hp => exact (Reps.one (show Kd.FK (Kd.slice 70 k70) _ _ x8_1 [.slice Ao50 x8_1.length co50] from (Kd.FK_slice_mk (Kd.N_reads' (Kd.N_mono (ok' := (fun k_ => (w.heap.size ≤ k_) ∧ k_ ≠ gb347 ∧ k_ ≠ gb348)) (HO_8.out) (fun k_ hk => ⟨hk.1, ⟨hk.2.2.1, hk.2.2.2⟩⟩))).2.1 (Kd.N_F (Kd.N_mono (ok' := (fun k_ => (w.heap.size ≤ k_) ∧ k_ ≠ gb347 ∧ k_ ≠ gb348)) (HO_8.out) (fun k_ hk => ⟨hk.1, ⟨hk.2.2.1, hk.2.2.2⟩⟩))))) (Reps.one (show Kd.FK (Kd.slice 70 k70) _ _ x9_2 [.slice Ao51 x9_2.length co51] from (Kd.FK_slice_mk (Kd.N_reads' (Kd.N_mono (ok' := (fun k_ => (w.heap.size ≤ k_) ∧ k_ ≠ gb347 ∧ k_ ≠ gb348)) (HO_9.out) (fun k_ hk => ⟨hk.1, ⟨hk.2.2.1, hk.2.2.2⟩⟩))).2.1 (Kd.N_F (Kd.N_mono (ok' := (fun k_ => (w.heap.size ≤ k_) ∧ k_ ≠ gb347 ∧ k_ ≠ gb348)) (HO_9.out) (fun k_ hk => ⟨hk.1, ⟨hk.2.2.1, hk.2.2.2⟩⟩))))) (Reps.none _ _)))); intro v372 w52 ho53 hb hg_ hnew_; clear hg_ hnew_; (first | rw [← Ny371.out] at ho53 | (simp only [Int.reduceToNat] at ho53; rw [← Ny371.out] at ho53)); have HO373 := am (Kd.N_lower ho53 (below_size (mb HB.out))); replace BK347 := am (blk_below (mvK BK347.out) hb); replace BK348 := am (blk_below (mvK BK348.out) hb); replace HB := am (below_step (mb HB.out) hb); clear HO_8; clear HO_9; clear hb ho53; obtain ⟨Ao54, co54, eo54⟩ := Kd.N_slice HO373.out; subst eo54) | ((with_reducible refine gC 60 rfl ?_); refine gL 73 Try.func60 #[.slice Ao54 y371.length co54] ?_; (with_reducible refine (impl_condition_60.calls k2 (fun k_ => ((w.heap.size ≤ k_) ∧ (k_ ≠ gb347 ∧ k_ ≠ gb348))) _ _ y371 t374 _ ?side1 A49.out).mono ?_); (case side1 => exact Kd.N_V (HO373.out)); rintro e w55 ⟨v375, rfl, ho0, hb⟩; refine ⟨_, rfl, ?_⟩; replace HO373 := am (Kd.N_elder' (mvN HO373.out) (Kd.N_base ho0) hb); have HO376 := am (Kd.N_lower (Kd.N_mono (ok' := fun k_ => (w.heap.size ≤ k_) ∧ k_ ≠ gb347 ∧ k_ ≠ gb348) ho0 (fun k_ hk_ => ⟨Or.elim hk_ (fun hs_ => hs_.1) (fun hn_ => (Nat.le_trans (below_size (mb HB.out)) hn_)), Or.elim hk_ (fun hs_ => hs_.2.1) (fun hn_ => (Kd.freshB (g := gb347) (o := .cells #[.slice A0_0 l0_0.length c0_0, .slice A0_1 l0_1.length c0_1] 28 (0, 0)) (mvK BK347.out) k_ hn_)), Or.elim hk_ (fun hs_ => hs_.2.2) (fun hn_ => (Kd.freshB (g := gb348) (o := .cells #[.int .i64 0, .slice none 0 0] 51 (0, 0)) (mvK BK348.out) k_ hn_))⟩)) (below_size (mb HB.out))); replace BK347 := am (blk_below (mvK BK347.out) hb); replace BK348 := am (blk_below (mvK BK348.out) hb); replace HB := am (below_step (mb HB.out) hb); (try clear hb ho0); obtain ⟨Ao56, co56, eo56⟩ := Kd.N_slice HO376.out; subst eo56; have hnb57 := NB348_347.out; have hnc57 := NB347_348.out; have hcz58_0 := cell0 BK348.out; have hcz58_1 := cell1 BK348.out; have hfz58_0 := blk_frozen BK348.out 0; have hfz58_1 := blk_frozen BK348.out 1))
        refine bodyPost_ret (results_cell_row rfl _ _ gb348 51 #[.int .i64 t351, .slice Ao56 t374.length co56] (0, 0) _ rfl (by (with_reducible repeat (first | refine blk_drewN ?_ _ | refine blk_drew ?_ | refine blk_alloc ?_ _)); refine blk_put (cs := #[.int .i64 t351, .slice none 0 0]) ?_ 1 _ rfl; (with_reducible repeat (first | refine blk_drewN ?_ _ | refine blk_drew ?_ | refine blk_alloc ?_ _)); refine blk_put (cs := #[.int .i64 0, .slice none 0 0]) ?_ 0 _ rfl; (with_reducible repeat (first | refine blk_drewN ?_ _ | refine blk_drew ?_ | refine blk_alloc ?_ _)); exact BK348.out) Try.underlying51 rfl (by kernel_rfl)) rfl ?_
        exact ⟨_, eqE, by (with_reducible repeat (first | apply Kd.N_alloc | apply Kd.N_drewN | apply Kd.N_drew)); exact Kd.N_mono (Kd.N_far (p := ⟨gb348, 1, none⟩) (Kd.N_far (p := ⟨gb348, 0, none⟩) (Kd.N_mono HO376.out (fun k_ hk => (⟨hk, hk.2.2⟩ : _ ∧ k_ ≠ gb348))) (fun _ hk => hk.2) (.int .i64 t351)) (fun _ hk => hk.2) (.slice Ao56 t374.length co56)) (fun _ hk => hk.1.1), mb HB.out⟩
       rw [if_pos c38] at H
       have c38b0 := eqb1 c38
       have c38b1 := eqb2 c38
       clear c38
       replace H := nameA (([x9_2, x8_1] : List (List (S70)))) (fun y365 => ((impl_condition_60.f k2 y365).bind fun t368 => (some (t351, t368))) = some (r1, r2)) H; obtain ⟨y365, Ny365, H⟩ := H
       replace H := bindA H; obtain ⟨t368, A39, H⟩ := H
       simp only [Option.some.injEq, Prod.mk.injEq] at H
       obtain ⟨rfl, rfl⟩ := H
       obtain ⟨Ao40, co40, eo40⟩ := Kd.N_slice HO_9.out
       subst eo40
       obtain ⟨Ao41, co41, eo41⟩ := Kd.N_slice HO_8.out
       subst eo41
       go_wp2_with (first | ((with_reducible refine gate_dst (N := 72) rfl ?_); refine Kd.N_lit (Kd.slice 70 k70) _ 49 ?hg (N' := 72) ?hd (xs := ([x9_2, x8_1] : List (List (S70)))) (inner := [.slice Ao40 x9_2.length co40, .slice Ao41 x8_1.length co41]) (ok := (fun k_ => (w.heap.size ≤ k_) ∧ k_ ≠ gb347 ∧ k_ ≠ gb348)) (okp := (fun k_ => (w.heap.size ≤ k_) ∧ k_ ≠ gb347 ∧ k_ ≠ gb348)) ?hr ?hp (fun _ hk => hk) ((show ∀ k_, wr.heap.size ≤ k_ → (fun k_ => (w.heap.size ≤ k_) ∧ k_ ≠ gb347 ∧ k_ ≠ gb348) k_ from fun k_ hk => ⟨(Nat.le_trans (below_size (mb HB.out)) hk), Kd.freshB (g := gb347) (o := .cells #[.slice A0_0 l0_0.length c0_0, .slice A0_1 l0_1.length c0_1] 28 (0, 0)) (mvK BK347.out) k_ hk, Kd.freshB (g := gb348) (o := .cells #[.int .i64 0, .slice none 0 0] 51 (0, 0)) (mvK BK348.out) k_ hk⟩) _ (Nat.le_refl _)) (Below.refl _ _) (Nat.le_refl _) (by simp) ?_; (case hd => rfl); (case hg => rfl); (case hr => first | (go_simp; done) | (go_simp; rfl)); (case hp => exact (Reps.one (show Kd.FK (Kd.slice 70 k70) _ _ x9_2 [.slice Ao40 x9_2.length co40] from (Kd.FK_slice_mk (Kd.N_reads' (Kd.N_mono (ok' := (fun k_ => (w.heap.size ≤ k_) ∧ k_ ≠ gb347 ∧ k_ ≠ gb348)) (HO_9.out) (fun k_ hk => ⟨hk.1, ⟨hk.2.2.1, hk.2.2.2⟩⟩))).2.1 (Kd.N_F (Kd.N_mono (ok' := (fun k_ => (w.heap.size ≤ k_) ∧ k_ ≠ gb347 ∧ k_ ≠ gb348)) (HO_9.out) (fun k_ hk => ⟨hk.1, ⟨hk.2.2.1, hk.2.2.2⟩⟩))))) (Reps.one (show Kd.FK (Kd.slice 70 k70) _ _ x8_1 [.slice Ao41 x8_1.length co41] from (Kd.FK_slice_mk (Kd.N_reads' (Kd.N_mono (ok' := (fun k_ => (w.heap.size ≤ k_) ∧ k_ ≠ gb347 ∧ k_ ≠ gb348)) (HO_8.out) (fun k_ hk => ⟨hk.1, ⟨hk.2.2.1, hk.2.2.2⟩⟩))).2.1 (Kd.N_F (Kd.N_mono (ok' := (fun k_ => (w.heap.size ≤ k_) ∧ k_ ≠ gb347 ∧ k_ ≠ gb348)) (HO_8.out) (fun k_ hk => ⟨hk.1, ⟨hk.2.2.1, hk.2.2.2⟩⟩))))) (Reps.none _ _)))); intro v366 w42 ho43 hb hg_ hnew_; clear hg_ hnew_; (first | rw [← Ny365.out] at ho43 | (simp only [Int.reduceToNat] at ho43; rw [← Ny365.out] at ho43)); have HO367 := am (Kd.N_lower ho43 (below_size (mb HB.out))); replace BK347 := am (blk_below (mvK BK347.out) hb); replace BK348 := am (blk_below (mvK BK348.out) hb); replace HB := am (below_step (mb HB.out) hb); clear HO_8; clear HO_9; clear hb ho43; obtain ⟨Ao44, co44, eo44⟩ := Kd.N_slice HO367.out; subst eo44) | ((with_reducible refine gC 60 rfl ?_); refine gL 73 Try.func60 #[.slice Ao44 y365.length co44] ?_; (with_reducible refine (impl_condition_60.calls k2 (fun k_ => ((w.heap.size ≤ k_) ∧ (k_ ≠ gb347 ∧ k_ ≠ gb348))) _ _ y365 t368 _ ?side1 A39.out).mono ?_); (case side1 => exact Kd.N_V (HO367.out)); rintro e w45 ⟨v369, rfl, ho0, hb⟩; refine ⟨_, rfl, ?_⟩; replace HO367 := am (Kd.N_elder' (mvN HO367.out) (Kd.N_base ho0) hb); have HO370 := am (Kd.N_lower (Kd.N_mono (ok' := fun k_ => (w.heap.size ≤ k_) ∧ k_ ≠ gb347 ∧ k_ ≠ gb348) ho0 (fun k_ hk_ => ⟨Or.elim hk_ (fun hs_ => hs_.1) (fun hn_ => (Nat.le_trans (below_size (mb HB.out)) hn_)), Or.elim hk_ (fun hs_ => hs_.2.1) (fun hn_ => (Kd.freshB (g := gb347) (o := .cells #[.slice A0_0 l0_0.length c0_0, .slice A0_1 l0_1.length c0_1] 28 (0, 0)) (mvK BK347.out) k_ hn_)), Or.elim hk_ (fun hs_ => hs_.2.2) (fun hn_ => (Kd.freshB (g := gb348) (o := .cells #[.int .i64 0, .slice none 0 0] 51 (0, 0)) (mvK BK348.out) k_ hn_))⟩)) (below_size (mb HB.out))); replace BK347 := am (blk_below (mvK BK347.out) hb); replace BK348 := am (blk_below (mvK BK348.out) hb); replace HB := am (below_step (mb HB.out) hb); (try clear hb ho0); obtain ⟨Ao46, co46, eo46⟩ := Kd.N_slice HO370.out; subst eo46; have hnb47 := NB348_347.out; have hnc47 := NB347_348.out; have hcz48_0 := cell0 BK348.out; have hcz48_1 := cell1 BK348.out; have hfz48_0 := blk_frozen BK348.out 0; have hfz48_1 := blk_frozen BK348.out 1))
       refine bodyPost_ret (results_cell_row rfl _ _ gb348 51 #[.int .i64 t351, .slice Ao46 t368.length co46] (0, 0) _ rfl (by (with_reducible repeat (first | refine blk_drewN ?_ _ | refine blk_drew ?_ | refine blk_alloc ?_ _)); refine blk_put (cs := #[.int .i64 t351, .slice none 0 0]) ?_ 1 _ rfl; (with_reducible repeat (first | refine blk_drewN ?_ _ | refine blk_drew ?_ | refine blk_alloc ?_ _)); refine blk_put (cs := #[.int .i64 0, .slice none 0 0]) ?_ 0 _ rfl; (with_reducible repeat (first | refine blk_drewN ?_ _ | refine blk_drew ?_ | refine blk_alloc ?_ _)); exact BK348.out) Try.underlying51 rfl (by kernel_rfl)) rfl ?_
       exact ⟨_, eqE, by (with_reducible repeat (first | apply Kd.N_alloc | apply Kd.N_drewN | apply Kd.N_drew)); exact Kd.N_mono (Kd.N_far (p := ⟨gb348, 1, none⟩) (Kd.N_far (p := ⟨gb348, 0, none⟩) (Kd.N_mono HO370.out (fun k_ hk => (⟨hk, hk.2.2⟩ : _ ∧ k_ ≠ gb348))) (fun _ hk => hk.2) (.int .i64 t351)) (fun _ hk => hk.2) (.slice Ao46 t368.length co46)) (fun _ hk => hk.1.1), mb HB.out⟩
      rw [if_pos c26] at H
      have c26b0 := decide_eq_true c26
      clear c26
      replace H := bindA H; obtain ⟨t377, A27, H⟩ := H
      have H' := Aside0.mk H
      clear H
      go_wp2_with (first | (go_at_fn 57; (refine (impl_payR.calls x41_2 gb347 A0_0 c0_0 l0_0 A0_1 c0_1 l0_1 t377 _ ?side1 ?side2 ?side3 ?side4 ?side5 ?side6 A27.out).mono ?_); (case side1 => exact (blk_cell (g := gb347) (cs := #[.slice A0_0 l0_0.length c0_0, .slice A0_1 l0_1.length c0_1]) (t := 28) (mvK BK347.out) 0).trans rfl); (case side2 => exact mvC (Kd.C_below HR0_0.out HB.out)); (case side3 => exact HC0_0.out); (case side4 => exact (blk_cell (g := gb347) (cs := #[.slice A0_0 l0_0.length c0_0, .slice A0_1 l0_1.length c0_1]) (t := 28) (mvK BK347.out) 1).trans rfl); (case side5 => exact mvC (Kd.C_below HR0_1.out HB.out)); (case side6 => exact HC0_1.out); rintro e w28 ⟨v378, rfl, ho0, hb⟩; replace HO_8 := am (Kd.N_elder' (mvN HO_8.out) (Kd.R_base ho0) hb); replace HO_9 := am (Kd.N_elder' (mvN HO_9.out) (Kd.R_base ho0) hb); have HO379 := am (Kd.R_lower (Kd.R_newM (M := fun k_ => (w.heap.size ≤ k_)) ho0 (below_size (mb HB.out)) (fun k_ h_ => h_)) (below_size (mb HB.out))); replace BK347 := am (blk_below (mvK BK347.out) hb); replace BK348 := am (blk_below (mvK BK348.out) hb); replace HB := am (below_step (mb HB.out) hb); (try clear hb ho0); obtain ⟨Ao29, co29, eo29⟩ := Kd.R_slice HO379.out; subst eo29))
      go_loopg [49] k2 (fun kq v49 w' => ∃ (x12_3 : List Int) (x49_3 : Int), v49 = .int .i64 x49_3 ∧ Aside0 (impl_Game_figureOf.l102 kq a1 t351 x8_1 x9_2 x12_3 t352 x41_2 (t377.length : Int) x49_3 l0_0 l0_1 = some (r1, r2)) ∧ Aside0 (kq ≤ k2) ∧ Aside0 (Kd.N k70 70 w' w.heap.size (fun k_ => (w.heap.size ≤ k_) ∧ some k_ ≠ (u9 : Value).ownBlock ∧ some k_ ≠ ((.slice Ao29 t377.length co29) : Value).ownBlock ∧ k_ ≠ gb347 ∧ k_ ≠ gb348) u8 x8_1) ∧ Aside0 (Kd.N k70 70 w' w.heap.size (fun k_ => (w.heap.size ≤ k_) ∧ some k_ ≠ (u8 : Value).ownBlock ∧ some k_ ≠ ((.slice Ao29 t377.length co29) : Value).ownBlock ∧ k_ ≠ gb347 ∧ k_ ≠ gb348) u9 x9_2) ∧ Aside0 (Kd.R (Kd.int .i64) 3 w' w.heap.size (fun k_ => (w.heap.size ≤ k_)) (.slice Ao29 t377.length co29) x12_3) ∧ Aside0 (w'.heap[gb347]? = some (.cells #[(.slice A0_0 l0_0.length c0_0), (.slice A0_1 l0_1.length c0_1)] 28 (0, 0))) ∧ Aside0 (w'.heap[gb348]? = some (.cells #[.int .i64 0, (.slice none 0 0)] 51 (0, 0))) ∧ Aside0 (Below w.heap.size w w'))
      case atStart => exact ⟨(t377), (0), eqF, H', ⟨Nat.le_refl _⟩, ⟨Kd.N_mono (mvN HO_8.out) (fun _ hk => ⟨hk.1.1, ⟨hk.1.2.1, ⟨hk.2, ⟨hk.1.2.2.1, hk.1.2.2.2⟩⟩⟩⟩)⟩, ⟨Kd.N_mono (mvN HO_9.out) (fun _ hk => ⟨hk.1.1, ⟨hk.1.2.1, ⟨hk.2, ⟨hk.1.2.2.1, hk.1.2.2.2⟩⟩⟩⟩)⟩, ⟨Kd.R_mono (mvR HO379.out) (fun _ hk => hk.1)⟩, ⟨mvK BK347.out⟩, ⟨mvK BK348.out⟩, ⟨mb HB.out⟩⟩
      case round =>
       clear H'
       try clear c2
       try clear p2
       try clear c3
       try clear c5
       try clear c5b0
       try clear c5b1
       try clear p6
       try clear c20
       try clear c20b0
       try clear c22
       try clear c26
       try clear c26b0
       try clear p2
       try clear p6
       obtain ⟨x12_3, x49_3, rfl, HA, HK3, HO_8, HO_9, HO_12, BK347, BK348, HB⟩ := hrel
       have hl12_3 := (Kd.R_reads' HO_12.out).1
       rw [hl12_3] at HO_12
       (try simp only [hl12_3])
       (try simp only [hl12_3] at BK347)
       (try simp only [hl12_3] at BK348)
       (try simp only [hl12_3] at HO_8)
       (try simp only [hl12_3] at HO_9)
       cases gk with
       | zero => exact absurd HA.out (by simp [impl_Game_figureOf.l102])
       | succ k3 =>
        have H := HA.out
        clear HA
        simp only [impl_Game_figureOf.l102] at H
        by_cases c30 : x49_3 < (t377.length : Int)
        rotate_left
        ·rw [if_neg c30] at H
         have c30b0 := decide_eq_false c30
         (try rw [hl12_3] at c30b0)
         clear c30
         replace H := ifA H; obtain ⟨LMc36, H⟩ := H
         replace H := nameA (x9_2 ++ [(⟨x12_3, 1, false⟩ : S70)]) (fun y382 => (impl_Game_figureOf.l1 k3 a1 t351 x8_1 y382 t352 (wrap64 (x41_2 + 1)) l0_0 l0_1) = some (r1, r2)) H; obtain ⟨y382, Ny382, H⟩ := H
         have H' := Aside0.mk H
         clear H
         go_wp2_with (first | ((with_reducible refine gate_builtin (b := .append) (xs := #[.tmp 59, .tmp 62]) rfl ?_); at_builtin; refine Kd.N_append k70 (w0 := w) w.heap.size rfl (.tmp 59) (.tmp 62) 49 70 (.agg #[(.slice none 0 0), (.int .i64 0), (.bool false)]) 40 rfl Try.underlying49 info70 rfl (by decide) (by omega) u9 x9_2 (⟨x12_3, 1, false⟩ : S70) [.slice Ao29 x12_3.length co29, .int .i64 1, .bool false] (fun k_ => (w.heap.size ≤ k_) ∧ some k_ ≠ (u8 : Value).ownBlock ∧ k_ ≠ gb347 ∧ k_ ≠ gb348) (fun k_ => ((fun k_ => (w.heap.size ≤ k_) ∧ some k_ ≠ (u8 : Value).ownBlock ∧ k_ ≠ gb347 ∧ k_ ≠ gb348)) k_ ∧ some k_ ≠ (u9 : Value).ownBlock) rfl rfl ?aP (fun _ hk => hk) ?aF ?aO ?aB ?aS ?aL ?_; (case aP => exact (k70_mkF _ _ (⟨x12_3, 1, false⟩ : S70) (Kd.R_reads' (Kd.R_mono (ok' := (fun k_ => ((fun k_ => (w.heap.size ≤ k_) ∧ some k_ ≠ (u8 : Value).ownBlock ∧ k_ ≠ gb347 ∧ k_ ≠ gb348)) k_ ∧ some k_ ≠ (u9 : Value).ownBlock)) (Kd.R_types (Kd.R_types (Kd.R_apart' (Kd.R_apart' (HO_12.out) (Kd.N_typed HO_8.out) (by decide)) (Kd.N_typed HO_9.out) (by decide)) BK347.out (by decide)) BK348.out (by decide)) (fun k_ hk => ⟨⟨hk.1.1.1.1, ⟨hk.1.1.1.2, ⟨hk.1.2, hk.2⟩⟩⟩, hk.1.1.2⟩))).2.1 (Kd.R_F (Kd.R_mono (ok' := (fun k_ => ((fun k_ => (w.heap.size ≤ k_) ∧ some k_ ≠ (u8 : Value).ownBlock ∧ k_ ≠ gb347 ∧ k_ ≠ gb348)) k_ ∧ some k_ ≠ (u9 : Value).ownBlock)) (Kd.R_types (Kd.R_types (Kd.R_apart' (Kd.R_apart' (HO_12.out) (Kd.N_typed HO_8.out) (by decide)) (Kd.N_typed HO_9.out) (by decide)) BK347.out (by decide)) BK348.out (by decide)) (fun k_ hk => ⟨⟨hk.1.1.1.1, ⟨hk.1.1.1.2, ⟨hk.1.2, hk.2⟩⟩⟩, hk.1.1.2⟩))))); (case aB => exact (mb HB.out)); (case aF => exact (fun k_ hk => ⟨(Nat.le_trans (below_size (mb HB.out)) hk), Kd.fresh' (Kd.N_lt (mvN HO_8.out)) k_ hk, Kd.freshB (g := gb347) (o := .cells #[.slice A0_0 l0_0.length c0_0, .slice A0_1 l0_1.length c0_1] 28 (0, 0)) (mvK BK347.out) k_ hk, Kd.freshB (g := gb348) (o := .cells #[.int .i64 0, .slice none 0 0] 51 (0, 0)) (mvK BK348.out) k_ hk⟩)); (case aO => exact (Kd.N_mono (mvN HO_9.out) (fun _ hk => ⟨hk.1, ⟨hk.2.1, ⟨hk.2.2.2.1, hk.2.2.2.2⟩⟩⟩))); (case aS => exact (below_size (mb HB.out))); (case aL => have := LMc36.out; omega); intro v383 w37 ho hb hg hat; rw [← Ny382.out] at ho; replace HO_8 := am (Kd.N_afterv (ok := (fun k_ => (w.heap.size ≤ k_) ∧ some k_ ≠ (.slice Ao29 x12_3.length co29 : Value).ownBlock ∧ k_ ≠ gb347 ∧ k_ ≠ gb348)) (Kd.N_mono (mvN HO_8.out) (fun _ hk => ⟨⟨hk.1, ⟨hk.2.2.1, ⟨hk.2.2.2.1, hk.2.2.2.2⟩⟩⟩, hk.2.1⟩)) hg hat); replace BK347 := am (blk_grown (mvK BK347.out) hg (Kd.N_ne HO_9.out BK347.out (by decide))); replace BK348 := am (blk_grown (mvK BK348.out) hg (Kd.N_ne HO_9.out BK348.out (by decide))); replace HB := am (hb); have HO384 := am (ho); clear HO_9; clear HO_12; clear ho hb hg hat))
         (try simp only [← hl12_3])
         go_roundg k3
         case measure => have := HK1.out; have := HK2.out; have := HK3.out; omega
         case rel => exact ⟨(y382), (wrap64 (x41_2 + 1)), eqF, H', ⟨by have := HK1.out; have := HK2.out; have := HK3.out; omega⟩, ⟨by (try simp only [hl12_3]); (with_reducible repeat (first | apply Kd.N_alloc | apply Kd.N_drewN | apply Kd.N_drew)); exact Kd.N_mono HO_8.out (fun _ hk => ⟨hk.1.1, ⟨hk.2, ⟨hk.1.2.2.1, hk.1.2.2.2⟩⟩⟩)⟩, ⟨by (try simp only [hl12_3]); (with_reducible repeat (first | apply Kd.N_alloc | apply Kd.N_drewN | apply Kd.N_drew)); exact HO384.out⟩, ⟨by (try simp only [hl12_3]); (with_reducible repeat (first | refine blk_drewN ?_ _ | refine blk_drew ?_ | refine blk_alloc ?_ _)); exact BK347.out⟩, ⟨by (try simp only [hl12_3]); (with_reducible repeat (first | refine blk_drewN ?_ _ | refine blk_drew ?_ | refine blk_alloc ?_ _)); exact BK348.out⟩, ⟨mb HB.out⟩⟩
        rw [if_pos c30] at H
        have c30b0 := decide_eq_true c30
        clear c30
        replace H := ifD H; obtain ⟨c31b0, H⟩ := H
        replace H := ifD H; obtain ⟨c32b0, H⟩ := H
        replace H := nameA (x12_3.set (x49_3 : Int).toNat (wrap64 ((rd x12_3 x49_3) + 10))) (fun y381 => (impl_Game_figureOf.l102 k3 a1 t351 x8_1 x9_2 y381 t352 x41_2 (t377.length : Int) (wrap64 (x49_3 + 1)) l0_0 l0_1) = some (r1, r2)) H; obtain ⟨y381, Ny381, H⟩ := H
        have H' := Aside0.mk H
        clear H
        have p380 : 0 ≤ (x49_3 : Int) := odE
        have q380 : x49_3 < (x12_3.length : Int) := odE
        obtain ⟨ad380, e380, hx380_0⟩ := Kd.at_int (Kd.R_reads' HO_12.out).2.2 x49_3 p380 q380
        cases e380
        replace p380 := eq_true p380
        replace q380 := eq_true q380
        have p33 : 0 ≤ (x49_3 : Int) := odE
        have q33 : (x49_3 : Int) < ((x12_3.length : Int) : Int) := odE
        obtain ⟨go33, co33, eo33, gb33, gl33, cl33, HG33⟩ := Kd.R_form HO_12.out (by omega)
        (first | cases eo33 | (injection eo33 with ea_ en_ ec_; (first | subst ea_ | (injection ea_ with ea_; subst ea_)); subst ec_; clear en_))
        have GB33 := Aside0.mk gb33
        have GG33 := Aside0.mk HG33
        clear gb33 gl33 HG33
        (first | simp only [add_plain] at hx380_0 | skip)
        obtain ⟨hx33_0, hf33_0⟩ := Kd.R_celln 0 HO_12.out (x49_3 : Int) p33 q33
        replace p33 := eq_true p33
        replace q33 := eq_true q33
        have HP34 := Kd.R_putg HO_12.out (x49_3 : Int) (wrap64 ((rd x12_3 x49_3) + 10))
        go_wp2_with (first | ((with_reducible refine gate_store (t := 3) (p := 57) rfl ?_); refine store_event (t := 3) (p := 57) (v := ?vo_w35) (w1 := (wr.setCell ⟨go33, (x49_3 : Int).toNat, none⟩ (.int .i64 (wrap64 ((rd x12_3 x49_3) + 10))))) ?hg ?ho ?hn ?hr ?_; (case ho => rfl); (case hg => rfl); (case hn => rfl); (case hr => first | (go_simp; done) | (go_simp; rfl)); intro w35 hw; have hg : wr.grownBy w35 (some go33) := (by rw [hw]; exact HP34.2); have hp_ : Kd.R (Kd.int .i64) 3 w35 w.heap.size (fun k_ => (w.heap.size ≤ k_)) (.slice (some ⟨go33, 0, none⟩) x12_3.length co29) y381 := (by rw [hw, Ny381.out]; exact HP34.1); clear HP34; replace HO_8 := am (Kd.N_afterv (v := (.slice (some ⟨go33, 0, none⟩) x12_3.length co29)) (v1 := (.slice (some ⟨go33, 0, none⟩) x12_3.length co29)) (ok := (fun k_ => (w.heap.size ≤ k_) ∧ some k_ ≠ (u9 : Value).ownBlock ∧ k_ ≠ gb347 ∧ k_ ≠ gb348)) (Kd.N_mono (mvN HO_8.out) (fun _ hk => ⟨⟨hk.1, ⟨hk.2.1, ⟨hk.2.2.2.1, hk.2.2.2.2⟩⟩⟩, hk.2.2.1⟩)) hg (.inl rfl)); replace HO_9 := am (Kd.N_afterv (v := (.slice (some ⟨go33, 0, none⟩) x12_3.length co29)) (v1 := (.slice (some ⟨go33, 0, none⟩) x12_3.length co29)) (ok := (fun k_ => (w.heap.size ≤ k_) ∧ some k_ ≠ (u8 : Value).ownBlock ∧ k_ ≠ gb347 ∧ k_ ≠ gb348)) (Kd.N_mono (mvN HO_9.out) (fun _ hk => ⟨⟨hk.1, ⟨hk.2.1, ⟨hk.2.2.2.1, hk.2.2.2.2⟩⟩⟩, hk.2.2.1⟩)) hg (.inl rfl)); replace BK347 := am (blk_grown (mvK BK347.out) hg (Kd.R_ne HO_12.out BK347.out (by decide))); replace BK348 := am (blk_grown (mvK BK348.out) hg (Kd.R_ne HO_12.out BK348.out (by decide))); replace HO_12 := am (hp_); replace HB := am ((by rw [hw]; exact below_set (HB.out) GB33.out : Below w.heap.size w w35)); clear hg hw hp_))
        (try simp only [← hl12_3])
        go_roundg k3
        case measure => have := HK1.out; have := HK2.out; have := HK3.out; omega
        case rel => exact ⟨(y381), (wrap64 (x49_3 + 1)), eqF, H', ⟨by have := HK1.out; have := HK2.out; have := HK3.out; omega⟩, ⟨by (try simp only [hl12_3]); (with_reducible repeat (first | apply Kd.N_alloc | apply Kd.N_drewN | apply Kd.N_drew)); exact Kd.N_mono HO_8.out (fun _ hk => ⟨hk.1.1, ⟨hk.1.2.1, ⟨hk.2, ⟨hk.1.2.2.1, hk.1.2.2.2⟩⟩⟩⟩)⟩, ⟨by (try simp only [hl12_3]); (with_reducible repeat (first | apply Kd.N_alloc | apply Kd.N_drewN | apply Kd.N_drew)); exact Kd.N_mono HO_9.out (fun _ hk => ⟨hk.1.1, ⟨hk.1.2.1, ⟨hk.2, ⟨hk.1.2.2.1, hk.1.2.2.2⟩⟩⟩⟩)⟩, ⟨by (try simp only [hl12_3]); (with_reducible repeat (first | apply Kd.R_alloc | apply Kd.R_drewN | apply Kd.R_drew)); exact HO_12.out⟩, ⟨by (try simp only [hl12_3]); (with_reducible repeat (first | refine blk_drewN ?_ _ | refine blk_drew ?_ | refine blk_alloc ?_ _)); exact BK347.out⟩, ⟨by (try simp only [hl12_3]); (with_reducible repeat (first | refine blk_drewN ?_ _ | refine blk_drew ?_ | refine blk_alloc ?_ _)); exact BK348.out⟩, ⟨mb HB.out⟩⟩
 rw [if_neg c5] at H
 have c5b0 := neb1 c5
 have c5b1 := neb2 c5
 replace H := nameA (([] : List (S70))) (fun y385 => (impl_Game_figureOf.l200 k a1 t349 t350 y385 (([] : List (S70))) t349 0 l0_0 l0_1) = some (r1, r2)) H; obtain ⟨y385, Ny385, H⟩ := H
 replace H := nameA (([] : List (S70))) (fun y388 => (impl_Game_figureOf.l200 k a1 t349 t350 y385 y388 t349 0 l0_0 l0_1) = some (r1, r2)) H; obtain ⟨y388, Ny388, H⟩ := H
 have H' := Aside0.mk H
 clear H
 have eg55 : ∀ args w, (callFunc 55 args).run Try.prog w = .ok (.enter 55 args) w := enters_of Try.func55 (by kernel_rfl) rfl
 have eg57 : ∀ args w, (callFunc 57 args).run Try.prog w = .ok (.enter 57 args) w := enters_of Try.func57 (by kernel_rfl) rfl
 go_enter Try.func31, Try.ntmps31
 try go_wp2_with (first | ((with_reducible refine gate_dst (N := 2) rfl ?_); refine bE 2 #[.slice A0_0 l0_0.length c0_0, .slice A0_1 l0_1.length c0_1] 28 ?_; intro gb347 hg w59 hbox hb; have BK347 := am (hbox); have GW347 := am ((by rw [hg]; exact (below_size (mb HB.out)) : w.heap.size ≤ gb347)); have GE347 := GW347; replace HB := am (below_step (mb HB.out) hb); clear hb hbox hg) | ((with_reducible refine gate_dst (N := 4) rfl ?_); refine bE 4 #[.int .i64 0, .slice none 0 0] 51 ?_; intro gb348 hg w60 hbox hb; have BK348 := am (hbox); have GW348 := am ((by rw [hg]; exact (below_size (mb HB.out)) : w.heap.size ≤ gb348)); have GE348 := GW348; replace HB := am (below_step (mb HB.out) hb); have NB347_348 := am ((by rw [hg]; exact Nat.ne_of_lt (blk_lt (g := gb347) (o := .cells #[.slice A0_0 l0_0.length c0_0, .slice A0_1 l0_1.length c0_1] 28 (0, 0)) (mvK BK347.out)) : gb347 ≠ gb348)); have NB348_347 := am ((by rw [hg]; exact Nat.ne_of_gt (blk_lt (g := gb347) (o := .cells #[.slice A0_0 l0_0.length c0_0, .slice A0_1 l0_1.length c0_1] 28 (0, 0)) (mvK BK347.out)) : gb348 ≠ gb347)); replace BK347 := am (blk_below (mvK BK347.out) hb); clear hb hbox hg))
 replace BK347 := am (blk_drew BK347.out)
 replace BK348 := am (blk_drew BK348.out)
 replace HB := am (below_drew1 HB.out)
 refine start_ (n := 8) (S := fun w' => w'.cell? ⟨gb347, 0, none⟩ = some (.slice A0_0 l0_0.length c0_0) ∧ w'.cell? ⟨gb347, 1, none⟩ = some (.slice A0_1 l0_1.length c0_1)) (ds := []) (Array.replicate 8 false) (by kernel_rfl) rfl rfl ⟨(blk_cell BK347.out 0).trans rfl, (blk_cell BK347.out 1).trans rfl⟩ (fun hHeld => ?_); refine with_tabW impl_Game_figureOf.tab1 impl_Game_figureOf.bits1 (fun HT_ HW_ => ?_)
 generalize w60.drew = w61 at BK347 BK348 HB hHeld ⊢
 refine pY 4 18 HT_ ?_
 refine tY 0 14 HT_ HW_ hHeld ?_
 refine tY 2 16 HT_ HW_ hHeld ?_
 refine oY 1 15 HT_ (fun K hK => ?_)
 refine gY Try.func53 #[.agg #[.slice A0_0 l0_0.length c0_0, .slice A0_1 l0_1.length c0_1]] ?_
 with_reducible refine (impl_Game_m.calls _ _ l0_0 _ _ l0_1 t349 _ ?side1 ?side2 ?side3 ?side4 A3.out).mono ?_
 (case side1 => exact mvC (Kd.C_below HR0_0.out HB.out))
 (case side2 => exact HC0_0.out)
 (case side3 => exact mvC (Kd.C_below HR0_1.out HB.out))
 (case side4 => exact HC0_1.out)
 rintro e w62 ⟨rfl, hb⟩
 refine ⟨_, rfl, ?_⟩
 replace BK347 := am (blk_below (mvK BK347.out) hb)
 replace BK348 := am (blk_below (mvK BK348.out) hb)
 replace HB := am (below_step (mb HB.out) hb)
 (try clear hb)
 (try clear hb2)
 (try clear hk)
 (try clear hi)
 refine hK.out _ _ ⟨(blk_cell BK347.out 0).trans rfl, (blk_cell BK347.out 1).trans rfl⟩ (fun hHeld => ?_)
 clear hK K
 refine nY 15 ?_
 refine oY 3 17 HT_ (fun K hK => ?_)
 refine gY Try.func54 #[.agg #[.slice A0_0 l0_0.length c0_0, .slice A0_1 l0_1.length c0_1]] ?_
 with_reducible refine (impl_Game_n.calls _ _ l0_0 _ _ l0_1 t350 _ ?side1 ?side2 ?side3 ?side4 A4.out).mono ?_
 (case side1 => exact mvC (Kd.C_below HR0_0.out HB.out))
 (case side2 => exact HC0_0.out)
 (case side3 => exact mvC (Kd.C_below HR0_1.out HB.out))
 (case side4 => exact HC0_1.out)
 rintro e w63 ⟨rfl, hb⟩
 refine ⟨_, rfl, ?_⟩
 replace BK347 := am (blk_below (mvK BK347.out) hb)
 replace BK348 := am (blk_below (mvK BK348.out) hb)
 replace HB := am (below_step (mb HB.out) hb)
 (try clear hb)
 (try clear hb2)
 (try clear hk)
 (try clear hi)
 refine hK.out _ _ ⟨(blk_cell BK347.out 0).trans rfl, (blk_cell BK347.out 1).trans rfl⟩ (fun hHeld => ?_)
 clear hK K
 refine nY 17 ?_
 refine pY 5 5 HT_ ?_
 refine pY 6 6 HT_ ?_
 refine pY 7 7 HT_ ?_
 refine dY HT_ ?_
 try go_wp2_with (first | ((with_reducible refine gate_dst (N := 26) rfl ?_); refine Kd.N_lit k70 _ 70 ?hg (N' := 26) ?hd (xs := ([] : List (S70))) (inner := []) (ok := (fun k_ => (w.heap.size ≤ k_) ∧ k_ ≠ gb347 ∧ k_ ≠ gb348)) (okp := (fun k_ => (w.heap.size ≤ k_) ∧ k_ ≠ gb347 ∧ k_ ≠ gb348)) ?hr ?hp (fun _ hk => hk) ((show ∀ k_, w63.heap.size ≤ k_ → (fun k_ => (w.heap.size ≤ k_) ∧ k_ ≠ gb347 ∧ k_ ≠ gb348) k_ from fun k_ hk => ⟨(Nat.le_trans (below_size (mb HB.out)) hk), Kd.freshB (g := gb347) (o := .cells #[.slice A0_0 l0_0.length c0_0, .slice A0_1 l0_1.length c0_1] 28 (0, 0)) (mvK BK347.out) k_ hk, Kd.freshB (g := gb348) (o := .cells #[.int .i64 0, .slice none 0 0] 51 (0, 0)) (mvK BK348.out) k_ hk⟩) _ (Nat.le_refl _)) (Below.refl _ _) (Nat.le_refl _) (by simp) ?_; (case hd => rfl); (case hg => rfl); (case hr => first | (go_simp; done) | (go_simp; rfl)); (case hp => exact (Reps.none _ _)); intro v386 w64 ho65 hb hg_ hnew_; clear hg_ hnew_; (first | rw [← Ny385.out] at ho65 | (simp only [Int.reduceToNat] at ho65; rw [← Ny385.out] at ho65)); have HO387 := am (Kd.N_lower ho65 (below_size (mb HB.out))); replace BK347 := am (blk_below (mvK BK347.out) hb); replace BK348 := am (blk_below (mvK BK348.out) hb); replace HB := am (below_step (mb HB.out) hb); clear hb ho65) | ((with_reducible refine gate_dst (N := 27) rfl ?_); refine Kd.N_lit k70 _ 70 ?hg (N' := 27) ?hd (xs := ([] : List (S70))) (inner := []) (ok := (fun k_ => (w.heap.size ≤ k_) ∧ some k_ ≠ (v386 : Value).ownBlock ∧ k_ ≠ gb347 ∧ k_ ≠ gb348)) (okp := (fun k_ => (w.heap.size ≤ k_) ∧ some k_ ≠ (v386 : Value).ownBlock ∧ k_ ≠ gb347 ∧ k_ ≠ gb348)) ?hr ?hp (fun _ hk => hk) ((show ∀ k_, w64.heap.size ≤ k_ → (fun k_ => (w.heap.size ≤ k_) ∧ some k_ ≠ (v386 : Value).ownBlock ∧ k_ ≠ gb347 ∧ k_ ≠ gb348) k_ from fun k_ hk => ⟨(Nat.le_trans (below_size (mb HB.out)) hk), Kd.fresh' (Kd.N_lt (mvN HO387.out)) k_ hk, Kd.freshB (g := gb347) (o := .cells #[.slice A0_0 l0_0.length c0_0, .slice A0_1 l0_1.length c0_1] 28 (0, 0)) (mvK BK347.out) k_ hk, Kd.freshB (g := gb348) (o := .cells #[.int .i64 0, .slice none 0 0] 51 (0, 0)) (mvK BK348.out) k_ hk⟩) _ (Nat.le_refl _)) (Below.refl _ _) (Nat.le_refl _) (by simp) ?_; (case hd => rfl); (case hg => rfl); (case hr => first | (go_simp; done) | (go_simp; rfl)); (case hp => exact (Reps.none _ _)); intro v389 w66 ho67 hb hg_ hnew_; clear hg_ hnew_; (first | rw [← Ny388.out] at ho67 | (simp only [Int.reduceToNat] at ho67; rw [← Ny388.out] at ho67)); replace HO387 := am (Kd.N_elder' (mvN HO387.out) (Kd.N_base ho67) hb); have HO390 := am (Kd.N_lower ho67 (below_size (mb HB.out))); replace BK347 := am (blk_below (mvK BK347.out) hb); replace BK348 := am (blk_below (mvK BK348.out) hb); replace HB := am (below_step (mb HB.out) hb); clear hb ho67))
 go_loopg [8, 29] k (fun kq v8 v29 w' => ∃ (x8_1 : List (S70)) (x29_1 : Int), v29 = .int .i64 x29_1 ∧ Aside0 (impl_Game_figureOf.l200 kq a1 t349 t350 x8_1 y388 t349 x29_1 l0_0 l0_1 = some (r1, r2)) ∧ Aside0 (kq ≤ k) ∧ Aside0 (Kd.N k70 70 w' w.heap.size (fun k_ => (w.heap.size ≤ k_) ∧ some k_ ≠ (v389 : Value).ownBlock ∧ k_ ≠ gb347 ∧ k_ ≠ gb348) v8 x8_1) ∧ Aside0 (Kd.N k70 70 w' w.heap.size (fun k_ => (w.heap.size ≤ k_) ∧ some k_ ≠ (v8 : Value).ownBlock ∧ k_ ≠ gb347 ∧ k_ ≠ gb348) v389 y388) ∧ Aside0 (w'.heap[gb347]? = some (.cells #[(.slice A0_0 l0_0.length c0_0), (.slice A0_1 l0_1.length c0_1)] 28 (0, 0))) ∧ Aside0 (w'.heap[gb348]? = some (.cells #[.int .i64 0, (.slice none 0 0)] 51 (0, 0))) ∧ Aside0 (Below w.heap.size w w'))
 case atStart => exact ⟨(y385), (0), eqF, H', ⟨Nat.le_refl _⟩, ⟨Kd.N_mono (mvN HO387.out) (fun _ hk => ⟨hk.1.1, ⟨hk.2, ⟨hk.1.2.1, hk.1.2.2⟩⟩⟩)⟩, ⟨mvN HO390.out⟩, ⟨mvK BK347.out⟩, ⟨mvK BK348.out⟩, ⟨mb HB.out⟩⟩
 case round =>
  clear H'
  try clear c2
  try clear p2
  try clear c3
  try clear p3
  try clear q3
  try clear hx3
  try clear hf3
  try clear c4
  try clear c5
  try clear c5b0
  try clear c5b1
  try clear c6
  try clear p6
  try clear c20
  try clear c20b0
  try clear c22
  try clear c26
  try clear c26b0
  try clear c30
  try clear c30b0
  try clear c31
  try clear c31b0
  try clear c32
  try clear c32b0
  try clear p33
  try clear q33
  try clear hx33
  try clear hf33
  try clear c36
  try clear c38
  try clear c38b0
  try clear c38b1
  try clear p38
  try clear q38
  try clear hx38
  try clear c47
  try clear c53
  try clear c54
  try clear c57
  try clear c59
  try clear c60
  try clear p64
  try clear hcz48_0
  try clear hcz48_1
  try clear hcz58_0
  try clear hcz58_1
  try clear hfz48_0
  try clear hfz48_1
  try clear hfz58_0
  try clear hfz58_1
  try clear hx33_0
  try clear hx380_0
  try clear p2
  try clear p33
  try clear p380
  try clear p6
  try clear q33
  try clear q380
  obtain ⟨x8_1, x29_1, rfl, HA, HK1, HO_8, HO_9, BK347, BK348, HB⟩ := hrel
  cases gk with
  | zero => exact absurd HA.out (by simp [impl_Game_figureOf.l200])
  | succ k1 =>
   have H := HA.out
   clear HA
   simp only [impl_Game_figureOf.l200] at H
   by_cases c68 : x29_1 < t349
   ·rw [if_pos c68] at H
    have c68b0 := decide_eq_true c68
    clear c68
    replace H := bindA H; obtain ⟨t391, A69, H⟩ := H
    replace H := ifA H; obtain ⟨LMc70, H⟩ := H
    replace H := nameA (x8_1 ++ [(⟨t391, 0, true⟩ : S70)]) (fun y394 => (impl_Game_figureOf.l200 k1 a1 t349 t350 y394 y388 t349 (wrap64 (x29_1 + 1)) l0_0 l0_1) = some (r1, r2)) H; obtain ⟨y394, Ny394, H⟩ := H
    have H' := Aside0.mk H
    clear H
    go_wp2_with (first | ((with_reducible refine gC 59 rfl ?_); refine gL 35 Try.func59 #[.int .i64 x29_1, .int .i64 t349] ?_; (with_reducible refine (impl_sure.calls x29_1 t349 t391 _ A69.out).mono ?_); rintro e w71 ⟨v392, rfl, ho0, hb⟩; refine ⟨_, rfl, ?_⟩; replace HO_8 := am (Kd.N_elder' (mvN HO_8.out) (Kd.R_base ho0) hb); replace HO_9 := am (Kd.N_elder' (mvN HO_9.out) (Kd.R_base ho0) hb); have HO393 := am (Kd.R_lower (Kd.R_newM (M := fun k_ => (w.heap.size ≤ k_)) ho0 (below_size (mb HB.out)) (fun k_ h_ => h_)) (below_size (mb HB.out))); replace BK347 := am (blk_below (mvK BK347.out) hb); replace BK348 := am (blk_below (mvK BK348.out) hb); replace HB := am (below_step (mb HB.out) hb); (try clear hb ho0); obtain ⟨Ao72, co72, eo72⟩ := Kd.R_slice HO393.out; subst eo72) | ((with_reducible refine gate_builtin (b := .append) (xs := #[.tmp 32, .tmp 37]) rfl ?_); at_builtin; refine Kd.N_append k70 (w0 := w) w.heap.size rfl (.tmp 32) (.tmp 37) 49 70 (.agg #[(.slice none 0 0), (.int .i64 0), (.bool false)]) 40 rfl Try.underlying49 info70 rfl (by decide) (by omega) u8 x8_1 (⟨t391, 0, true⟩ : S70) [.slice Ao72 t391.length co72, .int .i64 0, .bool true] (fun k_ => (w.heap.size ≤ k_) ∧ some k_ ≠ (v389 : Value).ownBlock ∧ k_ ≠ gb347 ∧ k_ ≠ gb348) (fun k_ => ((fun k_ => (w.heap.size ≤ k_) ∧ some k_ ≠ (v389 : Value).ownBlock ∧ k_ ≠ gb347 ∧ k_ ≠ gb348)) k_ ∧ some k_ ≠ (u8 : Value).ownBlock) rfl rfl ?aP (fun _ hk => hk) ?aF ?aO ?aB ?aS ?aL ?_; (case aP => exact (k70_mkF _ _ (⟨t391, 0, true⟩ : S70) (Kd.R_reads' (Kd.R_mono (ok' := (fun k_ => ((fun k_ => (w.heap.size ≤ k_) ∧ some k_ ≠ (v389 : Value).ownBlock ∧ k_ ≠ gb347 ∧ k_ ≠ gb348)) k_ ∧ some k_ ≠ (u8 : Value).ownBlock)) (Kd.R_types (Kd.R_types (Kd.R_apart' (Kd.R_apart' (HO393.out) (Kd.N_typed HO_9.out) (by decide)) (Kd.N_typed HO_8.out) (by decide)) BK347.out (by decide)) BK348.out (by decide)) (fun k_ hk => ⟨⟨hk.1.1.1.1.1, ⟨hk.1.1.1.2, ⟨hk.1.2, hk.2⟩⟩⟩, hk.1.1.2⟩))).2.1 (Kd.R_F (Kd.R_mono (ok' := (fun k_ => ((fun k_ => (w.heap.size ≤ k_) ∧ some k_ ≠ (v389 : Value).ownBlock ∧ k_ ≠ gb347 ∧ k_ ≠ gb348)) k_ ∧ some k_ ≠ (u8 : Value).ownBlock)) (Kd.R_types (Kd.R_types (Kd.R_apart' (Kd.R_apart' (HO393.out) (Kd.N_typed HO_9.out) (by decide)) (Kd.N_typed HO_8.out) (by decide)) BK347.out (by decide)) BK348.out (by decide)) (fun k_ hk => ⟨⟨hk.1.1.1.1.1, ⟨hk.1.1.1.2, ⟨hk.1.2, hk.2⟩⟩⟩, hk.1.1.2⟩))))); (case aB => exact (mb HB.out)); (case aF => exact (fun k_ hk => ⟨(Nat.le_trans (below_size (mb HB.out)) hk), Kd.fresh' (Kd.N_lt (mvN HO_9.out)) k_ hk, Kd.freshB (g := gb347) (o := .cells #[.slice A0_0 l0_0.length c0_0, .slice A0_1 l0_1.length c0_1] 28 (0, 0)) (mvK BK347.out) k_ hk, Kd.freshB (g := gb348) (o := .cells #[.int .i64 0, .slice none 0 0] 51 (0, 0)) (mvK BK348.out) k_ hk⟩)); (case aO => exact (Kd.N_mono (mvN HO_8.out) (fun _ hk => ⟨hk.1.1, ⟨hk.1.2.1, ⟨hk.1.2.2.1, hk.1.2.2.2⟩⟩⟩))); (case aS => exact (below_size (mb HB.out))); (case aL => have := LMc70.out; omega); intro v395 w73 ho hb hg hat; rw [← Ny394.out] at ho; replace HO_9 := am (Kd.N_afterv (ok := (fun k_ => (w.heap.size ≤ k_) ∧ some k_ ≠ (.slice Ao72 t391.length co72 : Value).ownBlock ∧ k_ ≠ gb347 ∧ k_ ≠ gb348)) (Kd.N_mono (mvN HO_9.out) (fun _ hk => ⟨⟨hk.1.1, ⟨hk.2, ⟨hk.1.2.2.1, hk.1.2.2.2⟩⟩⟩, hk.1.2.1⟩)) hg hat); replace BK347 := am (blk_grown (mvK BK347.out) hg (Kd.N_ne HO_8.out BK347.out (by decide))); replace BK348 := am (blk_grown (mvK BK348.out) hg (Kd.N_ne HO_8.out BK348.out (by decide))); replace HB := am (hb); have HO396 := am (ho); clear HO_8; clear HO393; clear ho hb hg hat))
    go_roundg k1
    case measure => have := HK1.out; omega
    case rel => exact ⟨(y394), (wrap64 (x29_1 + 1)), eqF, H', ⟨by have := HK1.out; omega⟩, ⟨mvN HO396.out⟩, ⟨Kd.N_mono (mvN HO_9.out) (fun _ hk => ⟨hk.1.1, ⟨hk.2, ⟨hk.1.2.2.1, hk.1.2.2.2⟩⟩⟩)⟩, ⟨mvK BK347.out⟩, ⟨mvK BK348.out⟩, ⟨mb HB.out⟩⟩
   rw [if_neg c68] at H
   have c68b0 := decide_eq_false c68
   (try rw [hl12_3] at c68b0)
   clear c68
   have H' := Aside0.mk H
   clear H
   go_wp2
   go_loopg [9, 41] k1 (fun kq v9 v41 w' => ∃ (x9_2 : List (S70)) (x41_2 : Int), v41 = .int .i64 x41_2 ∧ Aside0 (impl_Game_figureOf.l201 kq a1 t349 x8_1 x9_2 t350 x41_2 l0_0 l0_1 = some (r1, r2)) ∧ Aside0 (kq ≤ k1) ∧ Aside0 (Kd.N k70 70 w' w.heap.size (fun k_ => (w.heap.size ≤ k_) ∧ some k_ ≠ (v9 : Value).ownBlock ∧ k_ ≠ gb347 ∧ k_ ≠ gb348) u8 x8_1) ∧ Aside0 (Kd.N k70 70 w' w.heap.size (fun k_ => (w.heap.size ≤ k_) ∧ some k_ ≠ (u8 : Value).ownBlock ∧ k_ ≠ gb347 ∧ k_ ≠ gb348) v9 x9_2) ∧ Aside0 (w'.heap[gb347]? = some (.cells #[(.slice A0_0 l0_0.length c0_0), (.slice A0_1 l0_1.length c0_1)] 28 (0, 0))) ∧ Aside0 (w'.heap[gb348]? = some (.cells #[.int .i64 0, (.slice none 0 0)] 51 (0, 0))) ∧ Aside0 (Below w.heap.size w w'))
   case atStart => exact ⟨(y388), (0), eqF, H', ⟨Nat.le_refl _⟩, ⟨mvN HO_8.out⟩, ⟨mvN HO_9.out⟩, ⟨mvK BK347.out⟩, ⟨mvK BK348.out⟩, ⟨mb HB.out⟩⟩
   case round =>
    clear H'
    try clear c2
    try clear p2
    try clear c3
    try clear p3
    try clear q3
    try clear hx3
    try clear hf3
    try clear c4
    try clear c5
    try clear c5b0
    try clear c5b1
    try clear c6
    try clear p6
    try clear c7
    try clear c20
    try clear c20b0
    try clear c22
    try clear c26
    try clear c26b0
    try clear c30
    try clear c30b0
    try clear c31
    try clear c31b0
    try clear c32
    try clear c32b0
    try clear p33
    try clear q33
    try clear hx33
    try clear hf33
    try clear c36
    try clear c38
    try clear c38b0
    try clear c38b1
    try clear p38
    try clear q38
    try clear hx38
    try clear c47
    try clear c53
    try clear c54
    try clear c57
    try clear c59
    try clear c60
    try clear p64
    try clear c68
    try clear c68b0
    try clear c70
    try clear hcz48_0
    try clear hcz48_1
    try clear hcz58_0
    try clear hcz58_1
    try clear hfz48_0
    try clear hfz48_1
    try clear hfz58_0
    try clear hfz58_1
    try clear hx33_0
    try clear hx380_0
    try clear p2
    try clear p3
    try clear p33
    try clear p38
    try clear p380
    try clear p6
    try clear p64
    try clear q3
    try clear q33
    try clear q38
    try clear q380
    obtain ⟨x9_2, x41_2, rfl, HA, HK2, HO_8, HO_9, BK347, BK348, HB⟩ := hrel
    cases gk with
    | zero => exact absurd HA.out (by simp [impl_Game_figureOf.l201])
    | succ k2 =>
     have H := HA.out
     clear HA
     simp only [impl_Game_figureOf.l201] at H
     by_cases c74 : x41_2 < t350
     rotate_left
     ·rw [if_neg c74] at H
      have c74b0 := decide_eq_false c74
      (try rw [hl12_3] at c74b0)
      clear c74
      by_cases c86 : a1 = 2
      ·rw [if_pos c86] at H
       have c86b0 := eqb1 c86
       have c86b1 := eqb2 c86
       clear c86
       replace H := nameA (([x9_2, x8_1] : List (List (S70)))) (fun y397 => ((impl_condition_60.f k2 y397).bind fun t400 => (some (t349, t400))) = some (r1, r2)) H; obtain ⟨y397, Ny397, H⟩ := H
       replace H := bindA H; obtain ⟨t400, A87, H⟩ := H
       simp only [Option.some.injEq, Prod.mk.injEq] at H
       obtain ⟨rfl, rfl⟩ := H
       obtain ⟨Ao88, co88, eo88⟩ := Kd.N_slice HO_9.out
       subst eo88
       obtain ⟨Ao89, co89, eo89⟩ := Kd.N_slice HO_8.out
       subst eo89
       go_wp2_with (first | ((with_reducible refine gate_dst (N := 72) rfl ?_); refine Kd.N_lit (Kd.slice 70 k70) _ 49 ?hg (N' := 72) ?hd (xs := ([x9_2, x8_1] : List (List (S70)))) (inner := [.slice Ao88 x9_2.length co88, .slice Ao89 x8_1.length co89]) (ok := (fun k_ => (w.heap.size ≤ k_) ∧ k_ ≠ gb347 ∧ k_ ≠ gb348)) (okp := (fun k_ => (w.heap.size ≤ k_) ∧ k_ ≠ gb347 ∧ k_ ≠ gb348)) ?hr ?hp (fun _ hk => hk) ((show ∀ k_, wr.heap.size ≤ k_ → (fun k_ => (w.heap.size ≤ k_) ∧ k_ ≠ gb347 ∧ k_ ≠ gb348) k_ from fun k_ hk => ⟨(Nat.le_trans (below_size (mb HB.out)) hk), Kd.freshB (g := gb347) (o := .cells #[.slice A0_0 l0_0.length c0_0, .slice A0_1 l0_1.length c0_1] 28 (0, 0)) (mvK BK347.out) k_ hk, Kd.freshB (g := gb348) (o := .cells #[.int .i64 0, .slice none 0 0] 51 (0, 0)) (mvK BK348.out) k_ hk⟩) _ (Nat.le_refl _)) (Below.refl _ _) (Nat.le_refl _) (by simp) ?_; (case hd => rfl); (case hg => rfl); (case hr => first | (go_simp; done) | (go_simp; rfl)); (case hp => exact (Reps.one (show Kd.FK (Kd.slice 70 k70) _ _ x9_2 [.slice Ao88 x9_2.length co88] from (Kd.FK_slice_mk (Kd.N_reads' (Kd.N_mono (ok' := (fun k_ => (w.heap.size ≤ k_) ∧ k_ ≠ gb347 ∧ k_ ≠ gb348)) (HO_9.out) (fun k_ hk => ⟨hk.1, ⟨hk.2.2.1, hk.2.2.2⟩⟩))).2.1 (Kd.N_F (Kd.N_mono (ok' := (fun k_ => (w.heap.size ≤ k_) ∧ k_ ≠ gb347 ∧ k_ ≠ gb348)) (HO_9.out) (fun k_ hk => ⟨hk.1, ⟨hk.2.2.1, hk.2.2.2⟩⟩))))) (Reps.one (show Kd.FK (Kd.slice 70 k70) _ _ x8_1 [.slice Ao89 x8_1.length co89] from (Kd.FK_slice_mk (Kd.N_reads' (Kd.N_mono (ok' := (fun k_ => (w.heap.size ≤ k_) ∧ k_ ≠ gb347 ∧ k_ ≠ gb348)) (HO_8.out) (fun k_ hk => ⟨hk.1, ⟨hk.2.2.1, hk.2.2.2⟩⟩))).2.1 (Kd.N_F (Kd.N_mono (ok' := (fun k_ => (w.heap.size ≤ k_) ∧ k_ ≠ gb347 ∧ k_ ≠ gb348)) (HO_8.out) (fun k_ hk => ⟨hk.1, ⟨hk.2.2.1, hk.2.2.2⟩⟩))))) (Reps.none _ _)))); intro v398 w90 ho91 hb hg_ hnew_; clear hg_ hnew_; (first | rw [← Ny397.out] at ho91 | (simp only [Int.reduceToNat] at ho91; rw [← Ny397.out] at ho91)); have HO399 := am (Kd.N_lower ho91 (below_size (mb HB.out))); replace BK347 := am (blk_below (mvK BK347.out) hb); replace BK348 := am (blk_below (mvK BK348.out) hb); replace HB := am (below_step (mb HB.out) hb); clear HO_8; clear HO_9; clear hb ho91; obtain ⟨Ao92, co92, eo92⟩ := Kd.N_slice HO399.out; subst eo92) | ((with_reducible refine gC 60 rfl ?_); refine gL 73 Try.func60 #[.slice Ao92 y397.length co92] ?_; (with_reducible refine (impl_condition_60.calls k2 (fun k_ => ((w.heap.size ≤ k_) ∧ (k_ ≠ gb347 ∧ k_ ≠ gb348))) _ _ y397 t400 _ ?side1 A87.out).mono ?_); (case side1 => exact Kd.N_V (HO399.out)); rintro e w93 ⟨v401, rfl, ho0, hb⟩; refine ⟨_, rfl, ?_⟩; replace HO399 := am (Kd.N_elder' (mvN HO399.out) (Kd.N_base ho0) hb); have HO402 := am (Kd.N_lower (Kd.N_mono (ok' := fun k_ => (w.heap.size ≤ k_) ∧ k_ ≠ gb347 ∧ k_ ≠ gb348) ho0 (fun k_ hk_ => ⟨Or.elim hk_ (fun hs_ => hs_.1) (fun hn_ => (Nat.le_trans (below_size (mb HB.out)) hn_)), Or.elim hk_ (fun hs_ => hs_.2.1) (fun hn_ => (Kd.freshB (g := gb347) (o := .cells #[.slice A0_0 l0_0.length c0_0, .slice A0_1 l0_1.length c0_1] 28 (0, 0)) (mvK BK347.out) k_ hn_)), Or.elim hk_ (fun hs_ => hs_.2.2) (fun hn_ => (Kd.freshB (g := gb348) (o := .cells #[.int .i64 0, .slice none 0 0] 51 (0, 0)) (mvK BK348.out) k_ hn_))⟩)) (below_size (mb HB.out))); replace BK347 := am (blk_below (mvK BK347.out) hb); replace BK348 := am (blk_below (mvK BK348.out) hb); replace HB := am (below_step (mb HB.out) hb); (try clear hb ho0); obtain ⟨Ao94, co94, eo94⟩ := Kd.N_slice HO402.out; subst eo94; have hnb95 := NB348_347.out; have hnc95 := NB347_348.out; have hcz96_0 := cell0 BK348.out; have hcz96_1 := cell1 BK348.out; have hfz96_0 := blk_frozen BK348.out 0; have hfz96_1 := blk_frozen BK348.out 1))
       refine bodyPost_ret (results_cell_row rfl _ _ gb348 51 #[.int .i64 t349, .slice Ao94 t400.length co94] (0, 0) _ rfl (by (with_reducible repeat (first | refine blk_drewN ?_ _ | refine blk_drew ?_ | refine blk_alloc ?_ _)); refine blk_put (cs := #[.int .i64 t349, .slice none 0 0]) ?_ 1 _ rfl; (with_reducible repeat (first | refine blk_drewN ?_ _ | refine blk_drew ?_ | refine blk_alloc ?_ _)); refine blk_put (cs := #[.int .i64 0, .slice none 0 0]) ?_ 0 _ rfl; (with_reducible repeat (first | refine blk_drewN ?_ _ | refine blk_drew ?_ | refine blk_alloc ?_ _)); exact BK348.out) Try.underlying51 rfl (by kernel_rfl)) rfl ?_
       exact ⟨_, eqE, by (with_reducible repeat (first | apply Kd.N_alloc | apply Kd.N_drewN | apply Kd.N_drew)); exact Kd.N_mono (Kd.N_far (p := ⟨gb348, 1, none⟩) (Kd.N_far (p := ⟨gb348, 0, none⟩) (Kd.N_mono HO402.out (fun k_ hk => (⟨hk, hk.2.2⟩ : _ ∧ k_ ≠ gb348))) (fun _ hk => hk.2) (.int .i64 t349)) (fun _ hk => hk.2) (.slice Ao94 t400.length co94)) (fun _ hk => hk.1.1), mb HB.out⟩
      rw [if_neg c86] at H
      have c86b0 := neb1 c86
      have c86b1 := neb2 c86
      replace H := nameA (([x8_1, x9_2] : List (List (S70)))) (fun y403 => ((impl_condition_60.f k2 y403).bind fun t406 => (some (t349, t406))) = some (r1, r2)) H; obtain ⟨y403, Ny403, H⟩ := H
      replace H := bindA H; obtain ⟨t406, A97, H⟩ := H
      simp only [Option.some.injEq, Prod.mk.injEq] at H
      obtain ⟨rfl, rfl⟩ := H
      obtain ⟨Ao98, co98, eo98⟩ := Kd.N_slice HO_8.out
      subst eo98
      obtain ⟨Ao99, co99, eo99⟩ := Kd.N_slice HO_9.out
      subst eo99
      go_wp2_with (first | ((with_reducible refine gate_dst (N := 72) rfl ?_); refine Kd.N_lit (Kd.slice 70 k70) _ 49 ?hg (N' := 72) ?hd (xs := ([x8_1, x9_2] : List (List (S70)))) (inner := [.slice Ao98 x8_1.length co98, .slice Ao99 x9_2.length co99]) (ok := (fun k_ => (w.heap.size ≤ k_) ∧ k_ ≠ gb347 ∧ k_ ≠ gb348)) (okp := (fun k_ => (w.heap.size ≤ k_) ∧ k_ ≠ gb347 ∧ k_ ≠ gb348)) ?hr ?hp (fun _ hk => hk) ((show ∀ k_, wr.heap.size ≤ k_ → (fun k_ => (w.heap.size ≤ k_) ∧ k_ ≠ gb347 ∧ k_ ≠ gb348) k_ from fun k_ hk => ⟨(Nat.le_trans (below_size (mb HB.out)) hk), Kd.freshB (g := gb347) (o := .cells #[.slice A0_0 l0_0.length c0_0, .slice A0_1 l0_1.length c0_1] 28 (0, 0)) (mvK BK347.out) k_ hk, Kd.freshB (g := gb348) (o := .cells #[.int .i64 0, .slice none 0 0] 51 (0, 0)) (mvK BK348.out) k_ hk⟩) _ (Nat.le_refl _)) (Below.refl _ _) (Nat.le_refl _) (by simp) ?_; (case hd => rfl); (case hg => rfl); (case hr => first | (go_simp; done) | (go_simp; rfl)); (case hp => exact (Reps.one (show Kd.FK (Kd.slice 70 k70) _ _ x8_1 [.slice Ao98 x8_1.length co98] from (Kd.FK_slice_mk (Kd.N_reads' (Kd.N_mono (ok' := (fun k_ => (w.heap.size ≤ k_) ∧ k_ ≠ gb347 ∧ k_ ≠ gb348)) (HO_8.out) (fun k_ hk => ⟨hk.1, ⟨hk.2.2.1, hk.2.2.2⟩⟩))).2.1 (Kd.N_F (Kd.N_mono (ok' := (fun k_ => (w.heap.size ≤ k_) ∧ k_ ≠ gb347 ∧ k_ ≠ gb348)) (HO_8.out) (fun k_ hk => ⟨hk.1, ⟨hk.2.2.1, hk.2.2.2⟩⟩))))) (Reps.one (show Kd.FK (Kd.slice 70 k70) _ _ x9_2 [.slice Ao99 x9_2.length co99] from (Kd.FK_slice_mk (Kd.N_reads' (Kd.N_mono (ok' := (fun k_ => (w.heap.size ≤ k_) ∧ k_ ≠ gb347 ∧ k_ ≠ gb348)) (HO_9.out) (fun k_ hk => ⟨hk.1, ⟨hk.2.2.1, hk.2.2.2⟩⟩))).2.1 (Kd.N_F (Kd.N_mono (ok' := (fun k_ => (w.heap.size ≤ k_) ∧ k_ ≠ gb347 ∧ k_ ≠ gb348)) (HO_9.out) (fun k_ hk => ⟨hk.1, ⟨hk.2.2.1, hk.2.2.2⟩⟩))))) (Reps.none _ _)))); intro v404 w100 ho101 hb hg_ hnew_; clear hg_ hnew_; (first | rw [← Ny403.out] at ho101 | (simp only [Int.reduceToNat] at ho101; rw [← Ny403.out] at ho101)); have HO405 := am (Kd.N_lower ho101 (below_size (mb HB.out))); replace BK347 := am (blk_below (mvK BK347.out) hb); replace BK348 := am (blk_below (mvK BK348.out) hb); replace HB := am (below_step (mb HB.out) hb); clear HO_8; clear HO_9; clear hb ho101; obtain ⟨Ao102, co102, eo102⟩ := Kd.N_slice HO405.out; subst eo102) | ((with_reducible refine gC 60 rfl ?_); refine gL 73 Try.func60 #[.slice Ao102 y403.length co102] ?_; (with_reducible refine (impl_condition_60.calls k2 (fun k_ => ((w.heap.size ≤ k_) ∧ (k_ ≠ gb347 ∧ k_ ≠ gb348))) _ _ y403 t406 _ ?side1 A97.out).mono ?_); (case side1 => exact Kd.N_V (HO405.out)); rintro e w103 ⟨v407, rfl, ho0, hb⟩; refine ⟨_, rfl, ?_⟩; replace HO405 := am (Kd.N_elder' (mvN HO405.out) (Kd.N_base ho0) hb); have HO408 := am (Kd.N_lower (Kd.N_mono (ok' := fun k_ => (w.heap.size ≤ k_) ∧ k_ ≠ gb347 ∧ k_ ≠ gb348) ho0 (fun k_ hk_ => ⟨Or.elim hk_ (fun hs_ => hs_.1) (fun hn_ => (Nat.le_trans (below_size (mb HB.out)) hn_)), Or.elim hk_ (fun hs_ => hs_.2.1) (fun hn_ => (Kd.freshB (g := gb347) (o := .cells #[.slice A0_0 l0_0.length c0_0, .slice A0_1 l0_1.length c0_1] 28 (0, 0)) (mvK BK347.out) k_ hn_)), Or.elim hk_ (fun hs_ => hs_.2.2) (fun hn_ => (Kd.freshB (g := gb348) (o := .cells #[.int .i64 0, .slice none 0 0] 51 (0, 0)) (mvK BK348.out) k_ hn_))⟩)) (below_size (mb HB.out))); replace BK347 := am (blk_below (mvK BK347.out) hb); replace BK348 := am (blk_below (mvK BK348.out) hb); replace HB := am (below_step (mb HB.out) hb); (try clear hb ho0); obtain ⟨Ao104, co104, eo104⟩ := Kd.N_slice HO408.out; subst eo104; have hnb105 := NB348_347.out; have hnc105 := NB347_348.out; have hcz106_0 := cell0 BK348.out; have hcz106_1 := cell1 BK348.out; have hfz106_0 := blk_frozen BK348.out 0; have hfz106_1 := blk_frozen BK348.out 1))
      refine bodyPost_ret (results_cell_row rfl _ _ gb348 51 #[.int .i64 t349, .slice Ao104 t406.length co104] (0, 0) _ rfl (by (with_reducible repeat (first | refine blk_drewN ?_ _ | refine blk_drew ?_ | refine blk_alloc ?_ _)); refine blk_put (cs := #[.int .i64 t349, .slice none 0 0]) ?_ 1 _ rfl; (with_reducible repeat (first | refine blk_drewN ?_ _ | refine blk_drew ?_ | refine blk_alloc ?_ _)); refine blk_put (cs := #[.int .i64 0, .slice none 0 0]) ?_ 0 _ rfl; (with_reducible repeat (first | refine blk_drewN ?_ _ | refine blk_drew ?_ | refine blk_alloc ?_ _)); exact BK348.out) Try.underlying51 rfl (by kernel_rfl)) rfl ?_
      exact ⟨_, eqE, by (with_reducible repeat (first | apply Kd.N_alloc | apply Kd.N_drewN | apply Kd.N_drew)); exact Kd.N_mono (Kd.N_far (p := ⟨gb348, 1, none⟩) (Kd.N_far (p := ⟨gb348, 0, none⟩) (Kd.N_mono HO408.out (fun k_ hk => (⟨hk, hk.2.2⟩ : _ ∧ k_ ≠ gb348))) (fun _ hk => hk.2) (.int .i64 t349)) (fun _ hk => hk.2) (.slice Ao104 t406.length co104)) (fun _ hk => hk.1.1), mb HB.out⟩
     rw [if_pos c74] at H
     have c74b0 := decide_eq_true c74
     clear c74
     replace H := bindA H; obtain ⟨t409, A75, H⟩ := H
     have H' := Aside0.mk H
     clear H
     go_wp2_with (first | (go_at_fn 55; (refine (impl_payC.calls k2 x41_2 gb347 A0_0 c0_0 l0_0 A0_1 c0_1 l0_1 t409 _ ?side1 ?side2 ?side3 ?side4 ?side5 ?side6 A75.out).mono ?_); (case side1 => exact (blk_cell (g := gb347) (cs := #[.slice A0_0 l0_0.length c0_0, .slice A0_1 l0_1.length c0_1]) (t := 28) (mvK BK347.out) 0).trans rfl); (case side2 => exact mvC (Kd.C_below HR0_0.out HB.out)); (case side3 => exact HC0_0.out); (case side4 => exact (blk_cell (g := gb347) (cs := #[.slice A0_0 l0_0.length c0_0, .slice A0_1 l0_1.length c0_1]) (t := 28) (mvK BK347.out) 1).trans rfl); (case side5 => exact mvC (Kd.C_below HR0_1.out HB.out)); (case side6 => exact HC0_1.out); rintro e w76 ⟨v410, rfl, ho0, hb⟩; replace HO_8 := am (Kd.N_elder' (mvN HO_8.out) (Kd.R_base ho0) hb); replace HO_9 := am (Kd.N_elder' (mvN HO_9.out) (Kd.R_base ho0) hb); have HO411 := am (Kd.R_lower (Kd.R_newM (M := fun k_ => (w.heap.size ≤ k_)) ho0 (below_size (mb HB.out)) (fun k_ h_ => h_)) (below_size (mb HB.out))); replace BK347 := am (blk_below (mvK BK347.out) hb); replace BK348 := am (blk_below (mvK BK348.out) hb); replace HB := am (below_step (mb HB.out) hb); (try clear hb ho0); obtain ⟨Ao77, co77, eo77⟩ := Kd.R_slice HO411.out; subst eo77))
     go_loopg [49] k2 (fun kq v49 w' => ∃ (x12_3 : List Int) (x49_3 : Int), v49 = .int .i64 x49_3 ∧ Aside0 (impl_Game_figureOf.l302 kq a1 t349 x8_1 x9_2 x12_3 t350 x41_2 (t409.length : Int) x49_3 l0_0 l0_1 = some (r1, r2)) ∧ Aside0 (kq ≤ k2) ∧ Aside0 (Kd.N k70 70 w' w.heap.size (fun k_ => (w.heap.size ≤ k_) ∧ some k_ ≠ (u9 : Value).ownBlock ∧ some k_ ≠ ((.slice Ao77 t409.length co77) : Value).ownBlock ∧ k_ ≠ gb347 ∧ k_ ≠ gb348) u8 x8_1) ∧ Aside0 (Kd.N k70 70 w' w.heap.size (fun k_ => (w.heap.size ≤ k_) ∧ some k_ ≠ (u8 : Value).ownBlock ∧ some k_ ≠ ((.slice Ao77 t409.length co77) : Value).ownBlock ∧ k_ ≠ gb347 ∧ k_ ≠ gb348) u9 x9_2) ∧ Aside0 (Kd.R (Kd.int .i64) 3 w' w.heap.size (fun k_ => (w.heap.size ≤ k_)) (.slice Ao77 t409.length co77) x12_3) ∧ Aside0 (w'.heap[gb347]? = some (.cells #[(.slice A0_0 l0_0.length c0_0), (.slice A0_1 l0_1.length c0_1)] 28 (0, 0))) ∧ Aside0 (w'.heap[gb348]? = some (.cells #[.int .i64 0, (.slice none 0 0)] 51 (0, 0))) ∧ Aside0 (Below w.heap.size w w'))
     case atStart => exact ⟨(t409), (0), eqF, H', ⟨Nat.le_refl _⟩, ⟨Kd.N_mono (mvN HO_8.out) (fun _ hk => ⟨hk.1.1, ⟨hk.1.2.1, ⟨hk.2, ⟨hk.1.2.2.1, hk.1.2.2.2⟩⟩⟩⟩)⟩, ⟨Kd.N_mono (mvN HO_9.out) (fun _ hk => ⟨hk.1.1, ⟨hk.1.2.1, ⟨hk.2, ⟨hk.1.2.2.1, hk.1.2.2.2⟩⟩⟩⟩)⟩, ⟨Kd.R_mono (mvR HO411.out) (fun _ hk => hk.1)⟩, ⟨mvK BK347.out⟩, ⟨mvK BK348.out⟩, ⟨mb HB.out⟩⟩
     case round =>
      clear H'
      try clear c2
      try clear p2
      try clear c3
      try clear p3
      try clear q3
      try clear hx3
      try clear hf3
      try clear c4
      try clear c5
      try clear c5b0
      try clear c5b1
      try clear c6
      try clear p6
      try clear c7
      try clear c20
      try clear c20b0
      try clear c22
      try clear c26
      try clear c26b0
      try clear c30
      try clear c30b0
      try clear c31
      try clear c31b0
      try clear c32
      try clear c32b0
      try clear p33
      try clear q33
      try clear hx33
      try clear hf33
      try clear c36
      try clear c38
      try clear c38b0
      try clear c38b1
      try clear p38
      try clear q38
      try clear hx38
      try clear c47
      try clear c53
      try clear c54
      try clear c55
      try clear c57
      try clear c59
      try clear c60
      try clear p64
      try clear c68
      try clear c68b0
      try clear c70
      try clear c74
      try clear c74b0
      try clear hcz48_0
      try clear hcz48_1
      try clear hcz58_0
      try clear hcz58_1
      try clear hfz48_0
      try clear hfz48_1
      try clear hfz58_0
      try clear hfz58_1
      try clear hx33_0
      try clear hx380_0
      try clear p2
      try clear p3
      try clear p33
      try clear p38
      try clear p380
      try clear p6
      try clear p64
      try clear q3
      try clear q33
      try clear q38
      try clear q380
      obtain ⟨x12_3, x49_3, rfl, HA, HK3, HO_8, HO_9, HO_12, BK347, BK348, HB⟩ := hrel
      have hl12_3 := (Kd.R_reads' HO_12.out).1
      rw [hl12_3] at HO_12
      (try simp only [hl12_3])
      (try simp only [hl12_3] at BK347)
      (try simp only [hl12_3] at BK348)
      (try simp only [hl12_3] at HO_8)
      (try simp only [hl12_3] at HO_9)
      cases gk with
      | zero => exact absurd HA.out (by simp [impl_Game_figureOf.l302])
      | succ k3 =>
       have H := HA.out
       clear HA
       simp only [impl_Game_figureOf.l302] at H
       by_cases c78 : x49_3 < (t409.length : Int)
       rotate_left
       ·rw [if_neg c78] at H
        have c78b0 := decide_eq_false c78
        (try rw [hl12_3] at c78b0)
        clear c78
        replace H := ifA H; obtain ⟨LMc84, H⟩ := H
        replace H := nameA (x9_2 ++ [(⟨x12_3, 1, false⟩ : S70)]) (fun y414 => (impl_Game_figureOf.l201 k3 a1 t349 x8_1 y414 t350 (wrap64 (x41_2 + 1)) l0_0 l0_1) = some (r1, r2)) H; obtain ⟨y414, Ny414, H⟩ := H
        have H' := Aside0.mk H
        clear H
        go_wp2_with (first | ((with_reducible refine gate_builtin (b := .append) (xs := #[.tmp 59, .tmp 62]) rfl ?_); at_builtin; refine Kd.N_append k70 (w0 := w) w.heap.size rfl (.tmp 59) (.tmp 62) 49 70 (.agg #[(.slice none 0 0), (.int .i64 0), (.bool false)]) 40 rfl Try.underlying49 info70 rfl (by decide) (by omega) u9 x9_2 (⟨x12_3, 1, false⟩ : S70) [.slice Ao77 x12_3.length co77, .int .i64 1, .bool false] (fun k_ => (w.heap.size ≤ k_) ∧ some k_ ≠ (u8 : Value).ownBlock ∧ k_ ≠ gb347 ∧ k_ ≠ gb348) (fun k_ => ((fun k_ => (w.heap.size ≤ k_) ∧ some k_ ≠ (u8 : Value).ownBlock ∧ k_ ≠ gb347 ∧ k_ ≠ gb348)) k_ ∧ some k_ ≠ (u9 : Value).ownBlock) rfl rfl ?aP (fun _ hk => hk) ?aF ?aO ?aB ?aS ?aL ?_; (case aP => exact (k70_mkF _ _ (⟨x12_3, 1, false⟩ : S70) (Kd.R_reads' (Kd.R_mono (ok' := (fun k_ => ((fun k_ => (w.heap.size ≤ k_) ∧ some k_ ≠ (u8 : Value).ownBlock ∧ k_ ≠ gb347 ∧ k_ ≠ gb348)) k_ ∧ some k_ ≠ (u9 : Value).ownBlock)) (Kd.R_types (Kd.R_types (Kd.R_apart' (Kd.R_apart' (HO_12.out) (Kd.N_typed HO_8.out) (by decide)) (Kd.N_typed HO_9.out) (by decide)) BK347.out (by decide)) BK348.out (by decide)) (fun k_ hk => ⟨⟨hk.1.1.1.1, ⟨hk.1.1.1.2, ⟨hk.1.2, hk.2⟩⟩⟩, hk.1.1.2⟩))).2.1 (Kd.R_F (Kd.R_mono (ok' := (fun k_ => ((fun k_ => (w.heap.size ≤ k_) ∧ some k_ ≠ (u8 : Value).ownBlock ∧ k_ ≠ gb347 ∧ k_ ≠ gb348)) k_ ∧ some k_ ≠ (u9 : Value).ownBlock)) (Kd.R_types (Kd.R_types (Kd.R_apart' (Kd.R_apart' (HO_12.out) (Kd.N_typed HO_8.out) (by decide)) (Kd.N_typed HO_9.out) (by decide)) BK347.out (by decide)) BK348.out (by decide)) (fun k_ hk => ⟨⟨hk.1.1.1.1, ⟨hk.1.1.1.2, ⟨hk.1.2, hk.2⟩⟩⟩, hk.1.1.2⟩))))); (case aB => exact (mb HB.out)); (case aF => exact (fun k_ hk => ⟨(Nat.le_trans (below_size (mb HB.out)) hk), Kd.fresh' (Kd.N_lt (mvN HO_8.out)) k_ hk, Kd.freshB (g := gb347) (o := .cells #[.slice A0_0 l0_0.length c0_0, .slice A0_1 l0_1.length c0_1] 28 (0, 0)) (mvK BK347.out) k_ hk, Kd.freshB (g := gb348) (o := .cells #[.int .i64 0, .slice none 0 0] 51 (0, 0)) (mvK BK348.out) k_ hk⟩)); (case aO => exact (Kd.N_mono (mvN HO_9.out) (fun _ hk => ⟨hk.1, ⟨hk.2.1, ⟨hk.2.2.2.1, hk.2.2.2.2⟩⟩⟩))); (case aS => exact (below_size (mb HB.out))); (case aL => have := LMc84.out; omega); intro v415 w85 ho hb hg hat; rw [← Ny414.out] at ho; replace HO_8 := am (Kd.N_afterv (ok := (fun k_ => (w.heap.size ≤ k_) ∧ some k_ ≠ (.slice Ao77 x12_3.length co77 : Value).ownBlock ∧ k_ ≠ gb347 ∧ k_ ≠ gb348)) (Kd.N_mono (mvN HO_8.out) (fun _ hk => ⟨⟨hk.1, ⟨hk.2.2.1, ⟨hk.2.2.2.1, hk.2.2.2.2⟩⟩⟩, hk.2.1⟩)) hg hat); replace BK347 := am (blk_grown (mvK BK347.out) hg (Kd.N_ne HO_9.out BK347.out (by decide))); replace BK348 := am (blk_grown (mvK BK348.out) hg (Kd.N_ne HO_9.out BK348.out (by decide))); replace HB := am (hb); have HO416 := am (ho); clear HO_9; clear HO_12; clear ho hb hg hat))
        (try simp only [← hl12_3])
        go_roundg k3
        case measure => have := HK1.out; have := HK2.out; have := HK3.out; omega
        case rel => exact ⟨(y414), (wrap64 (x41_2 + 1)), eqF, H', ⟨by have := HK1.out; have := HK2.out; have := HK3.out; omega⟩, ⟨by (try simp only [hl12_3]); (with_reducible repeat (first | apply Kd.N_alloc | apply Kd.N_drewN | apply Kd.N_drew)); exact Kd.N_mono HO_8.out (fun _ hk => ⟨hk.1.1, ⟨hk.2, ⟨hk.1.2.2.1, hk.1.2.2.2⟩⟩⟩)⟩, ⟨by (try simp only [hl12_3]); (with_reducible repeat (first | apply Kd.N_alloc | apply Kd.N_drewN | apply Kd.N_drew)); exact HO416.out⟩, ⟨by (try simp only [hl12_3]); (with_reducible repeat (first | refine blk_drewN ?_ _ | refine blk_drew ?_ | refine blk_alloc ?_ _)); exact BK347.out⟩, ⟨by (try simp only [hl12_3]); (with_reducible repeat (first | refine blk_drewN ?_ _ | refine blk_drew ?_ | refine blk_alloc ?_ _)); exact BK348.out⟩, ⟨mb HB.out⟩⟩
       rw [if_pos c78] at H
       have c78b0 := decide_eq_true c78
       clear c78
       replace H := ifD H; obtain ⟨c79b0, H⟩ := H
       replace H := ifD H; obtain ⟨c80b0, H⟩ := H
       replace H := nameA (x12_3.set (x49_3 : Int).toNat (wrap64 ((rd x12_3 x49_3) + 10))) (fun y413 => (impl_Game_figureOf.l302 k3 a1 t349 x8_1 x9_2 y413 t350 x41_2 (t409.length : Int) (wrap64 (x49_3 + 1)) l0_0 l0_1) = some (r1, r2)) H; obtain ⟨y413, Ny413, H⟩ := H
       have H' := Aside0.mk H
       clear H
       have p412 : 0 ≤ (x49_3 : Int) := odE
       have q412 : x49_3 < (x12_3.length : Int) := odE
       obtain ⟨ad412, e412, hx412_0⟩ := Kd.at_int (Kd.R_reads' HO_12.out).2.2 x49_3 p412 q412
       cases e412
       replace p412 := eq_true p412
       replace q412 := eq_true q412
       have p81 : 0 ≤ (x49_3 : Int) := odE
       have q81 : (x49_3 : Int) < ((x12_3.length : Int) : Int) := odE
       obtain ⟨go81, co81, eo81, gb81, gl81, cl81, HG81⟩ := Kd.R_form HO_12.out (by omega)
       (first | cases eo81 | (injection eo81 with ea_ en_ ec_; (first | subst ea_ | (injection ea_ with ea_; subst ea_)); subst ec_; clear en_))
       have GB81 := Aside0.mk gb81
       have GG81 := Aside0.mk HG81
       clear gb81 gl81 HG81
       (first | simp only [add_plain] at hx412_0 | skip)
       obtain ⟨hx81_0, hf81_0⟩ := Kd.R_celln 0 HO_12.out (x49_3 : Int) p81 q81
       replace p81 := eq_true p81
       replace q81 := eq_true q81
       have HP82 := Kd.R_putg HO_12.out (x49_3 : Int) (wrap64 ((rd x12_3 x49_3) + 10))
       go_wp2_with (first | ((with_reducible refine gate_store (t := 3) (p := 57) rfl ?_); refine store_event (t := 3) (p := 57) (v := ?vo_w83) (w1 := (wr.setCell ⟨go81, (x49_3 : Int).toNat, none⟩ (.int .i64 (wrap64 ((rd x12_3 x49_3) + 10))))) ?hg ?ho ?hn ?hr ?_; (case ho => rfl); (case hg => rfl); (case hn => rfl); (case hr => first | (go_simp; done) | (go_simp; rfl)); intro w83 hw; have hg : wr.grownBy w83 (some go81) := (by rw [hw]; exact HP82.2); have hp_ : Kd.R (Kd.int .i64) 3 w83 w.heap.size (fun k_ => (w.heap.size ≤ k_)) (.slice (some ⟨go81, 0, none⟩) x12_3.length co77) y413 := (by rw [hw, Ny413.out]; exact HP82.1); clear HP82; replace HO_8 := am (Kd.N_afterv (v := (.slice (some ⟨go81, 0, none⟩) x12_3.length co77)) (v1 := (.slice (some ⟨go81, 0, none⟩) x12_3.length co77)) (ok := (fun k_ => (w.heap.size ≤ k_) ∧ some k_ ≠ (u9 : Value).ownBlock ∧ k_ ≠ gb347 ∧ k_ ≠ gb348)) (Kd.N_mono (mvN HO_8.out) (fun _ hk => ⟨⟨hk.1, ⟨hk.2.1, ⟨hk.2.2.2.1, hk.2.2.2.2⟩⟩⟩, hk.2.2.1⟩)) hg (.inl rfl)); replace HO_9 := am (Kd.N_afterv (v := (.slice (some ⟨go81, 0, none⟩) x12_3.length co77)) (v1 := (.slice (some ⟨go81, 0, none⟩) x12_3.length co77)) (ok := (fun k_ => (w.heap.size ≤ k_) ∧ some k_ ≠ (u8 : Value).ownBlock ∧ k_ ≠ gb347 ∧ k_ ≠ gb348)) (Kd.N_mono (mvN HO_9.out) (fun _ hk => ⟨⟨hk.1, ⟨hk.2.1, ⟨hk.2.2.2.1, hk.2.2.2.2⟩⟩⟩, hk.2.2.1⟩)) hg (.inl rfl)); replace BK347 := am (blk_grown (mvK BK347.out) hg (Kd.R_ne HO_12.out BK347.out (by decide))); replace BK348 := am (blk_grown (mvK BK348.out) hg (Kd.R_ne HO_12.out BK348.out (by decide))); replace HO_12 := am (hp_); replace HB := am ((by rw [hw]; exact below_set (HB.out) GB81.out : Below w.heap.size w w83)); clear hg hw hp_))
       (try simp only [← hl12_3])
       go_roundg k3
       case measure => have := HK1.out; have := HK2.out; have := HK3.out; omega
       case rel => exact ⟨(y413), (wrap64 (x49_3 + 1)), eqF, H', ⟨by have := HK1.out; have := HK2.out; have := HK3.out; omega⟩, ⟨by (try simp only [hl12_3]); (with_reducible repeat (first | apply Kd.N_alloc | apply Kd.N_drewN | apply Kd.N_drew)); exact Kd.N_mono HO_8.out (fun _ hk => ⟨hk.1.1, ⟨hk.1.2.1, ⟨hk.2, ⟨hk.1.2.2.1, hk.1.2.2.2⟩⟩⟩⟩)⟩, ⟨by (try simp only [hl12_3]); (with_reducible repeat (first | apply Kd.N_alloc | apply Kd.N_drewN | apply Kd.N_drew)); exact Kd.N_mono HO_9.out (fun _ hk => ⟨hk.1.1, ⟨hk.1.2.1, ⟨hk.2, ⟨hk.1.2.2.1, hk.1.2.2.2⟩⟩⟩⟩)⟩, ⟨by (try simp only [hl12_3]); (with_reducible repeat (first | apply Kd.R_alloc | apply Kd.R_drewN | apply Kd.R_drew)); exact HO_12.out⟩, ⟨by (try simp only [hl12_3]); (with_reducible repeat (first | refine blk_drewN ?_ _ | refine blk_drew ?_ | refine blk_alloc ?_ _)); exact BK347.out⟩, ⟨by (try simp only [hl12_3]); (with_reducible repeat (first | refine blk_drewN ?_ _ | refine blk_drew ?_ | refine blk_alloc ?_ _)); exact BK348.out⟩, ⟨mb HB.out⟩⟩
end Go.Proofs.Ytggiicplcglalaa.All
