/- Part of the proof that the law FnExactLabelsOfCorner answers true for all arguments. -/
import Derived.Test.YtggiicplcglalaaQL12
import Derived.Test.YtggiicplcglalaaQL21
import Derived.Test.YtggiicplcglalaaQL24
section
namespace Go.Proofs.Ytggiicplcglalaa.All
open Go.RowKit Go.Proofs.YtggiicplcglalaaW.PrintWords Go.Proofs.YtggiicplcglalaaW.PrintLast Go.Proofs.YtggiicplcglalaaW.PrintMore
attribute [local go_sem] max2_int min2_int max_two min_two max_three min_three max_four min_four
set_option linter.unusedVariables false
set_option linter.unusedSimpArgs false
set_option maxHeartbeats 8000000
set_option maxRecDepth 100000
mutual
def spec_LabelsOfCorner.j0 : Nat → Int → List Int → Bool → List (List Int) → List (List Int) → Option (List Int × Bool)
 | 0, _, _, _, _, _ => none
 | k + 1, x1, x2, x17, x728000, x728001 => if x17 = true then (some (([] : List Int), false)) else ((spec_gmFigure.f k x728000 x728001 x1).bind fun t730 => ((spec_gmCorners.f k t730).bind fun t733 => (spec_LabelsOfCorner.l0 k x1 x2 t733 (t733.length : Int) 0 x728000 x728001)))
def spec_LabelsOfCorner.l0 : Nat → Int → List Int → List (List Int) → Int → Int → List (List Int) → List (List Int) → Option (List Int × Bool)
 | 0, _, _, _, _, _, _, _ => none
 | k + 1, x1, x2, x21, x22, x23, x728000, x728001 => if x23 < x22 then (if 0 ≤ x23 then (if x23 < (x21.length : Int) then ((spec_l1Same.f k (rd_L1 x21 x23) x2).bind fun t737 => (if t737 = true then ((spec_gmLabels.f k x728000 x728001 x1 (rd_L1 x21 x23)).bind fun t738 => (some (t738, true))) else (spec_LabelsOfCorner.l0 k x1 x2 x21 x22 (wrap64 (x23 + 1)) x728000 x728001))) else (none)) else (none)) else (some (([] : List Int), false))
end
def spec_LabelsOfCorner.f (k : Nat) (l0_0 : List (List Int)) (l0_1 : List (List Int)) (a1 : Int) (l2 : List Int) : Option (List Int × Bool) := (spec_gmGood.f k l0_0 l0_1).bind fun t728 => (if t728 = true then ((spec_gmPlayer.f a1).bind fun t729 => (spec_LabelsOfCorner.j0 k a1 l2 (!t729) l0_0 l0_1)) else (spec_LabelsOfCorner.j0 k a1 l2 true l0_0 l0_1))
theorem spec_LabelsOfCorner.mono_l : ∀ k, (∀ y0 y1 y2 y3 y4, LeO (spec_LabelsOfCorner.j0 k y0 y1 y2 y3 y4) (spec_LabelsOfCorner.j0 (k + 1) y0 y1 y2 y3 y4)) ∧ (∀ y0 y1 y2 y3 y4 y5 y6, LeO (spec_LabelsOfCorner.l0 k y0 y1 y2 y3 y4 y5 y6) (spec_LabelsOfCorner.l0 (k + 1) y0 y1 y2 y3 y4 y5 y6))
 | 0 => ⟨fun _ _ _ _ _ r h => by simp [spec_LabelsOfCorner.j0] at h, fun _ _ _ _ _ _ _ r h => by simp [spec_LabelsOfCorner.l0] at h⟩
 | k + 1 => by
  obtain ⟨ih0, ih1⟩ := spec_LabelsOfCorner.mono_l k
  refine ⟨?_, ?_⟩ <;> intros <;> (first | unfold spec_LabelsOfCorner.j0 | unfold spec_LabelsOfCorner.l0)
  all_goals repeat' first
  | (with_reducible exact ih0 ..)
  | (with_reducible exact ih1 ..)
  | (with_reducible exact spec_gmCorners.mono ..)
  | (with_reducible exact spec_gmFigure.mono ..)
  | (with_reducible exact spec_gmGood.mono ..)
  | (with_reducible exact spec_gmLabels.mono ..)
  | (with_reducible exact spec_l1Same.mono ..)
  | (with_reducible exact LeO.refl _)
  | (with_reducible exact LeO.none _)
  | (with_reducible refine LeO.ite ?_ ?_)
  | (with_reducible refine LeO.bind ?_ (fun _ => ?_))
theorem spec_LabelsOfCorner.mono : ∀ a0 a1 a2 a3 k, LeO (spec_LabelsOfCorner.f k a0 a1 a2 a3) (spec_LabelsOfCorner.f (k + 1) a0 a1 a2 a3) := by
 intro a0 a1 a2 a3 k
 obtain ⟨ih0, ih1⟩ := spec_LabelsOfCorner.mono_l k
 unfold spec_LabelsOfCorner.f
 repeat' first
   | (with_reducible exact ih0 ..)
   | (with_reducible exact ih1 ..)
   | (with_reducible exact spec_gmCorners.mono ..)
   | (with_reducible exact spec_gmFigure.mono ..)
   | (with_reducible exact spec_gmGood.mono ..)
   | (with_reducible exact spec_gmLabels.mono ..)
   | (with_reducible exact spec_l1Same.mono ..)
   | (with_reducible exact LeO.refl _)
   | (with_reducible exact LeO.none _)
   | (with_reducible refine LeO.ite ?_ ?_)
   | (with_reducible refine LeO.bind ?_ (fun _ => ?_))
theorem spec_LabelsOfCorner.calls (k : Nat) (A0_0 : Option Addr) (c0_0 : Nat) (l0_0 : List (List Int)) (A0_1 : Option Addr) (c0_1 : Nat) (l0_1 : List (List Int)) (a1 : Int) (A2 : Option Addr) (c2 : Nat) (l2 : List Int) (r1 : List Int) (r2 : Bool) (w : World) (hr0_0 : Kd.C (Kd.slice 3 (Kd.int .i64)) w A0_0 l0_0.length l0_0) (hc0_0 : l0_0.length ≤ c0_0) (hr0_1 : Kd.C (Kd.slice 3 (Kd.int .i64)) w A0_1 l0_1.length l0_1) (hc0_1 : l0_1.length ≤ c0_1) (hr2 : Kd.C (Kd.int .i64) w A2 l2.length l2) (hc2 : l2.length ≤ c2) (h : spec_LabelsOfCorner.f k l0_0 l0_1 a1 l2 = some (r1, r2)) :
  Calls Try.prog 17 #[.agg #[.slice A0_0 l0_0.length c0_0, .slice A0_1 l0_1.length c0_1], .int .i64 a1, .slice A2 l2.length c2] w fun e w' => ∃ v0_ : Value, e = .returned (.tuple #[v0_, .bool r2]) ∧ Kd.R (Kd.int .i64) 3 w' w.heap.size (fun _ => True) v0_ r1 ∧ Below w.heap.size w w' := by
 have hu28 := Try.underlying28
 have HR0_0 := Aside0.mk hr0_0
 have HC0_0 := Aside0.mk hc0_0
 clear hr0_0 hc0_0
 have HR0_1 := Aside0.mk hr0_1
 have HC0_1 := Aside0.mk hc0_1
 clear hr0_1 hc0_1
 have HR2 := Aside0.mk hr2
 have HC2 := Aside0.mk hc2
 clear hr2 hc2
 have HB := Aside0.mk (Below.refl w.heap.size w)
 have H : ((spec_gmGood.f k l0_0 l0_1).bind fun t728 => (if t728 = true then ((spec_gmPlayer.f a1).bind fun t729 => (spec_LabelsOfCorner.j0 k a1 l2 (!t729) l0_0 l0_1)) else (spec_LabelsOfCorner.j0 k a1 l2 true l0_0 l0_1))) = some (r1, r2) := h
 clear h
 have HC4 := Aside0.mk H
 clear H
 go_enter Try.func17, Try.ntmps17
 go_upto_region 1 with (first | ((with_reducible refine gate_dst (N := 3) rfl ?_); refine bE 3 #[.slice A0_0 l0_0.length c0_0, .slice A0_1 l0_1.length c0_1] 28 ?_; intro gb727 hg w5 hbox hb; have BK727 := am (hbox); have GW727 := am ((by rw [hg]; exact (below_size (mb HB.out)) : w.heap.size ≤ gb727)); have GE727 := GW727; replace HB := am (below_step (mb HB.out) hb); clear hb hbox hg))
 (try simp only [Act.put, List.setIfInBounds_toArray, List.set_cons_zero, List.set_cons_succ])
 go_cut [17] (fun v17 wc => ∃ (kq : Nat) (x17_3 : Bool), v17 = .bool x17_3 ∧ Aside0 (spec_LabelsOfCorner.j0 kq a1 l2 x17_3 l0_0 l0_1 = some (r1, r2)) ∧ Aside0 (kq ≤ k) ∧ Aside0 (wc.heap[gb727]? = some (.cells #[(.slice A0_0 l0_0.length c0_0), (.slice A0_1 l0_1.length c0_1)] 28 (0, 0))) ∧ Aside0 (Below w.heap.size w wc))
 case first =>
  have H := HC4.out
  clear HC4
  replace H := bindA H; obtain ⟨t728, A6, H⟩ := H
  by_cases c7 : t728 = true
  rotate_left
  ·replace c7 := Bool.eq_false_iff.mpr c7
   subst c7
   replace H := ifF H
   have H' := Aside0.mk H
   clear H
   have hcz11_0 := cell0 BK727.out
   have hcz11_1 := cell1 BK727.out
   have hfz11_0 := blk_frozen BK727.out 0
   have hfz11_1 := blk_frozen BK727.out 1
   go_wp2_with (first | ((with_reducible refine gC 24 rfl ?_); refine gL 11 Try.func24 #[.agg #[.slice A0_0 l0_0.length c0_0, .slice A0_1 l0_1.length c0_1]] ?_; (with_reducible refine (spec_gmGood.calls k _ _ l0_0 _ _ l0_1 false _ ?side1 ?side2 ?side3 ?side4 A6.out).mono ?_); (case side1 => exact mvC (Kd.C_below HR0_0.out HB.out)); (case side2 => exact HC0_0.out); (case side3 => exact mvC (Kd.C_below HR0_1.out HB.out)); (case side4 => exact HC0_1.out); rintro e w12 ⟨rfl, hb⟩; refine ⟨_, rfl, ?_⟩; replace BK727 := am (blk_below (mvK BK727.out) hb); replace HB := am (below_step (mb HB.out) hb); (try clear hb)))
   go_meet
   case rel => exact ⟨_, (true), eqF, H', ⟨by first | omega | exact Nat.le_refl _⟩, ⟨mvK BK727.out⟩, ⟨mb HB.out⟩⟩
  subst c7
  replace H := ifT H
  replace H := bindA H; obtain ⟨t729, A8, H⟩ := H
  have H' := Aside0.mk H
  clear H
  have hcz9_0 := cell0 BK727.out
  have hcz9_1 := cell1 BK727.out
  have hfz9_0 := blk_frozen BK727.out 0
  have hfz9_1 := blk_frozen BK727.out 1
  go_wp2_with (first | ((with_reducible refine gC 24 rfl ?_); refine gL 11 Try.func24 #[.agg #[.slice A0_0 l0_0.length c0_0, .slice A0_1 l0_1.length c0_1]] ?_; (with_reducible refine (spec_gmGood.calls k _ _ l0_0 _ _ l0_1 true _ ?side1 ?side2 ?side3 ?side4 A6.out).mono ?_); (case side1 => exact mvC (Kd.C_below HR0_0.out HB.out)); (case side2 => exact HC0_0.out); (case side3 => exact mvC (Kd.C_below HR0_1.out HB.out)); (case side4 => exact HC0_1.out); rintro e w10 ⟨rfl, hb⟩; refine ⟨_, rfl, ?_⟩; replace BK727 := am (blk_below (mvK BK727.out) hb); replace HB := am (below_step (mb HB.out) hb); (try clear hb)) | (go_at_call 25; (with_reducible refine (spec_gmPlayer.calls a1 t729 _ A8.out).mono ?_); rintro e w' ⟨rfl, ⟨nd, rfl⟩⟩))
  go_meet
  case rel => exact ⟨_, (!t729), eqF, H', ⟨by first | omega | exact Nat.le_refl _⟩, ⟨mvK BK727.out⟩, ⟨mb HB.out⟩⟩
 case rest =>
  clear HC4
  obtain ⟨kq, x17_3, rfl, HA, HJ3, BK727, HB⟩ := hcut
  cases kq with
  | zero => exact absurd HA.out (by simp [spec_LabelsOfCorner.j0])
  | succ kj3 =>
   have H := HA.out
   clear HA
   simp only [spec_LabelsOfCorner.j0] at H
   by_cases c13 : x17_3 = true
   ·subst c13
    replace H := ifT H
    simp only [Option.some.injEq, Prod.mk.injEq] at H
    obtain ⟨rfl, rfl⟩ := H
    go_wp2
    go_ret2
    exact ⟨_, eqE, nilE, mb HB.out⟩
   replace c13 := Bool.eq_false_iff.mpr c13
   subst c13
   replace H := ifF H
   replace H := bindA H; obtain ⟨t730, A14, H⟩ := H
   replace H := bindA H; obtain ⟨t733, A15, H⟩ := H
   have H' := Aside0.mk H
   clear H
   have hcz16_0 := cell0 BK727.out
   have hcz16_1 := cell1 BK727.out
   have hfz16_0 := blk_frozen BK727.out 0
   have hfz16_1 := blk_frozen BK727.out 1
   go_wp2_with (first | ((with_reducible refine gC 27 rfl ?_); refine gL 20 Try.func27 #[.agg #[.slice A0_0 l0_0.length c0_0, .slice A0_1 l0_1.length c0_1], .int .i64 a1] ?_; (with_reducible refine (spec_gmFigure.calls kj3 (fun k_ => k_ < w.heap.size) _ _ l0_0 _ _ l0_1 a1 t730 _ ?side1 ?side2 ?side3 A14.out).mono ?_); (case side1 => exact Kd.V_mk HC0_0.out (Kd.F_below (Kd.C_F (Kd.heap_slice 3 (Kd.heap_int .i64)) HR0_0.out) (mb HB.out))); (case side2 => exact mvC (Kd.C_below HR0_1.out HB.out)); (case side3 => exact HC0_1.out); rintro e w17 ⟨v731, rfl, ho0, hb⟩; refine ⟨_, rfl, ?_⟩; have HO732 := am (Kd.S_lower (Kd.S_mono (ok' := fun k_ => True) ho0 (fun _ hk_ => trivial)) (below_size (mb HB.out))); replace BK727 := am (blk_below (mvK BK727.out) hb); replace HB := am (below_step (mb HB.out) hb); (try clear hb ho0); obtain ⟨Ao18, co18, eo18⟩ := Kd.S_slice HO732.out; subst eo18) | ((with_reducible refine gC 26 rfl ?_); refine gL 21 Try.func26 #[.slice Ao18 t730.length co18] ?_; (with_reducible refine (spec_gmCorners.calls kj3 (fun k_ => (True ∧ k_ ≠ gb727)) _ _ t730 t733 _ ?side1 A15.out).mono ?_); (case side1 => exact Kd.S_V (Kd.S_types (HO732.out) BK727.out (by decide))); rintro e w19 ⟨v734, rfl, ho0, hb⟩; refine ⟨_, rfl, ?_⟩; replace HO732 := am (Kd.S_below (mvS HO732.out) hb); have HO735 := am (Kd.V_lower (Kd.V_mono (ok' := fun k_ => k_ ≠ gb727) ho0 (fun k_ hk_ => Or.elim hk_ (fun hs_ => hs_.2) (fun hn_ => (Kd.freshB (g := gb727) (o := .cells #[.slice A0_0 l0_0.length c0_0, .slice A0_1 l0_1.length c0_1] 28 (0, 0)) (mvK BK727.out) k_ hn_)))) (below_size (mb HB.out))); replace BK727 := am (blk_below (mvK BK727.out) hb); replace HB := am (below_step (mb HB.out) hb); (try clear hb ho0); obtain ⟨Ao20, co20, eo20⟩ := Kd.V_slice HO735.out; subst eo20))
   go_loopg [23] kj3 (fun kq v23 w' => ∃ (x23_2 : Int), v23 = .int .i64 x23_2 ∧ Aside0 (spec_LabelsOfCorner.l0 kq a1 l2 t733 (t733.length : Int) x23_2 l0_0 l0_1 = some (r1, r2)) ∧ Aside0 (kq ≤ kj3) ∧ Aside0 (Kd.V (Kd.slice 3 (Kd.int .i64)) 38 w' w.heap.size (fun k_ => k_ ≠ gb727) (.slice Ao20 t733.length co20) t733) ∧ Aside0 (w'.heap[gb727]? = some (.cells #[(.slice A0_0 l0_0.length c0_0), (.slice A0_1 l0_1.length c0_1)] 28 (0, 0))) ∧ Aside0 (Below w.heap.size w w'))
   case atStart => exact ⟨(0), eqF, H', ⟨Nat.le_refl _⟩, ⟨mvV HO735.out⟩, ⟨mvK BK727.out⟩, ⟨mb HB.out⟩⟩
   case round =>
    clear H'
    obtain ⟨x23_2, rfl, HA, HK2, HO_21, BK727, HB⟩ := hrel
    cases gk with
    | zero => exact absurd HA.out (by simp [spec_LabelsOfCorner.l0])
    | succ k2 =>
     have H := HA.out
     clear HA
     simp only [spec_LabelsOfCorner.l0] at H
     by_cases c21 : x23_2 < (t733.length : Int)
     rotate_left
     ·rw [if_neg c21] at H
      have c21b0 := decide_eq_false c21
      clear c21
      simp only [Option.some.injEq, Prod.mk.injEq] at H
      obtain ⟨rfl, rfl⟩ := H
      go_wp2
      go_ret2
      exact ⟨_, eqE, nilE, mb HB.out⟩
     rw [if_pos c21] at H
     have c21b0 := decide_eq_true c21
     clear c21
     replace H := ifD H; obtain ⟨c22b0, H⟩ := H
     replace H := ifD H; obtain ⟨c23b0, H⟩ := H
     replace H := bindA H; obtain ⟨t737, A24, H⟩ := H
     by_cases c25 : t737 = true
     rotate_left
     ·replace c25 := Bool.eq_false_iff.mpr c25
      subst c25
      replace H := ifF H
      have H' := Aside0.mk H
      clear H
      have p736 : 0 ≤ (x23_2 : Int) := odE
      have q736 : x23_2 < (t733.length : Int) := odE
      obtain ⟨ad736, A736_0, c736_0, e736, hx736_0, hl736_0, hi736_0⟩ := at_L1 (Kd.V_reads' HO_21.out).2.2 x23_2 p736 q736
      cases e736
      obtain ⟨ce736, hce736, hMe736, hcc736⟩ := Kd.V_get HO_21.out [] x23_2 p736 (by first | exact q736 | exact odE | (have e_ := (Kd.V_reads' HO_21.out).1; omega))
      obtain ⟨ua736_0, uc736_0, rfl, ul736_0, ge736_0⟩ := Kd.FK_slice_open hMe736
      have hv736_0 := hcc736 0 _ rfl
      rw [Nat.add_zero, show ((Kd.slice 3 (Kd.int .i64))).sz = 1 from rfl, Nat.mul_one] at hv736_0
      replace hv736_0 := Option.some.inj (hv736_0.symm.trans hx736_0)
      injection hv736_0 with hva_ hvn_ hvc_
      rw [hva_] at ge736_0
      rw [hvc_] at ul736_0
      have HL736_0 := Aside0.mk (show Kd.V (Kd.int .i64) 3 _ w.heap.size _ _ (rd_L1 t733 x23_2) from Kd.V_mk ul736_0 ge736_0)
      clear hva_ hvn_ hvc_ ge736_0 ul736_0
      clear hcc736 hce736
      have HR736_0 := Aside0.mk hi736_0
      have HC736_0 := Aside0.mk hl736_0
      clear hi736_0 hl736_0
      replace p736 := eq_true p736
      replace q736 := eq_true q736
      go_wp2_with (first | ((with_reducible refine gC 35 rfl ?_); refine gL 29 Try.func35 #[.slice A736_0 (rd_L1 t733 x23_2).length c736_0, .slice A2 l2.length c2] ?_; (with_reducible refine (spec_l1Same.calls k2 _ _ (rd_L1 t733 x23_2) _ _ l2 false _ ?side1 ?side2 ?side3 ?side4 A24.out).mono ?_); (case side1 => repeat (first | exact (by repeat (first | (with_reducible exact HR736_0.out) | (with_reducible refine Kd.C_alloc ?_ _) | (with_reducible refine Kd.C_drewN ?_ _) | (with_reducible refine Kd.C_drew ?_) | exact HR736_0.out)) | (with_reducible refine Kd.C_alloc ?_ _) | (with_reducible refine Kd.C_drewN ?_ _) | (with_reducible refine Kd.C_drew ?_))); (case side2 => exact HC736_0.out); (case side3 => exact mvC (Kd.C_below HR2.out HB.out)); (case side4 => exact HC2.out); rintro e w' ⟨rfl, ⟨nd, rfl⟩⟩; refine ⟨_, rfl, ?_⟩))
      go_roundg k2
      case measure => have := HJ3.out; have := HK2.out; omega
      case rel => exact ⟨(wrap64 (x23_2 + 1)), eqF, H', ⟨by have := HJ3.out; have := HK2.out; omega⟩, ⟨mvV HO_21.out⟩, ⟨mvK BK727.out⟩, ⟨mb HB.out⟩⟩
     subst c25
     replace H := ifT H
     replace H := bindA H; obtain ⟨t738, A26, H⟩ := H
     simp only [Option.some.injEq, Prod.mk.injEq] at H
     obtain ⟨rfl, rfl⟩ := H
     have p736 : 0 ≤ (x23_2 : Int) := odE
     have q736 : x23_2 < (t733.length : Int) := odE
     obtain ⟨ad736, A736_0, c736_0, e736, hx736_0, hl736_0, hi736_0⟩ := at_L1 (Kd.V_reads' HO_21.out).2.2 x23_2 p736 q736
     cases e736
     obtain ⟨ce736, hce736, hMe736, hcc736⟩ := Kd.V_get HO_21.out [] x23_2 p736 (by first | exact q736 | exact odE | (have e_ := (Kd.V_reads' HO_21.out).1; omega))
     obtain ⟨ua736_0, uc736_0, rfl, ul736_0, ge736_0⟩ := Kd.FK_slice_open hMe736
     have hv736_0 := hcc736 0 _ rfl
     rw [Nat.add_zero, show ((Kd.slice 3 (Kd.int .i64))).sz = 1 from rfl, Nat.mul_one] at hv736_0
     replace hv736_0 := Option.some.inj (hv736_0.symm.trans hx736_0)
     injection hv736_0 with hva_ hvn_ hvc_
     rw [hva_] at ge736_0
     rw [hvc_] at ul736_0
     have HL736_0 := Aside0.mk (show Kd.V (Kd.int .i64) 3 _ w.heap.size _ _ (rd_L1 t733 x23_2) from Kd.V_mk ul736_0 ge736_0)
     clear hva_ hvn_ hvc_ ge736_0 ul736_0
     clear hcc736 hce736
     have HR736_0 := Aside0.mk hi736_0
     have HC736_0 := Aside0.mk hl736_0
     clear hi736_0 hl736_0
     replace p736 := eq_true p736
     replace q736 := eq_true q736
     go_wp2_with (first | ((with_reducible refine gC 35 rfl ?_); refine gL 29 Try.func35 #[.slice A736_0 (rd_L1 t733 x23_2).length c736_0, .slice A2 l2.length c2] ?_; (with_reducible refine (spec_l1Same.calls k2 _ _ (rd_L1 t733 x23_2) _ _ l2 true _ ?side1 ?side2 ?side3 ?side4 A24.out).mono ?_); (case side1 => repeat (first | exact (by repeat (first | (with_reducible exact HR736_0.out) | (with_reducible refine Kd.C_alloc ?_ _) | (with_reducible refine Kd.C_drewN ?_ _) | (with_reducible refine Kd.C_drew ?_) | exact HR736_0.out)) | (with_reducible refine Kd.C_alloc ?_ _) | (with_reducible refine Kd.C_drewN ?_ _) | (with_reducible refine Kd.C_drew ?_))); (case side2 => exact HC736_0.out); (case side3 => exact mvC (Kd.C_below HR2.out HB.out)); (case side4 => exact HC2.out); rintro e w' ⟨rfl, ⟨nd, rfl⟩⟩; refine ⟨_, rfl, ?_⟩; have hcz27_0 := cell0 BK727.out; have hcz27_1 := cell1 BK727.out; have hfz27_0 := blk_frozen BK727.out 0; have hfz27_1 := blk_frozen BK727.out 1) | ((with_reducible refine gC 36 rfl ?_); refine gL 33 Try.func36 #[.agg #[.slice A0_0 l0_0.length c0_0, .slice A0_1 l0_1.length c0_1], .int .i64 a1, .slice A736_0 (rd_L1 t733 x23_2).length c736_0] ?_; (with_reducible refine (spec_gmLabels.calls k2 _ _ l0_0 _ _ l0_1 a1 _ _ (rd_L1 t733 x23_2) t738 _ ?side1 ?side2 ?side3 ?side4 ?side5 ?side6 A26.out).mono ?_); (case side1 => exact mvC (Kd.C_below HR0_0.out (mb HB.out))); (case side2 => exact HC0_0.out); (case side3 => exact mvC (Kd.C_below HR0_1.out (mb HB.out))); (case side4 => exact HC0_1.out); (case side5 => repeat (first | exact (by repeat (first | (with_reducible exact HR736_0.out) | (with_reducible refine Kd.C_alloc ?_ _) | (with_reducible refine Kd.C_drewN ?_ _) | (with_reducible refine Kd.C_drew ?_) | exact HR736_0.out)) | (with_reducible refine Kd.C_alloc ?_ _) | (with_reducible refine Kd.C_drewN ?_ _) | (with_reducible refine Kd.C_drew ?_))); (case side6 => exact HC736_0.out); rintro e w28 ⟨v739, rfl, ho0, hb⟩; refine ⟨_, rfl, ?_⟩; replace HO_21 := am (Kd.V_elder' (mvV HO_21.out) (Kd.R_base ho0) hb); replace HL736_0 := am (Kd.V_elder' (mvV HL736_0.out) (Kd.R_base ho0) hb); have HO740 := am (Kd.R_lower ho0 (below_size (mb HB.out))); replace BK727 := am (blk_below (mvK BK727.out) hb); replace HR736_0 := am (Kd.C_below (by repeat (first | (with_reducible exact HR736_0.out) | (with_reducible refine Kd.C_alloc ?_ _) | (with_reducible refine Kd.C_drewN ?_ _) | (with_reducible refine Kd.C_drew ?_) | exact HR736_0.out)) hb); replace HB := am (below_step (mb HB.out) hb); (try clear hb ho0)))
     go_ret2
     exact ⟨_, eqE, mvR HO740.out, mb HB.out⟩
def impl_hasRow.f (l : List (List Int)) (p : List Int) : Option Bool := some ((List.range' 0 l.length).any fun j => decide (l.getD j [] = p))
theorem labels1_calls (A : Option Addr) (c : Nat) (x : List Int) (G : Nat) (A1 : Option Addr) (c1 : Nat) (p : List Int) (w W : World) (hb : Below w.heap.size w W) (hx : w.cell? ⟨G, 0, none⟩ = some (.slice A1 p.length c1)) (hp : Kd.C (Kd.int .i64) w A1 p.length p) (hc : p.length ≤ c1) (hl : x.length ≤ c) (hr : Kd.C (Kd.int .i64) w A x.length x) :
  Calls Try.prog 38 #[.slice A x.length c, .pointer (some ⟨G, 0, none⟩)] W fun e w' => e = .returned (.bool (decide (x = p))) ∧ Below w.heap.size w w' := by
 have hx' := (hb.cell (World.block_lt_of_cell? w _ hx)).trans hx
 have HB := Aside0.mk hb
 have hcon := fun (W1 : World) (hb1 : Below w.heap.size w W1) => slices_Equal_int_int.calls (x.length + 1) A c x A1 c1 p (decide (x = p)) W1 (Kd.C_below hr hb1) hl (Kd.C_below hp hb1) hc (equal_is x p hr.2.1)
 have HK := Aside0.mk hcon
 clear hx hp hc hl hr hb hcon
 go_enter Try.func38, Try.ntmps38
 go_wp2_with (go_at_call 39; refine (HK.out _ (mb HB.out)).mono ?_; rintro e w' ⟨rfl, ⟨nd, rfl⟩⟩)
 go_ret
 exact ⟨rfl, mb HB.out⟩
theorem impl_hasRow.calls (A0 : Option Addr) (c0 : Nat) (l0 : List (List Int)) (G : Nat) (A1 : Option Addr) (c1 : Nat) (p : List Int) (r : Bool) (w : World) (hr0 : Kd.C (Kd.slice 3 (Kd.int .i64)) w A0 l0.length l0) (hc0 : l0.length ≤ c0) (hx : w.cell? ⟨G, 0, none⟩ = some (.slice A1 p.length c1)) (hp : Kd.C (Kd.int .i64) w A1 p.length p) (hc : p.length ≤ c1) (h : impl_hasRow.f l0 p = some r) :
  Calls Try.prog 37 #[.slice A0 l0.length c0, .func (.func 38) #[] #[.pointer (some ⟨G, 0, none⟩)]] w fun e w' => e = .returned (.bool r) ∧ Below w.heap.size w w' := by
 obtain rfl := Option.some.inj h
 obtain ⟨q1, q2⟩ := rows_at hr0
 refine containsFuncR 38 #[.pointer (some ⟨G, 0, none⟩)] (enters_of Try.func38 (by kernel_rfl) rfl) _ _ A0 l0.length c0 w ?_ hr0.2.1 q1
 intro j hj W2 hb2
 obtain ⟨A', c', e1, l1, r1⟩ := q2 j hj
 rw [e1]
 exact labels1_calls A' c' (l0.getD j []) G A1 c1 p w W2 hb2 hx hp hc l1 r1
end Go.Proofs.Ytggiicplcglalaa.All
end
section
namespace Go.Proofs.Ytggiicplcglalaa.All
open Go.RowKit Go.Proofs.YtggiicplcglalaaW.PrintWords Go.Proofs.YtggiicplcglalaaW.PrintLast Go.Proofs.YtggiicplcglalaaW.PrintMore
attribute [local go_sem] max2_int min2_int max_two min_two max_three min_three max_four min_four
set_option linter.unusedVariables false
set_option linter.unusedSimpArgs false
mutual
def spec_gmRegular.l0 : Nat → Int → List (List Int) → List (List Int) → Option (Bool)
 | 0, _, _, _ => none
 | k + 1, x3, x664000, x664001 => if x3 ≤ 2 then ((spec_gmFigure.f k x664000 x664001 x3).bind fun t664 => ((spec_gmCorners.f k t664).bind fun t667 => (spec_gmRegular.l1 k x3 t667 (t667.length : Int) 0 x664000 x664001))) else (some true)
def spec_gmRegular.l1 : Nat → Int → List (List Int) → Int → Int → List (List Int) → List (List Int) → Option (Bool)
 | 0, _, _, _, _, _, _ => none
 | k + 1, x3, x13, x14, x15, x664000, x664001 => if x15 < x14 then (if 0 ≤ x15 then (if x15 < (x13.length : Int) then ((spec_gmLabels.f k x664000 x664001 x3 (rd_L1 x13 x15)).bind fun t671 => (if (t671.length : Int) > (wrap64 (((rd_L1 x13 x15).length : Int) - 1)) then (some false) else (spec_gmRegular.l1 k x3 x13 x14 (wrap64 (x15 + 1)) x664000 x664001))) else (none)) else (none)) else (spec_gmRegular.l0 k (wrap64 (x3 + 1)) x664000 x664001)
end
def spec_gmRegular.f (k : Nat) (l0_0 : List (List Int)) (l0_1 : List (List Int)) : Option (Bool) := spec_gmRegular.l0 k 1 l0_0 l0_1
theorem spec_gmRegular.mono_l : ∀ k, (∀ y0 y1 y2, LeO (spec_gmRegular.l0 k y0 y1 y2) (spec_gmRegular.l0 (k + 1) y0 y1 y2)) ∧ (∀ y0 y1 y2 y3 y4 y5, LeO (spec_gmRegular.l1 k y0 y1 y2 y3 y4 y5) (spec_gmRegular.l1 (k + 1) y0 y1 y2 y3 y4 y5))
 | 0 => ⟨fun _ _ _ r h => by simp [spec_gmRegular.l0] at h, fun _ _ _ _ _ _ r h => by simp [spec_gmRegular.l1] at h⟩
 | k + 1 => by
  obtain ⟨ih0, ih1⟩ := spec_gmRegular.mono_l k
  refine ⟨?_, ?_⟩ <;> intros <;> (first | unfold spec_gmRegular.l0 | unfold spec_gmRegular.l1)
  all_goals repeat' first
  | (with_reducible exact ih0 ..)
  | (with_reducible exact ih1 ..)
  | (with_reducible exact spec_gmCorners.mono ..)
  | (with_reducible exact spec_gmFigure.mono ..)
  | (with_reducible exact spec_gmLabels.mono ..)
  | (with_reducible exact LeO.refl _)
  | (with_reducible exact LeO.none _)
  | (with_reducible refine LeO.ite ?_ ?_)
  | (with_reducible refine LeO.bind ?_ (fun _ => ?_))
theorem spec_gmRegular.mono : ∀ a0 a1 k, LeO (spec_gmRegular.f k a0 a1) (spec_gmRegular.f (k + 1) a0 a1) := by
 intro a0 a1 k
 obtain ⟨ih0, ih1⟩ := spec_gmRegular.mono_l k
 unfold spec_gmRegular.f
 repeat' first
   | (with_reducible exact ih0 ..)
   | (with_reducible exact ih1 ..)
   | (with_reducible exact spec_gmCorners.mono ..)
   | (with_reducible exact spec_gmFigure.mono ..)
   | (with_reducible exact spec_gmLabels.mono ..)
   | (with_reducible exact LeO.refl _)
   | (with_reducible exact LeO.none _)
   | (with_reducible refine LeO.ite ?_ ?_)
   | (with_reducible refine LeO.bind ?_ (fun _ => ?_))
def spec_IsRegularGame.f (k : Nat) (l0_0 : List (List Int)) (l0_1 : List (List Int)) : Option (Bool × Bool) := (spec_gmGood.f k l0_0 l0_1).bind fun t675 => (if t675 = true then ((spec_gmRegular.f k l0_0 l0_1).bind fun t676 => (some (t676, true))) else (some (false, false)))
theorem spec_IsRegularGame.mono : ∀ a0 a1 k, LeO (spec_IsRegularGame.f k a0 a1) (spec_IsRegularGame.f (k + 1) a0 a1) := by
 intro a0 a1 k
 unfold spec_IsRegularGame.f
 repeat' first
   | (with_reducible exact spec_gmGood.mono ..)
   | (with_reducible exact spec_gmRegular.mono ..)
   | (with_reducible exact LeO.refl _)
   | (with_reducible exact LeO.none _)
   | (with_reducible refine LeO.ite ?_ ?_)
   | (with_reducible refine LeO.bind ?_ (fun _ => ?_))
def impl_figure_labelsAt.l0 : Nat → List Int → List Int → List (S70) → Int → Int → Option (List Int)
 | 0, _, _, _, _, _ => none
 | k + 1, x1, x5, x10, x11, x12 => if x12 < x11 then (if 0 ≤ x12 then (if x12 < (x10.length : Int) then ((impl_condition_meets.f k ((rd_T70 x10 x12).f0) ((rd_T70 x10 x12).f1) ((rd_T70 x10 x12).f2) x1).bind fun t683 => (if t683 = 0 then (if x5.length < 17592186044416 then (impl_figure_labelsAt.l0 k x1 (x5 ++ [x12]) x10 x11 (wrap64 (x12 + 1))) else (none)) else (impl_figure_labelsAt.l0 k x1 x5 x10 x11 (wrap64 (x12 + 1))))) else (none)) else (none)) else (some x5)
def impl_figure_labelsAt.f (k : Nat) (a0_0 : Int) (l0_1 : List (S70)) (l1 : List Int) : Option (List Int) := impl_figure_labelsAt.l0 k l1 (([] : List Int)) l0_1 (l0_1.length : Int) 0
theorem impl_figure_labelsAt.mono_l : ∀ k, (∀ y0 y1 y2 y3 y4, LeO (impl_figure_labelsAt.l0 k y0 y1 y2 y3 y4) (impl_figure_labelsAt.l0 (k + 1) y0 y1 y2 y3 y4))
 | 0 => fun _ _ _ _ _ r h => by simp [impl_figure_labelsAt.l0] at h
 | k + 1 => by
  have ih0 := impl_figure_labelsAt.mono_l k
  ·intro y0 y1 y2 y3 y4
   unfold impl_figure_labelsAt.l0
   repeat' first
   | (with_reducible exact ih0 ..)
   | (with_reducible exact impl_condition_meets.mono ..)
   | (with_reducible exact LeO.refl _)
   | (with_reducible exact LeO.none _)
   | (with_reducible refine LeO.ite ?_ ?_)
   | (with_reducible refine LeO.bind ?_ (fun _ => ?_))
theorem impl_figure_labelsAt.mono : ∀ a0 a1 a2 k, LeO (impl_figure_labelsAt.f k a0 a1 a2) (impl_figure_labelsAt.f (k + 1) a0 a1 a2) := by
 intro a0 a1 a2 k
 have ih0 := impl_figure_labelsAt.mono_l k
 unfold impl_figure_labelsAt.f
 repeat' first
   | (with_reducible exact ih0 ..)
   | (with_reducible exact impl_condition_meets.mono ..)
   | (with_reducible exact LeO.refl _)
   | (with_reducible exact LeO.none _)
   | (with_reducible refine LeO.ite ?_ ?_)
   | (with_reducible refine LeO.bind ?_ (fun _ => ?_))
set_option maxHeartbeats 8000000 in
set_option maxRecDepth 100000 in
theorem impl_figure_labelsAt.calls (k : Nat) (a0_0 : Int) (A0_1 : Option Addr) (c0_1 : Nat) (l0_1 : List (S70)) (A1 : Option Addr) (c1 : Nat) (l1 : List Int) (r : List Int) (w : World) (hr0_1 : Kd.C k70 w A0_1 l0_1.length l0_1) (hc0_1 : l0_1.length ≤ c0_1) (hr1 : Kd.C (Kd.int .i64) w A1 l1.length l1) (hc1 : l1.length ≤ c1) (h : impl_figure_labelsAt.f k a0_0 l0_1 l1 = some r) :
  Calls Try.prog 40 #[.agg #[.int .i64 a0_0, .slice A0_1 l0_1.length c0_1], .slice A1 l1.length c1] w fun e w' => ∃ v0_ : Value, e = .returned (v0_) ∧ Kd.R (Kd.int .i64) 3 w' w.heap.size (fun _ => True) v0_ r ∧ Below w.heap.size w w' := by
 have hu51 := Try.underlying51
 have hu70 := Try.underlying70
 have HR0_1 := Aside0.mk hr0_1
 have HC0_1 := Aside0.mk hc0_1
 clear hr0_1 hc0_1
 have HR1 := Aside0.mk hr1
 have HC1 := Aside0.mk hc1
 clear hr1 hc1
 have HB := Aside0.mk (Below.refl w.heap.size w)
 have H : (impl_figure_labelsAt.l0 k l1 (([] : List Int)) l0_1 (l0_1.length : Int) 0) = some r := h
 clear h
 replace H := nameA (([] : List Int)) (fun y678 => (impl_figure_labelsAt.l0 k l1 y678 l0_1 (l0_1.length : Int) 0) = some r) H; obtain ⟨y678, Ny678, H⟩ := H
 have H' := Aside0.mk H
 clear H
 go_enter Try.func40, Try.ntmps40
 go_wp2_with (first | ((with_reducible refine gate_dst (N := 2) rfl ?_); refine bE 2 #[.int .i64 a0_0, .slice A0_1 l0_1.length c0_1] 51 ?_; intro gb677 hg w3 hbox hb; have BK677 := am (hbox); have GW677 := am ((by rw [hg]; exact (below_size (mb HB.out)) : w.heap.size ≤ gb677)); have GE677 := GW677; replace HB := am (below_step (mb HB.out) hb); clear hb hbox hg) | ((with_reducible refine gate_dst (N := 8) rfl ?_); refine Kd.R_lit (Kd.int .i64) _ 3 ?hg (N := 8) ?hd (xs := ([] : List Int)) (inner := []) (ok := fun _ => True) (okp := fun _ => True) ?hr ?hp (fun _ hk => hk) trivial (Below.refl _ _) (Nat.le_refl _) (by simp) ?_; (case hd => rfl); (case hg => rfl); (case hr => first | (go_simp; done) | (go_simp; rfl)); (case hp => exact (Reps.none _ _)); intro v679 w4 ho5 hb hg_ hnew_; clear hg_ hnew_; (first | rw [← Ny678.out] at ho5 | (simp only [Int.reduceToNat] at ho5; rw [← Ny678.out] at ho5)); have HO680 := am (Kd.R_lower ho5 (below_size (mb HB.out))); replace BK677 := am (blk_below (mvK BK677.out) hb); replace HB := am (below_step (mb HB.out) hb); clear hb ho5; have hcz6_0 := cell0 BK677.out; have hcz6_1 := cell1 BK677.out; have hfz6_0 := blk_frozen BK677.out 0; have hfz6_1 := blk_frozen BK677.out 1))
 go_loopg [5, 12] k (fun kq v5 v12 w' => ∃ (x5_1 : List Int) (x12_1 : Int), v12 = .int .i64 x12_1 ∧ Aside0 (impl_figure_labelsAt.l0 kq l1 x5_1 l0_1 (l0_1.length : Int) x12_1 = some r) ∧ Aside0 (kq ≤ k) ∧ Aside0 (Kd.R (Kd.int .i64) 3 w' w.heap.size (fun _ => True) v5 x5_1) ∧ Aside0 (w'.heap[gb677]? = some (.cells #[.int .i64 a0_0, (.slice A0_1 l0_1.length c0_1)] 51 (0, 0))) ∧ Aside0 (Below w.heap.size w w'))
 case atStart => exact ⟨(y678), (0), eqF, H', ⟨Nat.le_refl _⟩, ⟨mvR HO680.out⟩, ⟨mvK BK677.out⟩, ⟨mb HB.out⟩⟩
 case round =>
  clear H'
  obtain ⟨x5_1, x12_1, rfl, HA, HK1, HO_5, BK677, HB⟩ := hrel
  cases gk with
  | zero => exact absurd HA.out (by simp [impl_figure_labelsAt.l0])
  | succ k1 =>
   have H := HA.out
   clear HA
   simp only [impl_figure_labelsAt.l0] at H
   by_cases c7 : x12_1 < (l0_1.length : Int)
   rotate_left
   ·rw [if_neg c7] at H
    have c7b0 := decide_eq_false c7
    clear c7
    obtain rfl := Option.some.inj H
    go_wp2
    go_ret
    exact ⟨_, eqE, mvR HO_5.out, mb HB.out⟩
   rw [if_pos c7] at H
   have c7b0 := decide_eq_true c7
   clear c7
   replace H := ifD H; obtain ⟨c8b0, H⟩ := H
   replace H := ifD H; obtain ⟨c9b0, H⟩ := H
   replace H := bindA H; obtain ⟨t683, A10, H⟩ := H
   by_cases c11 : t683 = 0
   rotate_left
   ·rw [if_neg c11] at H
    have c11b0 := neb1 c11
    have c11b1 := neb2 c11
    have H' := Aside0.mk H
    clear H
    have p681 : 0 ≤ (x12_1 : Int) := odE
    have q681 : x12_1 < (l0_1.length : Int) := odE
    obtain ⟨ad681, A681_0, c681_0, e681, hx681_0, hx681_1, hx681_2, hl681_0, hi681_0⟩ := at_T70 HR0_1.out x12_1 p681 q681
    cases e681
    replace hx681_0 := (HB.out.cell (World.block_lt_of_cell? w _ hx681_0)).trans hx681_0
    replace hx681_1 := (HB.out.cell (World.block_lt_of_cell? w _ hx681_1)).trans hx681_1
    replace hx681_2 := (HB.out.cell (World.block_lt_of_cell? w _ hx681_2)).trans hx681_2
    have HR681_0 := Aside0.mk hi681_0
    have HC681_0 := Aside0.mk hl681_0
    clear hi681_0 hl681_0
    replace p681 := eq_true p681
    replace q681 := eq_true q681
    go_wp2_with (first | ((with_reducible refine gate_dst (N := 7) rfl ?_); refine bE 7 #[.slice none 0 0, .int .i64 0, .bool false] 70 ?_; intro gb682 hg w18 hbox hb; replace HO_5 := am (Kd.R_below (mvR HO_5.out) hb); have BK682 := am (hbox); have GW682 := am ((by rw [hg]; exact (below_size (mb HB.out)) : w.heap.size ≤ gb682)); have GE682 := GW682; replace HB := am (below_step (mb HB.out) hb); have NB677_682 := am ((by rw [hg]; exact Nat.ne_of_lt (blk_lt (g := gb677) (o := .cells #[.int .i64 a0_0, .slice (some ad681) l0_1.length c0_1] 51 (0, 0)) (mvK BK677.out)) : gb677 ≠ gb682)); have NB682_677 := am ((by rw [hg]; exact Nat.ne_of_gt (blk_lt (g := gb677) (o := .cells #[.int .i64 a0_0, .slice (some ad681) l0_1.length c0_1] 51 (0, 0)) (mvK BK677.out)) : gb682 ≠ gb677)); replace BK677 := am (blk_below (mvK BK677.out) hb); clear hb hbox hg; have hnb19 := NB682_677.out; have hnc19 := NB677_682.out; have hcz20_0 := cell0 BK682.out; have hcz20_1 := cell1 BK682.out; have hcz20_2 := cell2 BK682.out; have hfz20_0 := blk_frozen BK682.out 0; have hfz20_1 := blk_frozen BK682.out 1; have hfz20_2 := blk_frozen BK682.out 2) | ((with_reducible refine gC 65 rfl ?_); refine gL 19 Try.func65 #[.agg #[.slice A681_0 ((rd_T70 l0_1 x12_1).f0).length c681_0, .int .i64 ((rd_T70 l0_1 x12_1).f1), .bool ((rd_T70 l0_1 x12_1).f2)], .slice A1 l1.length c1] ?_; (with_reducible refine (impl_condition_meets.calls k1 _ _ ((rd_T70 l0_1 x12_1).f0) ((rd_T70 l0_1 x12_1).f1) ((rd_T70 l0_1 x12_1).f2) _ _ l1 t683 _ ?side1 ?side2 ?side3 ?side4 A10.out).mono ?_); (case side1 => exact Kd.C_below HR681_0.out (mb HB.out)); (case side2 => exact HC681_0.out); (case side3 => exact Kd.C_below HR1.out (mb HB.out)); (case side4 => exact HC1.out); rintro e w21 ⟨rfl, hb⟩; refine ⟨_, rfl, ?_⟩; replace HO_5 := am (Kd.R_below (by (with_reducible repeat (first | apply Kd.R_alloc | apply Kd.R_drewN | apply Kd.R_drew)); exact (Kd.R_mono (Kd.R_far (p := ⟨gb682, 2, none⟩) (Kd.R_far (p := ⟨gb682, 1, none⟩) (Kd.R_far (p := ⟨gb682, 0, none⟩) (Kd.R_types HO_5.out BK682.out (by decide)) (fun _ hk => hk.2) (.slice A681_0 ((rd_T70 l0_1 x12_1).f0).length c681_0)) (fun _ hk => hk.2) (.int .i64 ((rd_T70 l0_1 x12_1).f1))) (fun _ hk => hk.2) (.bool ((rd_T70 l0_1 x12_1).f2))) (fun _ h_ => h_.1))) hb); replace BK677 := am (blk_below (g := gb677) (o := .cells #[.int .i64 a0_0, .slice (some ad681) l0_1.length c0_1] 51 (0, 0)) (by (with_reducible repeat (first | refine blk_drewN ?_ _ | refine blk_drew ?_ | refine blk_alloc ?_ _)); refine blk_far ?_ NB677_682.out _; (with_reducible repeat (first | refine blk_drewN ?_ _ | refine blk_drew ?_ | refine blk_alloc ?_ _)); refine blk_far ?_ NB677_682.out _; (with_reducible repeat (first | refine blk_drewN ?_ _ | refine blk_drew ?_ | refine blk_alloc ?_ _)); refine blk_far ?_ NB677_682.out _; (with_reducible repeat (first | refine blk_drewN ?_ _ | refine blk_drew ?_ | refine blk_alloc ?_ _)); exact BK677.out) hb); replace BK682 := am (blk_below (g := gb682) (o := .cells #[.slice A681_0 ((rd_T70 l0_1 x12_1).f0).length c681_0, .int .i64 ((rd_T70 l0_1 x12_1).f1), .bool ((rd_T70 l0_1 x12_1).f2)] 70 (0, 0)) (by (with_reducible repeat (first | refine blk_drewN ?_ _ | refine blk_drew ?_ | refine blk_alloc ?_ _)); refine blk_put (cs := #[.slice A681_0 ((rd_T70 l0_1 x12_1).f0).length c681_0, .int .i64 ((rd_T70 l0_1 x12_1).f1), .bool false]) ?_ 2 _ rfl; (with_reducible repeat (first | refine blk_drewN ?_ _ | refine blk_drew ?_ | refine blk_alloc ?_ _)); refine blk_put (cs := #[.slice A681_0 ((rd_T70 l0_1 x12_1).f0).length c681_0, .int .i64 0, .bool false]) ?_ 1 _ rfl; (with_reducible repeat (first | refine blk_drewN ?_ _ | refine blk_drew ?_ | refine blk_alloc ?_ _)); refine blk_put (cs := #[.slice none 0 0, .int .i64 0, .bool false]) ?_ 0 _ rfl; (with_reducible repeat (first | refine blk_drewN ?_ _ | refine blk_drew ?_ | refine blk_alloc ?_ _)); exact BK682.out) hb); replace HB := am (below_step (mb HB.out) hb); (try clear hb)))
    go_roundg k1
    case measure => have := HK1.out; omega
    case rel => exact ⟨(x5_1), (wrap64 (x12_1 + 1)), eqF, H', ⟨by have := HK1.out; omega⟩, ⟨mvR HO_5.out⟩, ⟨mvK BK677.out⟩, ⟨mb HB.out⟩⟩
   rw [if_pos c11] at H
   have c11b0 := eqb1 c11
   have c11b1 := eqb2 c11
   clear c11
   replace H := ifA H; obtain ⟨LMc12, H⟩ := H
   replace H := nameA (x5_1 ++ [x12_1]) (fun y684 => (impl_figure_labelsAt.l0 k1 l1 y684 l0_1 (l0_1.length : Int) (wrap64 (x12_1 + 1))) = some r) H; obtain ⟨y684, Ny684, H⟩ := H
   have H' := Aside0.mk H
   clear H
   have p681 : 0 ≤ (x12_1 : Int) := odE
   have q681 : x12_1 < (l0_1.length : Int) := odE
   obtain ⟨ad681, A681_0, c681_0, e681, hx681_0, hx681_1, hx681_2, hl681_0, hi681_0⟩ := at_T70 HR0_1.out x12_1 p681 q681
   cases e681
   replace hx681_0 := (HB.out.cell (World.block_lt_of_cell? w _ hx681_0)).trans hx681_0
   replace hx681_1 := (HB.out.cell (World.block_lt_of_cell? w _ hx681_1)).trans hx681_1
   replace hx681_2 := (HB.out.cell (World.block_lt_of_cell? w _ hx681_2)).trans hx681_2
   have HR681_0 := Aside0.mk hi681_0
   have HC681_0 := Aside0.mk hl681_0
   clear hi681_0 hl681_0
   replace p681 := eq_true p681
   replace q681 := eq_true q681
   go_wp2_with (first | ((with_reducible refine gate_dst (N := 7) rfl ?_); refine bE 7 #[.slice none 0 0, .int .i64 0, .bool false] 70 ?_; intro gb682 hg w13 hbox hb; replace HO_5 := am (Kd.R_below (mvR HO_5.out) hb); have BK682 := am (hbox); have GW682 := am ((by rw [hg]; exact (below_size (mb HB.out)) : w.heap.size ≤ gb682)); have GE682 := GW682; replace HB := am (below_step (mb HB.out) hb); have NB677_682 := am ((by rw [hg]; exact Nat.ne_of_lt (blk_lt (g := gb677) (o := .cells #[.int .i64 a0_0, .slice (some ad681) l0_1.length c0_1] 51 (0, 0)) (mvK BK677.out)) : gb677 ≠ gb682)); have NB682_677 := am ((by rw [hg]; exact Nat.ne_of_gt (blk_lt (g := gb677) (o := .cells #[.int .i64 a0_0, .slice (some ad681) l0_1.length c0_1] 51 (0, 0)) (mvK BK677.out)) : gb682 ≠ gb677)); replace BK677 := am (blk_below (mvK BK677.out) hb); clear hb hbox hg; have hnb14 := NB682_677.out; have hnc14 := NB677_682.out; have hcz15_0 := cell0 BK682.out; have hcz15_1 := cell1 BK682.out; have hcz15_2 := cell2 BK682.out; have hfz15_0 := blk_frozen BK682.out 0; have hfz15_1 := blk_frozen BK682.out 1; have hfz15_2 := blk_frozen BK682.out 2) | ((with_reducible refine gC 65 rfl ?_); refine gL 19 Try.func65 #[.agg #[.slice A681_0 ((rd_T70 l0_1 x12_1).f0).length c681_0, .int .i64 ((rd_T70 l0_1 x12_1).f1), .bool ((rd_T70 l0_1 x12_1).f2)], .slice A1 l1.length c1] ?_; (with_reducible refine (impl_condition_meets.calls k1 _ _ ((rd_T70 l0_1 x12_1).f0) ((rd_T70 l0_1 x12_1).f1) ((rd_T70 l0_1 x12_1).f2) _ _ l1 t683 _ ?side1 ?side2 ?side3 ?side4 A10.out).mono ?_); (case side1 => exact Kd.C_below HR681_0.out (mb HB.out)); (case side2 => exact HC681_0.out); (case side3 => exact Kd.C_below HR1.out (mb HB.out)); (case side4 => exact HC1.out); rintro e w16 ⟨rfl, hb⟩; refine ⟨_, rfl, ?_⟩; replace HO_5 := am (Kd.R_below (by (with_reducible repeat (first | apply Kd.R_alloc | apply Kd.R_drewN | apply Kd.R_drew)); exact (Kd.R_mono (Kd.R_far (p := ⟨gb682, 2, none⟩) (Kd.R_far (p := ⟨gb682, 1, none⟩) (Kd.R_far (p := ⟨gb682, 0, none⟩) (Kd.R_types HO_5.out BK682.out (by decide)) (fun _ hk => hk.2) (.slice A681_0 ((rd_T70 l0_1 x12_1).f0).length c681_0)) (fun _ hk => hk.2) (.int .i64 ((rd_T70 l0_1 x12_1).f1))) (fun _ hk => hk.2) (.bool ((rd_T70 l0_1 x12_1).f2))) (fun _ h_ => h_.1))) hb); replace BK677 := am (blk_below (g := gb677) (o := .cells #[.int .i64 a0_0, .slice (some ad681) l0_1.length c0_1] 51 (0, 0)) (by (with_reducible repeat (first | refine blk_drewN ?_ _ | refine blk_drew ?_ | refine blk_alloc ?_ _)); refine blk_far ?_ NB677_682.out _; (with_reducible repeat (first | refine blk_drewN ?_ _ | refine blk_drew ?_ | refine blk_alloc ?_ _)); refine blk_far ?_ NB677_682.out _; (with_reducible repeat (first | refine blk_drewN ?_ _ | refine blk_drew ?_ | refine blk_alloc ?_ _)); refine blk_far ?_ NB677_682.out _; (with_reducible repeat (first | refine blk_drewN ?_ _ | refine blk_drew ?_ | refine blk_alloc ?_ _)); exact BK677.out) hb); replace BK682 := am (blk_below (g := gb682) (o := .cells #[.slice A681_0 ((rd_T70 l0_1 x12_1).f0).length c681_0, .int .i64 ((rd_T70 l0_1 x12_1).f1), .bool ((rd_T70 l0_1 x12_1).f2)] 70 (0, 0)) (by (with_reducible repeat (first | refine blk_drewN ?_ _ | refine blk_drew ?_ | refine blk_alloc ?_ _)); refine blk_put (cs := #[.slice A681_0 ((rd_T70 l0_1 x12_1).f0).length c681_0, .int .i64 ((rd_T70 l0_1 x12_1).f1), .bool false]) ?_ 2 _ rfl; (with_reducible repeat (first | refine blk_drewN ?_ _ | refine blk_drew ?_ | refine blk_alloc ?_ _)); refine blk_put (cs := #[.slice A681_0 ((rd_T70 l0_1 x12_1).f0).length c681_0, .int .i64 0, .bool false]) ?_ 1 _ rfl; (with_reducible repeat (first | refine blk_drewN ?_ _ | refine blk_drew ?_ | refine blk_alloc ?_ _)); refine blk_put (cs := #[.slice none 0 0, .int .i64 0, .bool false]) ?_ 0 _ rfl; (with_reducible repeat (first | refine blk_drewN ?_ _ | refine blk_drew ?_ | refine blk_alloc ?_ _)); exact BK682.out) hb); replace HB := am (below_step (mb HB.out) hb); (try clear hb)) | ((with_reducible refine gate_builtin (b := .append) (xs := #[.tmp 21, .tmp 23]) rfl ?_); at_builtin; refine Kd.R_append (Kd.int .i64) (w0 := w) w.heap.size rfl (.tmp 21) (.tmp 23) 38 3 (.int .i64 0) 8 rfl Try.underlying38 info3 rfl (by decide) (by omega) u5 x5_1 x12_1 [.int .i64 x12_1] (fun _ => True) (fun _ => False) rfl rfl ?aP (fun _ hk => hk.elim) ?aF ?aO ?aB ?aS ?aL ?_; (case aP => exact rfl); (case aB => exact (mb HB.out)); (case aF => exact (fun _ _ => trivial)); (case aO => exact (mvR HO_5.out)); (case aS => exact (below_size (mb HB.out))); (case aL => have := LMc12.out; omega); intro v685 w17 ho hb hg hat; rw [← Ny684.out] at ho; replace BK677 := am (blk_grown (mvK BK677.out) hg (Kd.R_ne HO_5.out BK677.out (by decide))); replace BK682 := am (blk_grown (mvK BK682.out) hg (Kd.R_ne HO_5.out BK682.out (by decide))); replace HB := am (hb); have HO686 := am (ho); clear HO_5; clear ho hb hg hat))
   go_roundg k1
   case measure => have := HK1.out; omega
   case rel => exact ⟨(y684), (wrap64 (x12_1 + 1)), eqF, H', ⟨by have := HK1.out; omega⟩, ⟨mvR HO686.out⟩, ⟨mvK BK677.out⟩, ⟨mb HB.out⟩⟩
end Go.Proofs.Ytggiicplcglalaa.All
end
