/- Part of the proof that the law FnExactIsRegularGame answers true for all arguments. -/
import Derived.Test.YtggiicplcglalaaQR10
import Derived.Test.YtggiicplcglalaaQR19
import Derived.Test.YtggiicplcglalaaQR25
namespace Go.Proofs.Ytggiicplcglalaa.All
open Go.RowKit Go.Proofs.YtggiicplcglalaaW.PrintWords Go.Proofs.YtggiicplcglalaaW.PrintLast Go.Proofs.YtggiicplcglalaaW.PrintMore
attribute [local go_sem] max2_int min2_int max_two min_two max_three min_three max_four min_four
set_option linter.unusedVariables false
set_option linter.unusedSimpArgs false
mutual
def spec_gmRegular.l0 : Nat → Int → List (List Int) → List (List Int) → Option (Bool)
 | 0, _, _, _ => none
 | k + 1, x3, x664000, x664001 => if x3 ≤ 2 then ((spec_gmFigure.f k x664000 x664001 x3).bind fun t664 => ((spec_gmCorners.f k t664).bind fun t667 => (spec_gmRegular.l1 k x3 t667 (t667.length : Int) 0 x664000 x664001))) else (some true)
def spec_gmRegular.l1 : Nat → Int → List (List Int) → Int → Int → List (List Int) → List (List Int) → Option (Bool)
 | 0, _, _, _, _, _, _ => none
 | k + 1, x3, x13, x14, x15, x664000, x664001 => if x15 < x14 then (if 0 ≤ x15 then (if x15 < (x13.length : Int) then ((spec_gmLabels.f k x664000 x664001 x3 (rd_L1 x13 x15)).bind fun t671 => (if (t671.length : Int) > (wrap64 (((rd_L1 x13 x15).length : Int) - 1)) then (some false) else (spec_gmRegular.l1 k x3 x13 x14 (wrap64 (x15 + 1)) x664000 x664001))) else (none)) else (none)) else (spec_gmRegular.l0 k (wrap64 (x3 + 1)) x664000 x664001)
end
def spec_gmRegular.f (k : Nat) (l0_0 : List (List Int)) (l0_1 : List (List Int)) : Option (Bool) := spec_gmRegular.l0 k 1 l0_0 l0_1
theorem spec_gmRegular.mono_l : ∀ k, (∀ y0 y1 y2, LeO (spec_gmRegular.l0 k y0 y1 y2) (spec_gmRegular.l0 (k + 1) y0 y1 y2)) ∧ (∀ y0 y1 y2 y3 y4 y5, LeO (spec_gmRegular.l1 k y0 y1 y2 y3 y4 y5) (spec_gmRegular.l1 (k + 1) y0 y1 y2 y3 y4 y5))
 | 0 => ⟨fun _ _ _ r h => by simp [spec_gmRegular.l0] at h, fun _ _ _ _ _ _ r h => by simp [spec_gmRegular.l1] at h⟩
 | k + 1 => by
  obtain ⟨ih0, ih1⟩ := spec_gmRegular.mono_l k
  refine ⟨?_, ?_⟩ <;> intros <;> (first | unfold spec_gmRegular.l0 | unfold spec_gmRegular.l1)
  all_goals repeat' first
  | (with_reducible exact ih0 ..)
  | (with_reducible exact ih1 ..)
  | (with_reducible exact spec_gmCorners.mono ..)
  | (with_reducible exact spec_gmFigure.mono ..)
  | (with_reducible exact spec_gmLabels.mono ..)
  | (with_reducible exact LeO.refl _)
  | (with_reducible exact LeO.none _)
  | (with_reducible refine LeO.ite ?_ ?_)
  | (with_reducible refine LeO.bind ?_ (fun _ => ?_))
  | exact ih0 ..
  | exact ih1 ..
  | exact spec_gmCorners.mono ..
  | exact spec_gmFigure.mono ..
  | exact spec_gmLabels.mono ..
  | exact LeO.none _
  | refine LeO.ite ?_ ?_
  | refine LeO.bind ?_ (fun _ => ?_)
theorem spec_gmRegular.mono : ∀ a0 a1 k, LeO (spec_gmRegular.f k a0 a1) (spec_gmRegular.f (k + 1) a0 a1) := by
 intro a0 a1 k
 obtain ⟨ih0, ih1⟩ := spec_gmRegular.mono_l k
 unfold spec_gmRegular.f
 repeat' first
   | (with_reducible exact ih0 ..)
   | (with_reducible exact ih1 ..)
   | (with_reducible exact spec_gmCorners.mono ..)
   | (with_reducible exact spec_gmFigure.mono ..)
   | (with_reducible exact spec_gmLabels.mono ..)
   | (with_reducible exact LeO.refl _)
   | (with_reducible exact LeO.none _)
   | (with_reducible refine LeO.ite ?_ ?_)
   | (with_reducible refine LeO.bind ?_ (fun _ => ?_))
   | exact ih0 ..
   | exact ih1 ..
   | exact spec_gmCorners.mono ..
   | exact spec_gmFigure.mono ..
   | exact spec_gmLabels.mono ..
   | exact LeO.none _
   | refine LeO.ite ?_ ?_
   | refine LeO.bind ?_ (fun _ => ?_)
set_option maxHeartbeats 8000000 in
set_option maxRecDepth 100000 in
theorem spec_gmRegular.calls (k : Nat) (A0_0 : Option Addr) (c0_0 : Nat) (l0_0 : List (List Int)) (A0_1 : Option Addr) (c0_1 : Nat) (l0_1 : List (List Int)) (r : Bool) (w : World) (hr0_0 : Kd.C (Kd.slice 3 (Kd.int .i64)) w A0_0 l0_0.length l0_0) (hc0_0 : l0_0.length ≤ c0_0) (hr0_1 : Kd.C (Kd.slice 3 (Kd.int .i64)) w A0_1 l0_1.length l0_1) (hc0_1 : l0_1.length ≤ c0_1) (h : spec_gmRegular.f k l0_0 l0_1 = some r) :
  Calls Try.prog 33 #[.agg #[.slice A0_0 l0_0.length c0_0, .slice A0_1 l0_1.length c0_1]] w fun e w' => e = .returned (.bool r) ∧ Below w.heap.size w w' := by
 have hu28 := Try.underlying28
 have HR0_0 := Aside0.mk hr0_0
 have HC0_0 := Aside0.mk hc0_0
 clear hr0_0 hc0_0
 have HR0_1 := Aside0.mk hr0_1
 have HC0_1 := Aside0.mk hc0_1
 clear hr0_1 hc0_1
 have HB := Aside0.mk (Below.refl w.heap.size w)
 have H : (spec_gmRegular.l0 k 1 l0_0 l0_1) = some r := h
 clear h
 have H' := Aside0.mk H
 clear H
 go_enter Try.func33, Try.ntmps33
 go_wp2_with (first | ((with_reducible refine gate_dst (N := 1) rfl ?_); refine box_event ?hg (N := 1) ?hd (cs := #[.slice A0_0 l0_0.length c0_0, .slice A0_1 l0_1.length c0_1]) (t := 28) ?hr ?_; (case hd => rfl); (case hg => rfl); (case hr => first | (go_simp; done) | (go_simp; rfl)); intro gb663 hg w2 hbox hb; have BK663 := am (hbox); have GW663 := am ((by rw [hg]; exact (below_size (mb HB.out)) : w.heap.size ≤ gb663)); have GE663 := am ((by rw [hg]; exact (below_size (mb HB.out)) : w.heap.size ≤ gb663)); replace HB := am (below_step (mb HB.out) hb); clear hb hbox hg))
 go_loopg [3] k (fun kq v3 w' => ∃ (x3_1 : Int), v3 = .int .i64 x3_1 ∧ Aside0 (spec_gmRegular.l0 kq x3_1 l0_0 l0_1 = some r) ∧ Aside0 (kq ≤ k) ∧ Aside0 (w'.heap[gb663]? = some (.cells #[(.slice A0_0 l0_0.length c0_0), (.slice A0_1 l0_1.length c0_1)] 28 (0, 0))) ∧ Aside0 (Below w.heap.size w w'))
 case atStart => exact ⟨(1), eqF, H', ⟨Nat.le_refl _⟩, ⟨mvK BK663.out⟩, ⟨mb HB.out⟩⟩
 case round =>
  clear H'
  obtain ⟨x3_1, rfl, HA, HK1, BK663, HB⟩ := hrel
  cases gk with
  | zero => exact absurd HA.out (by simp [spec_gmRegular.l0])
  | succ k1 =>
   have H := HA.out
   clear HA
   simp only [spec_gmRegular.l0] at H
   by_cases c3 : x3_1 ≤ 2
   ·rw [if_pos c3] at H
    have c3b0 := decide_eq_true c3
    clear c3
    replace H := bindA H; obtain ⟨t664, A4, H⟩ := H
    replace H := bindA H; obtain ⟨t667, A5, H⟩ := H
    have H' := Aside0.mk H
    clear H
    have hcz6_0 := cell0 BK663.out
    have hcz6_1 := cell1 BK663.out
    have hfz6_0 := blk_frozen BK663.out 0
    have hfz6_1 := blk_frozen BK663.out 1
    go_wp2_with (first | ((with_reducible refine gate_callee (f := 27) rfl ?_); refine goesL_ (some 12) rfl rfl Try.func27 (by kernel_rfl) rfl #[.agg #[.slice A0_0 l0_0.length c0_0, .slice A0_1 l0_1.length c0_1], .int .i64 x3_1] rfl szE ?_; (with_reducible refine (spec_gmFigure.calls k1 (fun k_ => k_ < w.heap.size) _ _ l0_0 _ _ l0_1 x3_1 t664 _ ?side1 ?side2 ?side3 A4.out).mono ?_); (case side1 => exact Kd.V_mk HC0_0.out (Kd.F_below (Kd.C_F (Kd.heap_slice 3 (Kd.heap_int .i64)) HR0_0.out) (mb HB.out))); (case side2 => exact mvC (Kd.C_below HR0_1.out HB.out)); (case side3 => exact HC0_1.out); rintro e w7 ⟨v665, rfl, ho0, hb⟩; refine ⟨_, rfl, ?_⟩; have HO666 := am (Kd.S_lower (Kd.S_mono (ok' := fun k_ => True) ho0 (fun _ hk_ => trivial)) (below_size (mb HB.out))); replace BK663 := am (blk_below (mvK BK663.out) hb); replace HB := am (below_step (mb HB.out) hb); (try clear hb); (try clear hb2); (try clear hk); (try clear hi); (try clear ho0); obtain ⟨Ao8, co8, eo8⟩ := Kd.S_slice HO666.out; subst eo8) | ((with_reducible refine gate_callee (f := 26) rfl ?_); refine goesL_ (some 13) rfl rfl Try.func26 (by kernel_rfl) rfl #[.slice Ao8 t664.length co8] rfl szE ?_; (with_reducible refine (spec_gmCorners.calls k1 (fun k_ => (True ∧ k_ ≠ gb663)) _ _ t664 t667 _ ?side1 A5.out).mono ?_); (case side1 => exact Kd.S_V (Kd.S_types (HO666.out) BK663.out (by decide))); rintro e w9 ⟨v668, rfl, ho0, hb⟩; refine ⟨_, rfl, ?_⟩; replace HO666 := am (Kd.S_below (mvS HO666.out) hb); have HO669 := am (Kd.V_lower (Kd.V_mono (ok' := fun k_ => k_ ≠ gb663) ho0 (fun k_ hk_ => Or.elim hk_ (fun hs_ => hs_.2) (fun hn_ => (Kd.freshB (g := gb663) (o := .cells #[.slice A0_0 l0_0.length c0_0, .slice A0_1 l0_1.length c0_1] 28 (0, 0)) (mvK BK663.out) k_ hn_)))) (below_size (mb HB.out))); replace BK663 := am (blk_below (mvK BK663.out) hb); replace HB := am (below_step (mb HB.out) hb); (try clear hb); (try clear hb2); (try clear hk); (try clear hi); (try clear ho0); obtain ⟨Ao10, co10, eo10⟩ := Kd.V_slice HO669.out; subst eo10))
    go_loopg [15] k1 (fun kq v15 w' => ∃ (x15_2 : Int), v15 = .int .i64 x15_2 ∧ Aside0 (spec_gmRegular.l1 kq x3_1 t667 (t667.length : Int) x15_2 l0_0 l0_1 = some r) ∧ Aside0 (kq ≤ k1) ∧ Aside0 (Kd.V (Kd.slice 3 (Kd.int .i64)) 38 w' w.heap.size (fun k_ => k_ ≠ gb663) (.slice Ao10 t667.length co10) t667) ∧ Aside0 (w'.heap[gb663]? = some (.cells #[(.slice A0_0 l0_0.length c0_0), (.slice A0_1 l0_1.length c0_1)] 28 (0, 0))) ∧ Aside0 (Below w.heap.size w w'))
    case atStart => exact ⟨(0), eqF, H', ⟨Nat.le_refl _⟩, ⟨mvV HO669.out⟩, ⟨mvK BK663.out⟩, ⟨mb HB.out⟩⟩
    case round =>
     clear H'
     obtain ⟨x15_2, rfl, HA, HK2, HO_13, BK663, HB⟩ := hrel
     cases gk with
     | zero => exact absurd HA.out (by simp [spec_gmRegular.l1])
     | succ k2 =>
      have H := HA.out
      clear HA
      simp only [spec_gmRegular.l1] at H
      by_cases c11 : x15_2 < (t667.length : Int)
      ·rw [if_pos c11] at H
       have c11b0 := decide_eq_true c11
       clear c11
       replace H := ifD H; obtain ⟨c12b0, H⟩ := H
       replace H := ifD H; obtain ⟨c13b0, H⟩ := H
       replace H := bindA H; obtain ⟨t671, A14, H⟩ := H
       by_cases c15 : (t671.length : Int) > (wrap64 (((rd_L1 t667 x15_2).length : Int) - 1))
       ·rw [if_pos c15] at H
        have c15b0 : decide ((wrap64 (((rd_L1 t667 x15_2).length : Int) - 1)) < (t671.length : Int)) = true := decide_eq_true c15
        clear c15
        obtain rfl := Option.some.inj H
        have p670 : 0 ≤ (x15_2 : Int) := odE
        have q670 : x15_2 < (t667.length : Int) := odE
        obtain ⟨ad670, A670_0, c670_0, e670, hx670_0, hl670_0, hi670_0⟩ := at_L1 (Kd.V_reads' HO_13.out).2.2 x15_2 p670 q670
        cases e670
        obtain ⟨ce670, hce670, hMe670, hcc670⟩ := Kd.V_get HO_13.out [] x15_2 p670 (by first | exact q670 | exact odE | (have e_ := (Kd.V_reads' HO_13.out).1; omega))
        obtain ⟨ua670_0, uc670_0, rfl, ul670_0, ge670_0⟩ := Kd.FK_slice_open hMe670
        have hv670_0 := hcc670 0 _ rfl
        rw [Nat.add_zero, show ((Kd.slice 3 (Kd.int .i64))).sz = 1 from rfl, Nat.mul_one] at hv670_0
        replace hv670_0 := Option.some.inj (hv670_0.symm.trans hx670_0)
        injection hv670_0 with hva_ hvn_ hvc_
        rw [hva_] at ge670_0
        rw [hvc_] at ul670_0
        have HL670_0 := Aside0.mk (show Kd.V (Kd.int .i64) 3 _ w.heap.size _ _ (rd_L1 t667 x15_2) from Kd.V_mk ul670_0 ge670_0)
        clear hva_ hvn_ hvc_ ge670_0 ul670_0
        clear hcc670 hce670
        have HR670_0 := Aside0.mk hi670_0
        have HC670_0 := Aside0.mk hl670_0
        clear hi670_0 hl670_0
        replace p670 := eq_true p670
        replace q670 := eq_true q670
        have hcz16_0 := cell0 BK663.out
        have hcz16_1 := cell1 BK663.out
        have hfz16_0 := blk_frozen BK663.out 0
        have hfz16_1 := blk_frozen BK663.out 1
        go_wp2_with (first | ((with_reducible refine gate_callee (f := 36) rfl ?_); refine goesL_ (some 22) rfl rfl Try.func36 (by kernel_rfl) rfl #[.agg #[.slice A0_0 l0_0.length c0_0, .slice A0_1 l0_1.length c0_1], .int .i64 x3_1, .slice A670_0 (rd_L1 t667 x15_2).length c670_0] rfl szE ?_; (with_reducible refine (spec_gmLabels.calls k2 _ _ l0_0 _ _ l0_1 x3_1 _ _ (rd_L1 t667 x15_2) t671 _ ?side1 ?side2 ?side3 ?side4 ?side5 ?side6 A14.out).mono ?_); (case side1 => exact mvC (Kd.C_below HR0_0.out HB.out)); (case side2 => exact HC0_0.out); (case side3 => exact mvC (Kd.C_below HR0_1.out HB.out)); (case side4 => exact HC0_1.out); (case side5 => repeat (first | exact (by repeat (first | (with_reducible exact HR670_0.out) | (with_reducible refine Kd.C_alloc ?_ _) | (with_reducible refine Kd.C_drewN ?_ _) | (with_reducible refine Kd.C_drew ?_) | exact HR670_0.out)) | (with_reducible refine Kd.C_alloc ?_ _) | (with_reducible refine Kd.C_drewN ?_ _) | (with_reducible refine Kd.C_drew ?_))); (case side6 => exact HC670_0.out); rintro e w17 ⟨v672, rfl, ho0, hb⟩; refine ⟨_, rfl, ?_⟩; replace HO_13 := am (Kd.V_elder' (mvV HO_13.out) (Kd.R_base ho0) hb); replace HL670_0 := am (Kd.V_elder' (mvV HL670_0.out) (Kd.R_base ho0) hb); have HO673 := am (Kd.R_lower ho0 (below_size (mb HB.out))); replace BK663 := am (blk_below (mvK BK663.out) hb); replace HR670_0 := am (Kd.C_below (by repeat (first | (with_reducible exact HR670_0.out) | (with_reducible refine Kd.C_alloc ?_ _) | (with_reducible refine Kd.C_drewN ?_ _) | (with_reducible refine Kd.C_drew ?_) | exact HR670_0.out)) hb); replace HB := am (below_step (mb HB.out) hb); (try clear hb); (try clear hb2); (try clear hk); (try clear hi); (try clear ho0); obtain ⟨Ao18, co18, eo18⟩ := Kd.R_slice HO673.out; subst eo18))
        go_ret
        exact ⟨eqE, mb HB.out⟩
       ·rw [if_neg c15] at H
        have c15b0 : decide ((wrap64 (((rd_L1 t667 x15_2).length : Int) - 1)) < (t671.length : Int)) = false := decide_eq_false c15
        clear c15
        have H' := Aside0.mk H
        clear H
        have p670 : 0 ≤ (x15_2 : Int) := odE
        have q670 : x15_2 < (t667.length : Int) := odE
        obtain ⟨ad670, A670_0, c670_0, e670, hx670_0, hl670_0, hi670_0⟩ := at_L1 (Kd.V_reads' HO_13.out).2.2 x15_2 p670 q670
        cases e670
        obtain ⟨ce670, hce670, hMe670, hcc670⟩ := Kd.V_get HO_13.out [] x15_2 p670 (by first | exact q670 | exact odE | (have e_ := (Kd.V_reads' HO_13.out).1; omega))
        obtain ⟨ua670_0, uc670_0, rfl, ul670_0, ge670_0⟩ := Kd.FK_slice_open hMe670
        have hv670_0 := hcc670 0 _ rfl
        rw [Nat.add_zero, show ((Kd.slice 3 (Kd.int .i64))).sz = 1 from rfl, Nat.mul_one] at hv670_0
        replace hv670_0 := Option.some.inj (hv670_0.symm.trans hx670_0)
        injection hv670_0 with hva_ hvn_ hvc_
        rw [hva_] at ge670_0
        rw [hvc_] at ul670_0
        have HL670_0 := Aside0.mk (show Kd.V (Kd.int .i64) 3 _ w.heap.size _ _ (rd_L1 t667 x15_2) from Kd.V_mk ul670_0 ge670_0)
        clear hva_ hvn_ hvc_ ge670_0 ul670_0
        clear hcc670 hce670
        have HR670_0 := Aside0.mk hi670_0
        have HC670_0 := Aside0.mk hl670_0
        clear hi670_0 hl670_0
        replace p670 := eq_true p670
        replace q670 := eq_true q670
        have hcz19_0 := cell0 BK663.out
        have hcz19_1 := cell1 BK663.out
        have hfz19_0 := blk_frozen BK663.out 0
        have hfz19_1 := blk_frozen BK663.out 1
        go_wp2_with (first | ((with_reducible refine gate_callee (f := 36) rfl ?_); refine goesL_ (some 22) rfl rfl Try.func36 (by kernel_rfl) rfl #[.agg #[.slice A0_0 l0_0.length c0_0, .slice A0_1 l0_1.length c0_1], .int .i64 x3_1, .slice A670_0 (rd_L1 t667 x15_2).length c670_0] rfl szE ?_; (with_reducible refine (spec_gmLabels.calls k2 _ _ l0_0 _ _ l0_1 x3_1 _ _ (rd_L1 t667 x15_2) t671 _ ?side1 ?side2 ?side3 ?side4 ?side5 ?side6 A14.out).mono ?_); (case side1 => exact mvC (Kd.C_below HR0_0.out HB.out)); (case side2 => exact HC0_0.out); (case side3 => exact mvC (Kd.C_below HR0_1.out HB.out)); (case side4 => exact HC0_1.out); (case side5 => repeat (first | exact (by repeat (first | (with_reducible exact HR670_0.out) | (with_reducible refine Kd.C_alloc ?_ _) | (with_reducible refine Kd.C_drewN ?_ _) | (with_reducible refine Kd.C_drew ?_) | exact HR670_0.out)) | (with_reducible refine Kd.C_alloc ?_ _) | (with_reducible refine Kd.C_drewN ?_ _) | (with_reducible refine Kd.C_drew ?_))); (case side6 => exact HC670_0.out); rintro e w20 ⟨v672, rfl, ho0, hb⟩; refine ⟨_, rfl, ?_⟩; replace HO_13 := am (Kd.V_elder' (mvV HO_13.out) (Kd.R_base ho0) hb); replace HL670_0 := am (Kd.V_elder' (mvV HL670_0.out) (Kd.R_base ho0) hb); have HO673 := am (Kd.R_lower ho0 (below_size (mb HB.out))); replace BK663 := am (blk_below (mvK BK663.out) hb); replace HR670_0 := am (Kd.C_below (by repeat (first | (with_reducible exact HR670_0.out) | (with_reducible refine Kd.C_alloc ?_ _) | (with_reducible refine Kd.C_drewN ?_ _) | (with_reducible refine Kd.C_drew ?_) | exact HR670_0.out)) hb); replace HB := am (below_step (mb HB.out) hb); (try clear hb); (try clear hb2); (try clear hk); (try clear hi); (try clear ho0); obtain ⟨Ao21, co21, eo21⟩ := Kd.R_slice HO673.out; subst eo21))
        go_roundg k2
        case measure => have := HK1.out; have := HK2.out; omega
        case rel => exact ⟨(wrap64 (x15_2 + 1)), eqF, H', ⟨by have := HK1.out; have := HK2.out; omega⟩, ⟨Kd.V_mono (mvV HO_13.out) (fun _ hk => hk.1)⟩, ⟨mvK BK663.out⟩, ⟨mb HB.out⟩⟩
      ·rw [if_neg c11] at H
       have c11b0 := decide_eq_false c11
       clear c11
       have H' := Aside0.mk H
       clear H
       go_wp2
       go_roundg k2
       case measure => have := HK1.out; have := HK2.out; omega
       case rel => exact ⟨(wrap64 (x3_1 + 1)), eqF, H', ⟨by have := HK1.out; have := HK2.out; omega⟩, ⟨mvK BK663.out⟩, ⟨mb HB.out⟩⟩
   ·rw [if_neg c3] at H
    have c3b0 := decide_eq_false c3
    clear c3
    obtain rfl := Option.some.inj H
    go_wp2
    go_ret
    exact ⟨eqE, mb HB.out⟩
def spec_IsRegularGame.f (k : Nat) (l0_0 : List (List Int)) (l0_1 : List (List Int)) : Option (Bool × Bool) := (spec_gmGood.f k l0_0 l0_1).bind fun t675 => (if t675 = true then ((spec_gmRegular.f k l0_0 l0_1).bind fun t676 => (some (t676, true))) else (some (false, false)))
theorem spec_IsRegularGame.mono : ∀ a0 a1 k, LeO (spec_IsRegularGame.f k a0 a1) (spec_IsRegularGame.f (k + 1) a0 a1) := by
 intro a0 a1 k
 unfold spec_IsRegularGame.f
 repeat' first
   | (with_reducible exact spec_gmGood.mono ..)
   | (with_reducible exact spec_gmRegular.mono ..)
   | (with_reducible exact LeO.refl _)
   | (with_reducible exact LeO.none _)
   | (with_reducible refine LeO.ite ?_ ?_)
   | (with_reducible refine LeO.bind ?_ (fun _ => ?_))
   | exact spec_gmGood.mono ..
   | exact spec_gmRegular.mono ..
   | exact LeO.none _
   | refine LeO.ite ?_ ?_
   | refine LeO.bind ?_ (fun _ => ?_)
set_option maxHeartbeats 8000000 in
set_option maxRecDepth 100000 in
theorem spec_IsRegularGame.calls (k : Nat) (A0_0 : Option Addr) (c0_0 : Nat) (l0_0 : List (List Int)) (A0_1 : Option Addr) (c0_1 : Nat) (l0_1 : List (List Int)) (r1 : Bool) (r2 : Bool) (w : World) (hr0_0 : Kd.C (Kd.slice 3 (Kd.int .i64)) w A0_0 l0_0.length l0_0) (hc0_0 : l0_0.length ≤ c0_0) (hr0_1 : Kd.C (Kd.slice 3 (Kd.int .i64)) w A0_1 l0_1.length l0_1) (hc0_1 : l0_1.length ≤ c0_1) (h : spec_IsRegularGame.f k l0_0 l0_1 = some (r1, r2)) :
  Calls Try.prog 15 #[.agg #[.slice A0_0 l0_0.length c0_0, .slice A0_1 l0_1.length c0_1]] w fun e w' => e = .returned (.tuple #[.bool r1, .bool r2]) ∧ Below w.heap.size w w' := by
 have hu28 := Try.underlying28
 have HR0_0 := Aside0.mk hr0_0
 have HC0_0 := Aside0.mk hc0_0
 clear hr0_0 hc0_0
 have HR0_1 := Aside0.mk hr0_1
 have HC0_1 := Aside0.mk hc0_1
 clear hr0_1 hc0_1
 have HB := Aside0.mk (Below.refl w.heap.size w)
 have H : ((spec_gmGood.f k l0_0 l0_1).bind fun t675 => (if t675 = true then ((spec_gmRegular.f k l0_0 l0_1).bind fun t676 => (some (t676, true))) else (some (false, false)))) = some (r1, r2) := h
 clear h
 replace H := bindA H; obtain ⟨t675, A2, H⟩ := H
 by_cases c3 : t675 = true
 ·subst c3
  have H1 : ((spec_gmRegular.f k l0_0 l0_1).bind fun t676 => (some (t676, true))) = some (r1, r2) := by rw [if_pos rfl] at H; first | exact H | (rw [if_pos trivial] at H; rw [if_pos rfl]; exact H)
  clear H
  have H := H1
  clear H1
  replace H := bindA H; obtain ⟨t676, A4, H⟩ := H
  simp only [Option.some.injEq, Prod.mk.injEq] at H
  obtain ⟨rfl, rfl⟩ := H
  go_enter Try.func15, Try.ntmps15
  go_wp2_with (first | ((with_reducible refine gate_dst (N := 1) rfl ?_); refine box_event ?hg (N := 1) ?hd (cs := #[.slice A0_0 l0_0.length c0_0, .slice A0_1 l0_1.length c0_1]) (t := 28) ?hr ?_; (case hd => rfl); (case hg => rfl); (case hr => first | (go_simp; done) | (go_simp; rfl)); intro gb674 hg w5 hbox hb; have BK674 := am (hbox); have GW674 := am ((by rw [hg]; exact (below_size (mb HB.out)) : w.heap.size ≤ gb674)); have GE674 := am ((by rw [hg]; exact (below_size (mb HB.out)) : w.heap.size ≤ gb674)); replace HB := am (below_step (mb HB.out) hb); clear hb hbox hg; have hcz6_0 := cell0 BK674.out; have hcz6_1 := cell1 BK674.out; have hfz6_0 := blk_frozen BK674.out 0; have hfz6_1 := blk_frozen BK674.out 1) | ((with_reducible refine gate_callee (f := 24) rfl ?_); refine goesL_ (some 5) rfl rfl Try.func24 (by kernel_rfl) rfl #[.agg #[.slice A0_0 l0_0.length c0_0, .slice A0_1 l0_1.length c0_1]] rfl szE ?_; (with_reducible refine (spec_gmGood.calls k _ _ l0_0 _ _ l0_1 true _ ?side1 ?side2 ?side3 ?side4 A2.out).mono ?_); (case side1 => exact mvC (Kd.C_below HR0_0.out HB.out)); (case side2 => exact HC0_0.out); (case side3 => exact mvC (Kd.C_below HR0_1.out HB.out)); (case side4 => exact HC0_1.out); rintro e w7 ⟨rfl, hb⟩; refine ⟨_, rfl, ?_⟩; replace BK674 := am (blk_below (mvK BK674.out) hb); replace HB := am (below_step (mb HB.out) hb); (try clear hb); (try clear hb2); (try clear hk); (try clear hi); have hcz8_0 := cell0 BK674.out; have hcz8_1 := cell1 BK674.out; have hfz8_0 := blk_frozen BK674.out 0; have hfz8_1 := blk_frozen BK674.out 1) | ((with_reducible refine gate_callee (f := 33) rfl ?_); refine goesL_ (some 8) rfl rfl Try.func33 (by kernel_rfl) rfl #[.agg #[.slice A0_0 l0_0.length c0_0, .slice A0_1 l0_1.length c0_1]] rfl szE ?_; (with_reducible refine (spec_gmRegular.calls k _ _ l0_0 _ _ l0_1 t676 _ ?side1 ?side2 ?side3 ?side4 A4.out).mono ?_); (case side1 => exact mvC (Kd.C_below HR0_0.out HB.out)); (case side2 => exact HC0_0.out); (case side3 => exact mvC (Kd.C_below HR0_1.out HB.out)); (case side4 => exact HC0_1.out); rintro e w9 ⟨rfl, hb⟩; refine ⟨_, rfl, ?_⟩; replace BK674 := am (blk_below (mvK BK674.out) hb); replace HB := am (below_step (mb HB.out) hb); (try clear hb); (try clear hb2); (try clear hk); (try clear hi)))
  go_ret2
  exact ⟨eqE, mb HB.out⟩
 ·replace c3 := Bool.eq_false_iff.mpr c3
  subst c3
  replace H : (some (false, false)) = some (r1, r2) := by rw [if_neg (show ¬ (false = true) by decide)] at H; exact H
  simp only [Option.some.injEq, Prod.mk.injEq] at H
  obtain ⟨rfl, rfl⟩ := H
  go_enter Try.func15, Try.ntmps15
  go_wp2_with (first | ((with_reducible refine gate_dst (N := 1) rfl ?_); refine box_event ?hg (N := 1) ?hd (cs := #[.slice A0_0 l0_0.length c0_0, .slice A0_1 l0_1.length c0_1]) (t := 28) ?hr ?_; (case hd => rfl); (case hg => rfl); (case hr => first | (go_simp; done) | (go_simp; rfl)); intro gb674 hg w10 hbox hb; have BK674 := am (hbox); have GW674 := am ((by rw [hg]; exact (below_size (mb HB.out)) : w.heap.size ≤ gb674)); have GE674 := am ((by rw [hg]; exact (below_size (mb HB.out)) : w.heap.size ≤ gb674)); replace HB := am (below_step (mb HB.out) hb); clear hb hbox hg; have hcz11_0 := cell0 BK674.out; have hcz11_1 := cell1 BK674.out; have hfz11_0 := blk_frozen BK674.out 0; have hfz11_1 := blk_frozen BK674.out 1) | ((with_reducible refine gate_callee (f := 24) rfl ?_); refine goesL_ (some 5) rfl rfl Try.func24 (by kernel_rfl) rfl #[.agg #[.slice A0_0 l0_0.length c0_0, .slice A0_1 l0_1.length c0_1]] rfl szE ?_; (with_reducible refine (spec_gmGood.calls k _ _ l0_0 _ _ l0_1 false _ ?side1 ?side2 ?side3 ?side4 A2.out).mono ?_); (case side1 => exact mvC (Kd.C_below HR0_0.out HB.out)); (case side2 => exact HC0_0.out); (case side3 => exact mvC (Kd.C_below HR0_1.out HB.out)); (case side4 => exact HC0_1.out); rintro e w12 ⟨rfl, hb⟩; refine ⟨_, rfl, ?_⟩; replace BK674 := am (blk_below (mvK BK674.out) hb); replace HB := am (below_step (mb HB.out) hb); (try clear hb); (try clear hb2); (try clear hk); (try clear hi)))
  go_ret2
  exact ⟨eqE, mb HB.out⟩
def impl_figure_labelsAt.l0 : Nat → List Int → List Int → List (S70) → Int → Int → Option (List Int)
 | 0, _, _, _, _, _ => none
 | k + 1, x1, x5, x10, x11, x12 => if x12 < x11 then (if 0 ≤ x12 then (if x12 < (x10.length : Int) then ((impl_condition_meets.f k ((rd_T70 x10 x12).f0) ((rd_T70 x10 x12).f1) ((rd_T70 x10 x12).f2) x1).bind fun t683 => (if t683 = 0 then (if x5.length < 17592186044416 then (impl_figure_labelsAt.l0 k x1 (x5 ++ [x12]) x10 x11 (wrap64 (x12 + 1))) else (none)) else (impl_figure_labelsAt.l0 k x1 x5 x10 x11 (wrap64 (x12 + 1))))) else (none)) else (none)) else (some x5)
def impl_figure_labelsAt.f (k : Nat) (a0_0 : Int) (l0_1 : List (S70)) (l1 : List Int) : Option (List Int) := impl_figure_labelsAt.l0 k l1 (([] : List Int)) l0_1 (l0_1.length : Int) 0
theorem impl_figure_labelsAt.mono_l : ∀ k, (∀ y0 y1 y2 y3 y4, LeO (impl_figure_labelsAt.l0 k y0 y1 y2 y3 y4) (impl_figure_labelsAt.l0 (k + 1) y0 y1 y2 y3 y4))
 | 0 => fun _ _ _ _ _ r h => by simp [impl_figure_labelsAt.l0] at h
 | k + 1 => by
  have ih0 := impl_figure_labelsAt.mono_l k
  ·intro y0 y1 y2 y3 y4
   unfold impl_figure_labelsAt.l0
   repeat' first
   | (with_reducible exact ih0 ..)
   | (with_reducible exact impl_condition_meets.mono ..)
   | (with_reducible exact LeO.refl _)
   | (with_reducible exact LeO.none _)
   | (with_reducible refine LeO.ite ?_ ?_)
   | (with_reducible refine LeO.bind ?_ (fun _ => ?_))
   | exact ih0 ..
   | exact impl_condition_meets.mono ..
   | exact LeO.none _
   | refine LeO.ite ?_ ?_
   | refine LeO.bind ?_ (fun _ => ?_)
theorem impl_figure_labelsAt.mono : ∀ a0 a1 a2 k, LeO (impl_figure_labelsAt.f k a0 a1 a2) (impl_figure_labelsAt.f (k + 1) a0 a1 a2) := by
 intro a0 a1 a2 k
 have ih0 := impl_figure_labelsAt.mono_l k
 unfold impl_figure_labelsAt.f
 repeat' first
   | (with_reducible exact ih0 ..)
   | (with_reducible exact impl_condition_meets.mono ..)
   | (with_reducible exact LeO.refl _)
   | (with_reducible exact LeO.none _)
   | (with_reducible refine LeO.ite ?_ ?_)
   | (with_reducible refine LeO.bind ?_ (fun _ => ?_))
   | exact ih0 ..
   | exact impl_condition_meets.mono ..
   | exact LeO.none _
   | refine LeO.ite ?_ ?_
   | refine LeO.bind ?_ (fun _ => ?_)
set_option maxHeartbeats 8000000 in
set_option maxRecDepth 100000 in
theorem impl_figure_labelsAt.calls (k : Nat) (a0_0 : Int) (A0_1 : Option Addr) (c0_1 : Nat) (l0_1 : List (S70)) (A1 : Option Addr) (c1 : Nat) (l1 : List Int) (r : List Int) (w : World) (hr0_1 : Kd.C k70 w A0_1 l0_1.length l0_1) (hc0_1 : l0_1.length ≤ c0_1) (hr1 : Kd.C (Kd.int .i64) w A1 l1.length l1) (hc1 : l1.length ≤ c1) (h : impl_figure_labelsAt.f k a0_0 l0_1 l1 = some r) :
  Calls Try.prog 40 #[.agg #[.int .i64 a0_0, .slice A0_1 l0_1.length c0_1], .slice A1 l1.length c1] w fun e w' => ∃ v0_ : Value, e = .returned (v0_) ∧ Kd.R (Kd.int .i64) 3 w' w.heap.size (fun _ => True) v0_ r ∧ Below w.heap.size w w' := by
 have hu51 := Try.underlying51
 have hu70 := Try.underlying70
 have HR0_1 := Aside0.mk hr0_1
 have HC0_1 := Aside0.mk hc0_1
 clear hr0_1 hc0_1
 have HR1 := Aside0.mk hr1
 have HC1 := Aside0.mk hc1
 clear hr1 hc1
 have HB := Aside0.mk (Below.refl w.heap.size w)
 have H : (impl_figure_labelsAt.l0 k l1 (([] : List Int)) l0_1 (l0_1.length : Int) 0) = some r := h
 clear h
 replace H := nameA (([] : List Int)) (fun y678 => (impl_figure_labelsAt.l0 k l1 y678 l0_1 (l0_1.length : Int) 0) = some r) H; obtain ⟨y678, Ny678, H⟩ := H
 have H' := Aside0.mk H
 clear H
 go_enter Try.func40, Try.ntmps40
 go_wp2_with (first | ((with_reducible refine gate_dst (N := 2) rfl ?_); refine box_event ?hg (N := 2) ?hd (cs := #[.int .i64 a0_0, .slice A0_1 l0_1.length c0_1]) (t := 51) ?hr ?_; (case hd => rfl); (case hg => rfl); (case hr => first | (go_simp; done) | (go_simp; rfl)); intro gb677 hg w3 hbox hb; have BK677 := am (hbox); have GW677 := am ((by rw [hg]; exact (below_size (mb HB.out)) : w.heap.size ≤ gb677)); have GE677 := am ((by rw [hg]; exact (below_size (mb HB.out)) : w.heap.size ≤ gb677)); replace HB := am (below_step (mb HB.out) hb); clear hb hbox hg) | ((with_reducible refine gate_dst (N := 8) rfl ?_); refine Kd.R_lit (Kd.int .i64) _ 3 ?hg (N := 8) ?hd (xs := ([] : List Int)) (inner := []) (ok := fun _ => True) (okp := fun _ => True) ?hr ?hp (fun _ hk => hk) trivial (Below.refl _ _) (Nat.le_refl _) (by simp) ?_; (case hd => rfl); (case hg => rfl); (case hr => first | (go_simp; done) | (go_simp; rfl)); (case hp => exact (Reps.none _ _)); intro v679 w4 ho5 hb hg_ hnew_; clear hg_ hnew_; (first | rw [← Ny678.out] at ho5 | (simp only [Int.reduceToNat] at ho5; rw [← Ny678.out] at ho5)); have HO680 := am (Kd.R_lower ho5 (below_size (mb HB.out))); replace BK677 := am (blk_below (mvK BK677.out) hb); replace HB := am (below_step (mb HB.out) hb); clear hb ho5; have hcz6_0 := cell0 BK677.out; have hcz6_1 := cell1 BK677.out; have hfz6_0 := blk_frozen BK677.out 0; have hfz6_1 := blk_frozen BK677.out 1))
 go_loopg [5, 12] k (fun kq v5 v12 w' => ∃ (x5_1 : List Int) (x12_1 : Int), v12 = .int .i64 x12_1 ∧ Aside0 (impl_figure_labelsAt.l0 kq l1 x5_1 l0_1 (l0_1.length : Int) x12_1 = some r) ∧ Aside0 (kq ≤ k) ∧ Aside0 (Kd.R (Kd.int .i64) 3 w' w.heap.size (fun _ => True) v5 x5_1) ∧ Aside0 (w'.heap[gb677]? = some (.cells #[.int .i64 a0_0, (.slice A0_1 l0_1.length c0_1)] 51 (0, 0))) ∧ Aside0 (Below w.heap.size w w'))
 case atStart => exact ⟨(y678), (0), eqF, H', ⟨Nat.le_refl _⟩, ⟨mvR HO680.out⟩, ⟨mvK BK677.out⟩, ⟨mb HB.out⟩⟩
 case round =>
  clear H'
  obtain ⟨x5_1, x12_1, rfl, HA, HK1, HO_5, BK677, HB⟩ := hrel
  cases gk with
  | zero => exact absurd HA.out (by simp [impl_figure_labelsAt.l0])
  | succ k1 =>
   have H := HA.out
   clear HA
   simp only [impl_figure_labelsAt.l0] at H
   by_cases c7 : x12_1 < (l0_1.length : Int)
   ·rw [if_pos c7] at H
    have c7b0 := decide_eq_true c7
    clear c7
    replace H := ifD H; obtain ⟨c8b0, H⟩ := H
    replace H := ifD H; obtain ⟨c9b0, H⟩ := H
    replace H := bindA H; obtain ⟨t683, A10, H⟩ := H
    by_cases c11 : t683 = 0
    ·rw [if_pos c11] at H
     have c11b0 := eqb1 c11
     have c11b1 := eqb2 c11
     clear c11
     replace H := ifA H; obtain ⟨LMc12, H⟩ := H
     replace H := nameA (x5_1 ++ [x12_1]) (fun y684 => (impl_figure_labelsAt.l0 k1 l1 y684 l0_1 (l0_1.length : Int) (wrap64 (x12_1 + 1))) = some r) H; obtain ⟨y684, Ny684, H⟩ := H
     have H' := Aside0.mk H
     clear H
     have p681 : 0 ≤ (x12_1 : Int) := odE
     have q681 : x12_1 < (l0_1.length : Int) := odE
     obtain ⟨ad681, A681_0, c681_0, e681, hx681_0, hx681_1, hx681_2, hl681_0, hi681_0⟩ := at_T70 HR0_1.out x12_1 p681 q681
     cases e681
     replace hx681_0 := (HB.out.cell (World.block_lt_of_cell? w _ hx681_0)).trans hx681_0
     replace hx681_1 := (HB.out.cell (World.block_lt_of_cell? w _ hx681_1)).trans hx681_1
     replace hx681_2 := (HB.out.cell (World.block_lt_of_cell? w _ hx681_2)).trans hx681_2
     have HR681_0 := Aside0.mk hi681_0
     have HC681_0 := Aside0.mk hl681_0
     clear hi681_0 hl681_0
     replace p681 := eq_true p681
     replace q681 := eq_true q681
     go_wp2_with (first | ((with_reducible refine gate_dst (N := 7) rfl ?_); refine box_event ?hg (N := 7) ?hd (cs := #[.slice none 0 0, .int .i64 0, .bool false]) (t := 70) ?hr ?_; (case hd => rfl); (case hg => rfl); (case hr => first | (go_simp; done) | (go_simp; rfl)); intro gb682 hg w13 hbox hb; replace HO_5 := am (Kd.R_below (mvR HO_5.out) hb); have BK682 := am (hbox); have GW682 := am ((by rw [hg]; exact (below_size (mb HB.out)) : w.heap.size ≤ gb682)); have GE682 := am ((by rw [hg]; exact (below_size (mb HB.out)) : w.heap.size ≤ gb682)); replace HB := am (below_step (mb HB.out) hb); have NB677_682 := am ((by rw [hg]; exact Nat.ne_of_lt (blk_lt (g := gb677) (o := .cells #[.int .i64 a0_0, .slice (some ad681) l0_1.length c0_1] 51 (0, 0)) (mvK BK677.out)) : gb677 ≠ gb682)); have NB682_677 := am ((by rw [hg]; exact Nat.ne_of_gt (blk_lt (g := gb677) (o := .cells #[.int .i64 a0_0, .slice (some ad681) l0_1.length c0_1] 51 (0, 0)) (mvK BK677.out)) : gb682 ≠ gb677)); replace BK677 := am (blk_below (mvK BK677.out) hb); clear hb hbox hg; have hnb14 := NB682_677.out; have hnc14 := NB677_682.out; have hcz15_0 := cell0 BK682.out; have hcz15_1 := cell1 BK682.out; have hcz15_2 := cell2 BK682.out; have hfz15_0 := blk_frozen BK682.out 0; have hfz15_1 := blk_frozen BK682.out 1; have hfz15_2 := blk_frozen BK682.out 2) | ((with_reducible refine gate_callee (f := 65) rfl ?_); refine goesL_ (some 19) rfl rfl Try.func65 (by kernel_rfl) rfl #[.agg #[.slice A681_0 ((rd_T70 l0_1 x12_1).f0).length c681_0, .int .i64 ((rd_T70 l0_1 x12_1).f1), .bool ((rd_T70 l0_1 x12_1).f2)], .slice A1 l1.length c1] rfl szE ?_; (with_reducible refine (impl_condition_meets.calls k1 _ _ ((rd_T70 l0_1 x12_1).f0) ((rd_T70 l0_1 x12_1).f1) ((rd_T70 l0_1 x12_1).f2) _ _ l1 t683 _ ?side1 ?side2 ?side3 ?side4 A10.out).mono ?_); (case side1 => exact Kd.C_below HR681_0.out (mb HB.out)); (case side2 => exact HC681_0.out); (case side3 => exact Kd.C_below HR1.out (mb HB.out)); (case side4 => exact HC1.out); rintro e w16 ⟨rfl, hb⟩; refine ⟨_, rfl, ?_⟩; replace HO_5 := am (Kd.R_below (by (with_reducible repeat (first | apply Kd.R_alloc | apply Kd.R_drewN | apply Kd.R_drew)); exact (Kd.R_mono (Kd.R_far (p := ⟨gb682, 2, none⟩) (Kd.R_far (p := ⟨gb682, 1, none⟩) (Kd.R_far (p := ⟨gb682, 0, none⟩) (Kd.R_types HO_5.out BK682.out (by decide)) (fun _ hk => hk.2) (.slice A681_0 ((rd_T70 l0_1 x12_1).f0).length c681_0)) (fun _ hk => hk.2) (.int .i64 ((rd_T70 l0_1 x12_1).f1))) (fun _ hk => hk.2) (.bool ((rd_T70 l0_1 x12_1).f2))) (fun _ h_ => h_.1))) hb); replace BK677 := am (blk_below (g := gb677) (o := .cells #[.int .i64 a0_0, .slice (some ad681) l0_1.length c0_1] 51 (0, 0)) (by (with_reducible repeat (first | refine blk_drewN ?_ _ | refine blk_drew ?_ | refine blk_alloc ?_ _)); refine blk_far ?_ NB677_682.out _; (with_reducible repeat (first | refine blk_drewN ?_ _ | refine blk_drew ?_ | refine blk_alloc ?_ _)); refine blk_far ?_ NB677_682.out _; (with_reducible repeat (first | refine blk_drewN ?_ _ | refine blk_drew ?_ | refine blk_alloc ?_ _)); refine blk_far ?_ NB677_682.out _; (with_reducible repeat (first | refine blk_drewN ?_ _ | refine blk_drew ?_ | refine blk_alloc ?_ _)); exact BK677.out) hb); replace BK682 := am (blk_below (g := gb682) (o := .cells #[.slice A681_0 ((rd_T70 l0_1 x12_1).f0).length c681_0, .int .i64 ((rd_T70 l0_1 x12_1).f1), .bool ((rd_T70 l0_1 x12_1).f2)] 70 (0, 0)) (by (with_reducible repeat (first | refine blk_drewN ?_ _ | refine blk_drew ?_ | refine blk_alloc ?_ _)); refine blk_put (cs := #[.slice A681_0 ((rd_T70 l0_1 x12_1).f0).length c681_0, .int .i64 ((rd_T70 l0_1 x12_1).f1), .bool false]) ?_ 2 _ rfl; (with_reducible repeat (first | refine blk_drewN ?_ _ | refine blk_drew ?_ | refine blk_alloc ?_ _)); refine blk_put (cs := #[.slice A681_0 ((rd_T70 l0_1 x12_1).f0).length c681_0, .int .i64 0, .bool false]) ?_ 1 _ rfl; (with_reducible repeat (first | refine blk_drewN ?_ _ | refine blk_drew ?_ | refine blk_alloc ?_ _)); refine blk_put (cs := #[.slice none 0 0, .int .i64 0, .bool false]) ?_ 0 _ rfl; (with_reducible repeat (first | refine blk_drewN ?_ _ | refine blk_drew ?_ | refine blk_alloc ?_ _)); exact BK682.out) hb); replace HB := am (below_step (mb HB.out) hb); (try clear hb); (try clear hb2); (try clear hk); (try clear hi)) | ((with_reducible refine gate_builtin (b := .append) (xs := #[.tmp 21, .tmp 23]) rfl ?_); at_builtin; refine Kd.R_append (Kd.int .i64) (w0 := w) w.heap.size rfl (.tmp 21) (.tmp 23) 38 3 (.int .i64 0) 8 rfl Try.underlying38 info3 rfl (by decide) (by omega) u5 x5_1 x12_1 [.int .i64 x12_1] (fun _ => True) (fun _ => False) rfl rfl ?aP (fun _ hk => hk.elim) ?aF ?aO ?aB ?aS ?aL ?_; (case aP => exact rfl); (case aB => exact (mb HB.out)); (case aF => exact (fun _ _ => trivial)); (case aO => exact (mvR HO_5.out)); (case aS => exact (below_size (mb HB.out))); (case aL => have := LMc12.out; omega); intro v685 w17 ho hb hg hat; rw [← Ny684.out] at ho; replace BK677 := am (blk_grown (mvK BK677.out) hg (Kd.R_ne HO_5.out BK677.out (by decide))); replace BK682 := am (blk_grown (mvK BK682.out) hg (Kd.R_ne HO_5.out BK682.out (by decide))); replace HB := am (hb); have HO686 := am (ho); clear HO_5; clear ho hb hg hat))
     go_roundg k1
     case measure => have := HK1.out; omega
     case rel => exact ⟨(y684), (wrap64 (x12_1 + 1)), eqF, H', ⟨by have := HK1.out; omega⟩, ⟨mvR HO686.out⟩, ⟨mvK BK677.out⟩, ⟨mb HB.out⟩⟩
    ·rw [if_neg c11] at H
     have c11b0 := neb1 c11
     have c11b1 := neb2 c11
     have H' := Aside0.mk H
     clear H
     have p681 : 0 ≤ (x12_1 : Int) := odE
     have q681 : x12_1 < (l0_1.length : Int) := odE
     obtain ⟨ad681, A681_0, c681_0, e681, hx681_0, hx681_1, hx681_2, hl681_0, hi681_0⟩ := at_T70 HR0_1.out x12_1 p681 q681
     cases e681
     replace hx681_0 := (HB.out.cell (World.block_lt_of_cell? w _ hx681_0)).trans hx681_0
     replace hx681_1 := (HB.out.cell (World.block_lt_of_cell? w _ hx681_1)).trans hx681_1
     replace hx681_2 := (HB.out.cell (World.block_lt_of_cell? w _ hx681_2)).trans hx681_2
     have HR681_0 := Aside0.mk hi681_0
     have HC681_0 := Aside0.mk hl681_0
     clear hi681_0 hl681_0
     replace p681 := eq_true p681
     replace q681 := eq_true q681
     go_wp2_with (first | ((with_reducible refine gate_dst (N := 7) rfl ?_); refine box_event ?hg (N := 7) ?hd (cs := #[.slice none 0 0, .int .i64 0, .bool false]) (t := 70) ?hr ?_; (case hd => rfl); (case hg => rfl); (case hr => first | (go_simp; done) | (go_simp; rfl)); intro gb682 hg w18 hbox hb; replace HO_5 := am (Kd.R_below (mvR HO_5.out) hb); have BK682 := am (hbox); have GW682 := am ((by rw [hg]; exact (below_size (mb HB.out)) : w.heap.size ≤ gb682)); have GE682 := am ((by rw [hg]; exact (below_size (mb HB.out)) : w.heap.size ≤ gb682)); replace HB := am (below_step (mb HB.out) hb); have NB677_682 := am ((by rw [hg]; exact Nat.ne_of_lt (blk_lt (g := gb677) (o := .cells #[.int .i64 a0_0, .slice (some ad681) l0_1.length c0_1] 51 (0, 0)) (mvK BK677.out)) : gb677 ≠ gb682)); have NB682_677 := am ((by rw [hg]; exact Nat.ne_of_gt (blk_lt (g := gb677) (o := .cells #[.int .i64 a0_0, .slice (some ad681) l0_1.length c0_1] 51 (0, 0)) (mvK BK677.out)) : gb682 ≠ gb677)); replace BK677 := am (blk_below (mvK BK677.out) hb); clear hb hbox hg; have hnb19 := NB682_677.out; have hnc19 := NB677_682.out; have hcz20_0 := cell0 BK682.out; have hcz20_1 := cell1 BK682.out; have hcz20_2 := cell2 BK682.out; have hfz20_0 := blk_frozen BK682.out 0; have hfz20_1 := blk_frozen BK682.out 1; have hfz20_2 := blk_frozen BK682.out 2) | ((with_reducible refine gate_callee (f := 65) rfl ?_); refine goesL_ (some 19) rfl rfl Try.func65 (by kernel_rfl) rfl #[.agg #[.slice A681_0 ((rd_T70 l0_1 x12_1).f0).length c681_0, .int .i64 ((rd_T70 l0_1 x12_1).f1), .bool ((rd_T70 l0_1 x12_1).f2)], .slice A1 l1.length c1] rfl szE ?_; (with_reducible refine (impl_condition_meets.calls k1 _ _ ((rd_T70 l0_1 x12_1).f0) ((rd_T70 l0_1 x12_1).f1) ((rd_T70 l0_1 x12_1).f2) _ _ l1 t683 _ ?side1 ?side2 ?side3 ?side4 A10.out).mono ?_); (case side1 => exact Kd.C_below HR681_0.out (mb HB.out)); (case side2 => exact HC681_0.out); (case side3 => exact Kd.C_below HR1.out (mb HB.out)); (case side4 => exact HC1.out); rintro e w21 ⟨rfl, hb⟩; refine ⟨_, rfl, ?_⟩; replace HO_5 := am (Kd.R_below (by (with_reducible repeat (first | apply Kd.R_alloc | apply Kd.R_drewN | apply Kd.R_drew)); exact (Kd.R_mono (Kd.R_far (p := ⟨gb682, 2, none⟩) (Kd.R_far (p := ⟨gb682, 1, none⟩) (Kd.R_far (p := ⟨gb682, 0, none⟩) (Kd.R_types HO_5.out BK682.out (by decide)) (fun _ hk => hk.2) (.slice A681_0 ((rd_T70 l0_1 x12_1).f0).length c681_0)) (fun _ hk => hk.2) (.int .i64 ((rd_T70 l0_1 x12_1).f1))) (fun _ hk => hk.2) (.bool ((rd_T70 l0_1 x12_1).f2))) (fun _ h_ => h_.1))) hb); replace BK677 := am (blk_below (g := gb677) (o := .cells #[.int .i64 a0_0, .slice (some ad681) l0_1.length c0_1] 51 (0, 0)) (by (with_reducible repeat (first | refine blk_drewN ?_ _ | refine blk_drew ?_ | refine blk_alloc ?_ _)); refine blk_far ?_ NB677_682.out _; (with_reducible repeat (first | refine blk_drewN ?_ _ | refine blk_drew ?_ | refine blk_alloc ?_ _)); refine blk_far ?_ NB677_682.out _; (with_reducible repeat (first | refine blk_drewN ?_ _ | refine blk_drew ?_ | refine blk_alloc ?_ _)); refine blk_far ?_ NB677_682.out _; (with_reducible repeat (first | refine blk_drewN ?_ _ | refine blk_drew ?_ | refine blk_alloc ?_ _)); exact BK677.out) hb); replace BK682 := am (blk_below (g := gb682) (o := .cells #[.slice A681_0 ((rd_T70 l0_1 x12_1).f0).length c681_0, .int .i64 ((rd_T70 l0_1 x12_1).f1), .bool ((rd_T70 l0_1 x12_1).f2)] 70 (0, 0)) (by (with_reducible repeat (first | refine blk_drewN ?_ _ | refine blk_drew ?_ | refine blk_alloc ?_ _)); refine blk_put (cs := #[.slice A681_0 ((rd_T70 l0_1 x12_1).f0).length c681_0, .int .i64 ((rd_T70 l0_1 x12_1).f1), .bool false]) ?_ 2 _ rfl; (with_reducible repeat (first | refine blk_drewN ?_ _ | refine blk_drew ?_ | refine blk_alloc ?_ _)); refine blk_put (cs := #[.slice A681_0 ((rd_T70 l0_1 x12_1).f0).length c681_0, .int .i64 0, .bool false]) ?_ 1 _ rfl; (with_reducible repeat (first | refine blk_drewN ?_ _ | refine blk_drew ?_ | refine blk_alloc ?_ _)); refine blk_put (cs := #[.slice none 0 0, .int .i64 0, .bool false]) ?_ 0 _ rfl; (with_reducible repeat (first | refine blk_drewN ?_ _ | refine blk_drew ?_ | refine blk_alloc ?_ _)); exact BK682.out) hb); replace HB := am (below_step (mb HB.out) hb); (try clear hb); (try clear hb2); (try clear hk); (try clear hi)))
     go_roundg k1
     case measure => have := HK1.out; omega
     case rel => exact ⟨(x5_1), (wrap64 (x12_1 + 1)), eqF, H', ⟨by have := HK1.out; omega⟩, ⟨mvR HO_5.out⟩, ⟨mvK BK677.out⟩, ⟨mb HB.out⟩⟩
   ·rw [if_neg c7] at H
    have c7b0 := decide_eq_false c7
    clear c7
    obtain rfl := Option.some.inj H
    go_wp2
    go_ret
    exact ⟨_, eqE, mvR HO_5.out, mb HB.out⟩
end Go.Proofs.Ytggiicplcglalaa.All
