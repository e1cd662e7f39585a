/- Part of the proof that the law FnExactCornersOf answers true for all arguments. -/
import Derived.Test.YtggiicplcglalaaQC17
namespace Go.Proofs.Ytggiicplcglalaa.All
open Go.RowKit Go.Proofs.YtggiicplcglalaaW.PrintWords Go.Proofs.YtggiicplcglalaaW.PrintLast Go.Proofs.YtggiicplcglalaaW.PrintMore
attribute [local go_sem] max2_int min2_int max_two min_two max_three min_three max_four min_four
set_option linter.unusedVariables false
set_option linter.unusedSimpArgs false
set_option maxHeartbeats 8000000
set_option maxRecDepth 100000
mutual
def impl_solve.l0 : Nat → List (S70) → List (List Int) → List (S70) → Int → Int → Option (List Int)
 | 0, _, _, _, _, _ => none
 | k + 1, x0, x3, x15, x16, x17 => if x17 < x16 then (if 0 ≤ x17 then (if x17 < (x15.length : Int) then (if x3.length < 5864062014805 then (impl_solve.l0 k x0 (x3 ++ [(rd_T70 x15 x17).f0]) x15 x16 (wrap64 (x17 + 1))) else (none)) else (none)) else (none)) else ((impl_det.f k x3).bind fun t471 => (if t471 = 0 then (some ([] : List Int)) else (impl_solve.l1 k x0 x3 t471 (([] : List Int)) (x0.length : Int) 0)))
def impl_solve.l1 : Nat → List (S70) → List (List Int) → Int → List Int → Int → Int → Option (List Int)
 | 0, _, _, _, _, _, _ => none
 | k + 1, x0, x3, x6, x7, x33, x34 => if x34 < x33 then (impl_solve.l2 k x0 x3 x6 x7 x34 (([] : List (List Int))) x33 x34 x3 (x3.length : Int) 0) else (if x6 < 0 then (impl_solve.l3 k x6 x7 (x7.length : Int) 0) else (if x7.length < 17592186044416 then (some (x7 ++ [x6])) else (none)))
def impl_solve.l2 : Nat → List (S70) → List (List Int) → Int → List Int → Int → List (List Int) → Int → Int → List (List Int) → Int → Int → Option (List Int)
 | 0, _, _, _, _, _, _, _, _, _, _, _ => none
 | k + 1, x0, x3, x6, x7, x8, x9, x33, x34, x38, x39, x40 => if x40 < x39 then (if 0 ≤ x40 then (if x40 < (x38.length : Int) then ((slices_Clone_int_int.f (rd_L1 x38 x40)).bind fun t479 => (if x40 < (x0.length : Int) then (if 0 ≤ x8 then (if x8 < (t479.length : Int) then (if x9.length < 5864062014805 then (impl_solve.l2 k x0 x3 x6 x7 x8 (x9 ++ [(t479.set (x8 : Int).toNat ((rd_T70 x0 x40).f1))]) x33 x34 x38 x39 (wrap64 (x40 + 1))) else (none)) else (none)) else (none)) else (none))) else (none)) else (none)) else ((impl_det.f k x9).bind fun t487 => (if x7.length < 17592186044416 then (impl_solve.l1 k x0 x3 x6 (x7 ++ [t487]) x33 (wrap64 (x34 + 1))) else (none)))
def impl_solve.l3 : Nat → Int → List Int → Int → Int → Option (List Int)
 | 0, _, _, _, _ => none
 | k + 1, x6, x7, x69, x70 => if x70 < x69 then (if 0 ≤ x70 then (if x70 < (x7.length : Int) then (impl_solve.l3 k x6 (x7.set (x70 : Int).toNat (wrap64 (-(rd x7 x70)))) x69 (wrap64 (x70 + 1))) else (none)) else (none)) else (if x7.length < 17592186044416 then (some (x7 ++ [wrap64 (-x6)])) else (none))
end
def impl_solve.f (k : Nat) (l0 : List (S70)) : Option (List Int) := impl_solve.l0 k l0 (([] : List (List Int))) l0 (l0.length : Int) 0
theorem impl_solve.mono_l : ∀ k, (∀ y0 y1 y2 y3 y4, LeO (impl_solve.l0 k y0 y1 y2 y3 y4) (impl_solve.l0 (k + 1) y0 y1 y2 y3 y4)) ∧ (∀ y0 y1 y2 y3 y4 y5, LeO (impl_solve.l1 k y0 y1 y2 y3 y4 y5) (impl_solve.l1 (k + 1) y0 y1 y2 y3 y4 y5)) ∧ (∀ y0 y1 y2 y3 y4 y5 y6 y7 y8 y9 y10, LeO (impl_solve.l2 k y0 y1 y2 y3 y4 y5 y6 y7 y8 y9 y10) (impl_solve.l2 (k + 1) y0 y1 y2 y3 y4 y5 y6 y7 y8 y9 y10)) ∧ (∀ y0 y1 y2 y3, LeO (impl_solve.l3 k y0 y1 y2 y3) (impl_solve.l3 (k + 1) y0 y1 y2 y3))
 | 0 => ⟨fun _ _ _ _ _ r h => by simp [impl_solve.l0] at h, fun _ _ _ _ _ _ r h => by simp [impl_solve.l1] at h, fun _ _ _ _ _ _ _ _ _ _ _ r h => by simp [impl_solve.l2] at h, fun _ _ _ _ r h => by simp [impl_solve.l3] at h⟩
 | k + 1 => by
  obtain ⟨ih0, ih1, ih2, ih3⟩ := impl_solve.mono_l k
  refine ⟨?_, ?_, ?_, ?_⟩ <;> intros <;> (first | unfold impl_solve.l0 | unfold impl_solve.l1 | unfold impl_solve.l2 | unfold impl_solve.l3)
  all_goals repeat' first
  | (with_reducible exact ih0 ..)
  | (with_reducible exact ih1 ..)
  | (with_reducible exact ih2 ..)
  | (with_reducible exact ih3 ..)
  | (with_reducible exact impl_det.mono ..)
  | (with_reducible exact LeO.refl _)
  | (with_reducible exact LeO.none _)
  | (with_reducible refine LeO.ite ?_ ?_)
  | (with_reducible refine LeO.bind ?_ (fun _ => ?_))
theorem impl_solve.mono : ∀ a0 k, LeO (impl_solve.f k a0) (impl_solve.f (k + 1) a0) := by
 intro a0 k
 obtain ⟨ih0, ih1, ih2, ih3⟩ := impl_solve.mono_l k
 unfold impl_solve.f
 repeat' first
   | (with_reducible exact ih0 ..)
   | (with_reducible exact ih1 ..)
   | (with_reducible exact ih2 ..)
   | (with_reducible exact ih3 ..)
   | (with_reducible exact impl_det.mono ..)
   | (with_reducible exact LeO.refl _)
   | (with_reducible exact LeO.none _)
   | (with_reducible refine LeO.ite ?_ ?_)
   | (with_reducible refine LeO.bind ?_ (fun _ => ?_))
theorem impl_solve.calls (k : Nat) (P0_ : Nat → Prop) (A0 : Option Addr) (c0 : Nat) (l0 : List (S70)) (r : List Int) (w : World) (hs0 : Kd.V k70 70 w w.heap.size (fun k_ => P0_ k_) (.slice A0 l0.length c0) l0) (h : impl_solve.f k l0 = some r) :
  Calls Try.prog 62 #[.slice A0 l0.length c0] w fun e w' => ∃ v0_ : Value, e = .returned (v0_) ∧ Kd.R (Kd.int .i64) 3 w' w.heap.size (fun k_ => (w.heap.size ≤ k_)) v0_ r ∧ Below w.heap.size w w' := by
 have hu70 := Try.underlying70
 have HO0 := Aside0.mk (show Kd.V k70 70 w w.heap.size (fun k_ => (P0_ k_ ∨ w.heap.size ≤ k_)) (.slice A0 l0.length c0) l0 from Kd.V_mono hs0 (fun k_ hk => .inl hk))
 have HB := Aside0.mk (Below.refl w.heap.size w)
 have H : (impl_solve.l0 k l0 (([] : List (List Int))) l0 (l0.length : Int) 0) = some r := h
 clear h
 replace H := nameA (([] : List (List Int))) (fun y463 => (impl_solve.l0 k l0 y463 l0 (l0.length : Int) 0) = some r) H; obtain ⟨y463, Ny463, H⟩ := H
 have H' := Aside0.mk H
 clear H
 go_enter Try.func62, Try.ntmps62
 go_wp2_with (first | ((with_reducible refine gate_dst (N := 14) rfl ?_); refine Kd.N_lit (Kd.slice 3 (Kd.int .i64)) _ 38 ?hg (N' := 14) ?hd (xs := ([] : List (List Int))) (inner := []) (ok := (fun k_ => (P0_ k_ ∨ w.heap.size ≤ k_))) (okp := (fun k_ => (P0_ k_ ∨ w.heap.size ≤ k_))) ?hr ?hp (fun _ hk => hk) ((show ∀ k_, w.heap.size ≤ k_ → (fun k_ => (P0_ k_ ∨ w.heap.size ≤ k_)) k_ from fun k_ hk => (.inr (Nat.le_trans (below_size (mb HB.out)) hk))) _ (Nat.le_refl _)) (Below.refl _ _) (Nat.le_refl _) (by simp) ?_; (case hd => rfl); (case hg => rfl); (case hr => first | (go_simp; done) | (go_simp; rfl)); (case hp => exact (Reps.none _ _)); intro v464 w2 ho3 hb hg_ hnew_; clear hg_ hnew_; (first | rw [← Ny463.out] at ho3 | (simp only [Int.reduceToNat] at ho3; rw [← Ny463.out] at ho3)); replace HO0 := am (Kd.V_elder' (mvV HO0.out) (Kd.N_base ho3) hb); have HO465 := am (Kd.N_lower ho3 (below_size (mb HB.out))); replace HB := am (below_step (mb HB.out) hb); clear hb ho3))
 go_loopg [3, 17] k (fun kq v3 v17 w' => ∃ (x3_1 : List (List Int)) (x17_1 : Int), v17 = .int .i64 x17_1 ∧ Aside0 (impl_solve.l0 kq l0 x3_1 l0 (l0.length : Int) x17_1 = some r) ∧ Aside0 (kq ≤ k) ∧ Aside0 (Kd.V k70 70 w' w.heap.size (fun k_ => (P0_ k_ ∨ w.heap.size ≤ k_) ∧ some k_ ≠ (v3 : Value).ownBlock) (.slice A0 l0.length c0) l0) ∧ Aside0 (Kd.N (Kd.slice 3 (Kd.int .i64)) 38 w' w.heap.size (fun k_ => (P0_ k_ ∨ w.heap.size ≤ k_)) v3 x3_1) ∧ Aside0 (Kd.V k70 70 w' w.heap.size (fun k_ => (P0_ k_ ∨ w.heap.size ≤ k_) ∧ some k_ ≠ (v3 : Value).ownBlock) (.slice A0 l0.length c0) l0) ∧ Aside0 (Below w.heap.size w w'))
 case atStart => exact ⟨(y463), (0), eqF, H', ⟨Nat.le_refl _⟩, ⟨mvV HO0.out⟩, ⟨mvN HO465.out⟩, ⟨mvV HO0.out⟩, ⟨mb HB.out⟩⟩
 case round =>
  clear H'
  obtain ⟨x3_1, x17_1, rfl, HA, HK1, HO_0, HO_3, HO_15, HB⟩ := hrel
  cases gk with
  | zero => exact absurd HA.out (by simp [impl_solve.l0])
  | succ k1 =>
   have H := HA.out
   clear HA
   simp only [impl_solve.l0] at H
   by_cases c4 : x17_1 < (l0.length : Int)
   ·rw [if_pos c4] at H
    have c4b0 := decide_eq_true c4
    clear c4
    replace H := ifD H; obtain ⟨c5b0, H⟩ := H
    replace H := ifD H; obtain ⟨c6b0, H⟩ := H
    replace H := ifA H; obtain ⟨LMc7, H⟩ := H
    replace H := nameA (x3_1 ++ [(rd_T70 l0 x17_1).f0]) (fun y468 => (impl_solve.l0 k1 l0 y468 l0 (l0.length : Int) (wrap64 (x17_1 + 1))) = some r) H; obtain ⟨y468, Ny468, H⟩ := H
    have H' := Aside0.mk H
    clear H
    have p466 : 0 ≤ (x17_1 : Int) := odE
    have q466 : x17_1 < (l0.length : Int) := odE
    obtain ⟨ad466, A466_0, c466_0, e466, hx466_0, hx466_1, hx466_2, hl466_0, hi466_0⟩ := at_T70 (Kd.V_reads' HO_15.out).2.2 x17_1 p466 q466
    cases e466
    obtain ⟨ce466, hce466, hMe466, hcc466⟩ := Kd.V_get HO_15.out z70 x17_1 p466 (by first | exact q466 | exact odE | (have e_ := (Kd.V_reads' HO_15.out).1; omega))
    obtain ⟨ua466_0, uc466_0, rfl, ul466_0, ge466_0⟩ := k70_openF hMe466
    have hv466_0 := hcc466 0 _ rfl
    rw [Nat.add_zero] at hv466_0
    replace hv466_0 := Option.some.inj (hv466_0.symm.trans hx466_0)
    injection hv466_0 with hva_ hvn_ hvc_
    rw [hva_] at ge466_0
    rw [hvc_] at ul466_0
    have HL466_0 := Aside0.mk (show Kd.V (Kd.int .i64) 3 _ w.heap.size _ _ ((rd_T70 l0 x17_1).f0) from Kd.V_mk ul466_0 ge466_0)
    clear hva_ hvn_ hvc_ ge466_0 ul466_0
    clear hcc466 hce466
    have HR466_0 := Aside0.mk hi466_0
    have HC466_0 := Aside0.mk hl466_0
    clear hi466_0 hl466_0
    replace p466 := eq_true p466
    replace q466 := eq_true q466
    go_wp2_with (first | ((with_reducible refine gate_dst (N := 5) rfl ?_); refine bE 5 #[.slice none 0 0, .int .i64 0, .bool false] 70 ?_; intro gb467 hg w8 hbox hb; replace HO_0 := am (Kd.V_below (Kd.V_elderB (mvV HO_0.out) gb467 (Nat.le_of_eq hg.symm)) hb); replace HO_3 := am (Kd.N_below (Kd.N_elderB (mvN HO_3.out) gb467 (Nat.le_of_eq hg.symm)) hb); replace HO_15 := am (Kd.V_below (Kd.V_elderB (mvV HO_15.out) gb467 (Nat.le_of_eq hg.symm)) hb); replace HL466_0 := am (Kd.V_below (Kd.V_elderB (mvV HL466_0.out) gb467 (Nat.le_of_eq hg.symm)) hb); replace HR466_0 := am (Kd.C_below (by repeat (first | (with_reducible exact HR466_0.out) | (with_reducible refine Kd.C_alloc ?_ _) | (with_reducible refine Kd.C_drewN ?_ _) | (with_reducible refine Kd.C_drew ?_) | exact HR466_0.out)) hb); have BK467 := am (hbox); have GW467 := am ((by rw [hg]; exact (below_size (mb HB.out)) : w.heap.size ≤ gb467)); have GE467 := GW467; replace HB := am (below_step (mb HB.out) hb); clear hb hbox hg; have hcz9_0 := cell0 BK467.out; have hcz9_1 := cell1 BK467.out; have hcz9_2 := cell2 BK467.out; have hfz9_0 := blk_frozen BK467.out 0; have hfz9_1 := blk_frozen BK467.out 1; have hfz9_2 := blk_frozen BK467.out 2) | ((with_reducible refine gate_store (t := 70) (p := 5) rfl ?_); refine store_event (t := 70) (p := 5) (v := ?vo_w10) (w1 := (((w8.setCell ⟨gb467, 0, none⟩ (.slice A466_0 ((rd_T70 l0 x17_1).f0).length c466_0)).setCell ⟨gb467, 1, none⟩ (.int .i64 ((rd_T70 l0 x17_1).f1))).setCell ⟨gb467, 2, none⟩ (.bool ((rd_T70 l0 x17_1).f2)))) ?hg ?ho ?hn ?hr ?_; (case ho => rfl); (case hg => rfl); (case hn => rfl); (case hr => first | (go_simp; done) | (go_simp; rfl)); intro w10 hw; have n0_ : Aside0 (Kd.V k70 70 w10 w.heap.size (fun k_ => (P0_ k_ ∨ w.heap.size ≤ k_) ∧ some k_ ≠ (u3 : Value).ownBlock ∧ k_ ≠ gb467) (.slice (some ad466) l0.length c0) l0) := ⟨(by rw [hw]; exact (by (with_reducible repeat (first | apply Kd.V_alloc | apply Kd.V_drewN | apply Kd.V_drew)); exact Kd.V_mono (Kd.V_far (p := ⟨gb467, 2, none⟩) (Kd.V_far (p := ⟨gb467, 1, none⟩) (Kd.V_far (p := ⟨gb467, 0, none⟩) (Kd.V_mono HO_0.out (fun k_ hk => (⟨hk, hk.2⟩ : _ ∧ k_ ≠ gb467))) (fun _ hk => hk.2) (.slice A466_0 ((rd_T70 l0 x17_1).f0).length c466_0)) (fun _ hk => hk.2) (.int .i64 ((rd_T70 l0 x17_1).f1))) (fun _ hk => hk.2) (.bool ((rd_T70 l0 x17_1).f2))) (fun _ hk => ⟨hk.1.1.1, ⟨hk.1.1.2, hk.1.2⟩⟩)))⟩; have n1_ : Aside0 (Kd.N (Kd.slice 3 (Kd.int .i64)) 38 w10 w.heap.size (fun k_ => (P0_ k_ ∨ w.heap.size ≤ k_) ∧ k_ ≠ gb467) u3 x3_1) := ⟨(by rw [hw]; exact (by (with_reducible repeat (first | apply Kd.N_alloc | apply Kd.N_drewN | apply Kd.N_drew)); exact Kd.N_mono (Kd.N_far (p := ⟨gb467, 2, none⟩) (Kd.N_far (p := ⟨gb467, 1, none⟩) (Kd.N_far (p := ⟨gb467, 0, none⟩) (Kd.N_mono HO_3.out (fun k_ hk => (⟨hk, hk.2⟩ : _ ∧ k_ ≠ gb467))) (fun _ hk => hk.2) (.slice A466_0 ((rd_T70 l0 x17_1).f0).length c466_0)) (fun _ hk => hk.2) (.int .i64 ((rd_T70 l0 x17_1).f1))) (fun _ hk => hk.2) (.bool ((rd_T70 l0 x17_1).f2))) (fun _ hk => ⟨hk.1.1, hk.1.2⟩)))⟩; have n2_ : Aside0 (Kd.V k70 70 w10 w.heap.size (fun k_ => (P0_ k_ ∨ w.heap.size ≤ k_) ∧ some k_ ≠ (u3 : Value).ownBlock ∧ k_ ≠ gb467) (.slice (some ad466) l0.length c0) l0) := ⟨(by rw [hw]; exact (by (with_reducible repeat (first | apply Kd.V_alloc | apply Kd.V_drewN | apply Kd.V_drew)); exact Kd.V_mono (Kd.V_far (p := ⟨gb467, 2, none⟩) (Kd.V_far (p := ⟨gb467, 1, none⟩) (Kd.V_far (p := ⟨gb467, 0, none⟩) (Kd.V_mono HO_15.out (fun k_ hk => (⟨hk, hk.2⟩ : _ ∧ k_ ≠ gb467))) (fun _ hk => hk.2) (.slice A466_0 ((rd_T70 l0 x17_1).f0).length c466_0)) (fun _ hk => hk.2) (.int .i64 ((rd_T70 l0 x17_1).f1))) (fun _ hk => hk.2) (.bool ((rd_T70 l0 x17_1).f2))) (fun _ hk => ⟨hk.1.1.1, ⟨hk.1.1.2, hk.1.2⟩⟩)))⟩; have n3_ : Aside0 (Kd.V (Kd.int .i64) 3 w10 w.heap.size (fun k_ => (P0_ k_ ∨ w.heap.size ≤ k_) ∧ some k_ ≠ (u3 : Value).ownBlock ∧ k_ ≠ gb467) (.slice A466_0 ((rd_T70 l0 x17_1).f0).length c466_0) ((rd_T70 l0 x17_1).f0)) := ⟨(by rw [hw]; exact (by (with_reducible repeat (first | apply Kd.V_alloc | apply Kd.V_drewN | apply Kd.V_drew)); exact Kd.V_mono (Kd.V_far (p := ⟨gb467, 2, none⟩) (Kd.V_far (p := ⟨gb467, 1, none⟩) (Kd.V_far (p := ⟨gb467, 0, none⟩) (Kd.V_mono HL466_0.out (fun k_ hk => (⟨hk, hk.2⟩ : _ ∧ k_ ≠ gb467))) (fun _ hk => hk.2) (.slice A466_0 ((rd_T70 l0 x17_1).f0).length c466_0)) (fun _ hk => hk.2) (.int .i64 ((rd_T70 l0 x17_1).f1))) (fun _ hk => hk.2) (.bool ((rd_T70 l0 x17_1).f2))) (fun _ hk => ⟨hk.1.1.1, ⟨hk.1.1.2, hk.1.2⟩⟩)))⟩; have n4_ : Aside0 (w10.heap[gb467]? = some (.cells #[.slice A466_0 ((rd_T70 l0 x17_1).f0).length c466_0, .int .i64 ((rd_T70 l0 x17_1).f1), .bool ((rd_T70 l0 x17_1).f2)] 70 (0, 0))) := ⟨(by rw [hw]; exact (by (with_reducible repeat (first | refine blk_drewN ?_ _ | refine blk_drew ?_ | refine blk_alloc ?_ _)); refine blk_put (cs := #[.slice A466_0 ((rd_T70 l0 x17_1).f0).length c466_0, .int .i64 ((rd_T70 l0 x17_1).f1), .bool false]) ?_ 2 _ rfl; (with_reducible repeat (first | refine blk_drewN ?_ _ | refine blk_drew ?_ | refine blk_alloc ?_ _)); refine blk_put (cs := #[.slice A466_0 ((rd_T70 l0 x17_1).f0).length c466_0, .int .i64 0, .bool false]) ?_ 1 _ rfl; (with_reducible repeat (first | refine blk_drewN ?_ _ | refine blk_drew ?_ | refine blk_alloc ?_ _)); refine blk_put (cs := #[.slice none 0 0, .int .i64 0, .bool false]) ?_ 0 _ rfl; (with_reducible repeat (first | refine blk_drewN ?_ _ | refine blk_drew ?_ | refine blk_alloc ?_ _)); exact BK467.out))⟩; have n5_ : Aside0 (Below w.heap.size w w10) := ⟨(by rw [hw]; exact (mb HB.out))⟩; clear hw; clear HO_0; clear HO_3; clear HO_15; clear HL466_0; clear BK467; clear HB; have HO_0 := n0_; have HO_3 := n1_; have HO_15 := n2_; have HL466_0 := n3_; have BK467 := n4_; have HB := n5_; clear n0_ n1_ n2_ n3_ n4_ n5_; have hcz11_0 := cell0 BK467.out; have hcz11_1 := cell1 BK467.out; have hcz11_2 := cell2 BK467.out; have hfz11_0 := blk_frozen BK467.out 0; have hfz11_1 := blk_frozen BK467.out 1; have hfz11_2 := blk_frozen BK467.out 2) | ((with_reducible refine gate_builtin (b := .append) (xs := #[.tmp 21, .tmp 24]) rfl ?_); at_builtin; refine Kd.N_append (Kd.slice 3 (Kd.int .i64)) (w0 := w) w.heap.size rfl (.tmp 21) (.tmp 24) 22 38 (.slice none 0 0) 24 rfl Try.underlying22 info38 rfl (by decide) (by omega) u3 x3_1 ((rd_T70 l0 x17_1).f0) [.slice A466_0 ((rd_T70 l0 x17_1).f0).length c466_0] (fun k_ => (P0_ k_ ∨ w.heap.size ≤ k_) ∧ k_ ≠ gb467) (fun k_ => ((fun k_ => (P0_ k_ ∨ w.heap.size ≤ k_) ∧ k_ ≠ gb467)) k_ ∧ some k_ ≠ (u3 : Value).ownBlock) rfl rfl ?aP (fun _ hk => hk) ?aF ?aO ?aB ?aS ?aL ?_; (case aP => exact (Kd.FK_slice_mk (Kd.V_reads' (Kd.V_mono (ok' := (fun k_ => ((fun k_ => (P0_ k_ ∨ w.heap.size ≤ k_) ∧ k_ ≠ gb467)) k_ ∧ some k_ ≠ (u3 : Value).ownBlock)) (HL466_0.out) (fun k_ hk => ⟨⟨hk.1, hk.2.2⟩, hk.2.1⟩))).2.1 (Kd.V_F (Kd.V_mono (ok' := (fun k_ => ((fun k_ => (P0_ k_ ∨ w.heap.size ≤ k_) ∧ k_ ≠ gb467)) k_ ∧ some k_ ≠ (u3 : Value).ownBlock)) (HL466_0.out) (fun k_ hk => ⟨⟨hk.1, hk.2.2⟩, hk.2.1⟩))))); (case aB => exact (mb HB.out)); (case aF => exact (fun k_ hk => ⟨(.inr (Nat.le_trans (below_size (mb HB.out)) hk)), Kd.freshB (g := gb467) (o := .cells #[.slice A466_0 ((rd_T70 l0 x17_1).f0).length c466_0, .int .i64 ((rd_T70 l0 x17_1).f1), .bool ((rd_T70 l0 x17_1).f2)] 70 (0, 0)) (mvK BK467.out) k_ hk⟩)); (case aO => exact (mvN HO_3.out)); (case aS => exact (below_size (mb HB.out))); (case aL => have := LMc7.out; omega); intro v469 w12 ho hb hg hat; rw [← Ny468.out] at ho; replace HO_0 := am (Kd.V_afterv (ok := (fun k_ => (P0_ k_ ∨ w.heap.size ≤ k_) ∧ k_ ≠ gb467)) (Kd.V_mono (mvV HO_0.out) (fun _ hk => ⟨⟨hk.1, hk.2.2⟩, hk.2.1⟩)) hg hat); replace HO_15 := am (Kd.V_afterv (ok := (fun k_ => (P0_ k_ ∨ w.heap.size ≤ k_) ∧ k_ ≠ gb467)) (Kd.V_mono (mvV HO_15.out) (fun _ hk => ⟨⟨hk.1, hk.2.2⟩, hk.2.1⟩)) hg hat); replace HL466_0 := am (Kd.V_afterv (ok := (fun k_ => (P0_ k_ ∨ w.heap.size ≤ k_) ∧ k_ ≠ gb467)) (Kd.V_mono (mvV HL466_0.out) (fun _ hk => ⟨⟨hk.1, hk.2.2⟩, hk.2.1⟩)) hg hat); replace BK467 := am (blk_grown (mvK BK467.out) hg (Kd.N_ne HO_3.out BK467.out (by decide))); replace HB := am (hb); have HO470 := am (ho); clear HO_3; clear ho hb hg hat))
    go_roundg k1
    case measure => have := HK1.out; omega
    case rel => exact ⟨(y468), (wrap64 (x17_1 + 1)), eqF, H', ⟨by have := HK1.out; omega⟩, ⟨Kd.V_mono (mvV HO_0.out) (fun _ hk => ⟨hk.1.1, hk.2⟩)⟩, ⟨Kd.N_mono (mvN HO470.out) (fun _ hk => hk.1)⟩, ⟨Kd.V_mono (mvV HO_15.out) (fun _ hk => ⟨hk.1.1, hk.2⟩)⟩, ⟨mb HB.out⟩⟩
   rw [if_neg c4] at H
   have c4b0 := decide_eq_false c4
   clear c4
   replace H := bindA H; obtain ⟨t471, A13, H⟩ := H
   by_cases c14 : t471 = 0
   ·rw [if_pos c14] at H
    have c14b0 := eqb1 c14
    have c14b1 := eqb2 c14
    clear c14
    obtain rfl := Option.some.inj H
    obtain ⟨Ao15, co15, eo15⟩ := Kd.N_slice HO_3.out
    subst eo15
    go_wp2_with (first | ((with_reducible refine gC 81 rfl ?_); refine gL 28 Try.func81 #[.slice Ao15 x3_1.length co15] ?_; (with_reducible refine (impl_det.calls k1 _ _ x3_1 t471 _ ?side1 ?side2 A13.out).mono ?_); (case side1 => repeat (first | exact (Kd.N_reads' HO_3.out).2.2 | (with_reducible refine Kd.C_alloc ?_ _) | (with_reducible refine Kd.C_drewN ?_ _) | (with_reducible refine Kd.C_drew ?_))); (case side2 => exact (Kd.N_reads' HO_3.out).2.1); rintro e w16 ⟨rfl, hb⟩; refine ⟨_, rfl, ?_⟩; replace HO_0 := am (Kd.V_below (mvV HO_0.out) hb); replace HO_3 := am (Kd.N_below (mvN HO_3.out) hb); replace HO_15 := am (Kd.V_below (mvV HO_15.out) hb); replace HB := am (below_step (mb HB.out) hb); (try clear hb)))
    go_ret
    exact ⟨_, eqE, nilE, mb HB.out⟩
   rw [if_neg c14] at H
   have c14b0 := neb1 c14
   have c14b1 := neb2 c14
   replace H := nameA (([] : List Int)) (fun y472 => (impl_solve.l1 k1 l0 x3_1 t471 y472 (l0.length : Int) 0) = some r) H; obtain ⟨y472, Ny472, H⟩ := H
   have H' := Aside0.mk H
   clear H
   obtain ⟨Ao17, co17, eo17⟩ := Kd.N_slice HO_3.out
   subst eo17
   go_wp2_with (first | ((with_reducible refine gC 81 rfl ?_); refine gL 28 Try.func81 #[.slice Ao17 x3_1.length co17] ?_; (with_reducible refine (impl_det.calls k1 _ _ x3_1 t471 _ ?side1 ?side2 A13.out).mono ?_); (case side1 => repeat (first | exact (Kd.N_reads' HO_3.out).2.2 | (with_reducible refine Kd.C_alloc ?_ _) | (with_reducible refine Kd.C_drewN ?_ _) | (with_reducible refine Kd.C_drew ?_))); (case side2 => exact (Kd.N_reads' HO_3.out).2.1); rintro e w18 ⟨rfl, hb⟩; refine ⟨_, rfl, ?_⟩; replace HO_0 := am (Kd.V_below (mvV HO_0.out) hb); replace HO_3 := am (Kd.N_below (mvN HO_3.out) hb); replace HO_15 := am (Kd.V_below (mvV HO_15.out) hb); replace HB := am (below_step (mb HB.out) hb); (try clear hb)) | ((with_reducible refine gate_dst (N := 31) rfl ?_); refine Kd.R_lit (Kd.int .i64) _ 3 ?hg (N := 31) ?hd (xs := ([] : List Int)) (inner := []) (ok := fun _ => True) (okp := fun _ => True) ?hr ?hp (fun _ hk => hk) trivial (Below.refl _ _) (Nat.le_refl _) (by simp) ?_; (case hd => rfl); (case hg => rfl); (case hr => first | (go_simp; done) | (go_simp; rfl)); (case hp => exact (Reps.none _ _)); intro v473 w19 ho20 hb hg_ hnew_; clear hg_ hnew_; (first | rw [← Ny472.out] at ho20 | (simp only [Int.reduceToNat] at ho20; rw [← Ny472.out] at ho20)); replace HO_0 := am (Kd.V_elder' (mvV HO_0.out) (Kd.R_base ho20) hb); replace HO_3 := am (Kd.N_elder' (mvN HO_3.out) (Kd.R_base ho20) hb); replace HO_15 := am (Kd.V_elder' (mvV HO_15.out) (Kd.R_base ho20) hb); have HO474 := am (Kd.R_lower (Kd.R_newM (M := fun k_ => (w.heap.size ≤ k_)) ho20 (below_size (mb HB.out)) (fun k_ h_ => h_)) (below_size (mb HB.out))); replace HB := am (below_step (mb HB.out) hb); clear hb ho20))
   go_loopg [7, 34] k1 (fun kq v7 v34 w' => ∃ (x7_2 : List Int) (x34_2 : Int), v34 = .int .i64 x34_2 ∧ Aside0 (impl_solve.l1 kq l0 x3_1 t471 x7_2 (l0.length : Int) x34_2 = some r) ∧ Aside0 (kq ≤ k1) ∧ Aside0 (Kd.V k70 70 w' w.heap.size (fun k_ => (P0_ k_ ∨ w.heap.size ≤ k_) ∧ some k_ ≠ ((.slice Ao17 x3_1.length co17) : Value).ownBlock ∧ some k_ ≠ (v7 : Value).ownBlock) (.slice A0 l0.length c0) l0) ∧ Aside0 (Kd.N (Kd.slice 3 (Kd.int .i64)) 38 w' w.heap.size (fun k_ => (P0_ k_ ∨ w.heap.size ≤ k_) ∧ some k_ ≠ (v7 : Value).ownBlock) (.slice Ao17 x3_1.length co17) x3_1) ∧ Aside0 (Kd.R (Kd.int .i64) 3 w' w.heap.size (fun k_ => (w.heap.size ≤ k_)) v7 x7_2) ∧ Aside0 (Below w.heap.size w w'))
   case atStart => exact ⟨(y472), (0), eqF, H', ⟨Nat.le_refl _⟩, ⟨Kd.V_mono (mvV HO_0.out) (fun _ hk => ⟨hk.1.1, ⟨hk.1.2, hk.2⟩⟩)⟩, ⟨mvN HO_3.out⟩, ⟨Kd.R_mono (mvR HO474.out) (fun _ hk => hk.1)⟩, ⟨mb HB.out⟩⟩
   case round =>
    clear H'
    obtain ⟨x7_2, x34_2, rfl, HA, HK2, HO_0, HO_3, HO_7, HB⟩ := hrel
    cases gk with
    | zero => exact absurd HA.out (by simp [impl_solve.l1])
    | succ k2 =>
     have H := HA.out
     clear HA
     simp only [impl_solve.l1] at H
     by_cases c21 : x34_2 < (l0.length : Int)
     rotate_left
     ·rw [if_neg c21] at H
      have c21b0 := decide_eq_false c21
      clear c21
      by_cases c42 : t471 < 0
      rotate_left
      ·rw [if_neg c42] at H
       have c42b0 := decide_eq_false c42
       (try rw [hl7_3] at c42b0)
       clear c42
       replace H := ifA H; obtain ⟨LMc52, H⟩ := H
       replace H := nameA (x7_2 ++ [t471]) (fun y496 => (some y496) = some r) H; obtain ⟨y496, Ny496, H⟩ := H
       obtain rfl := Option.some.inj H
       go_wp2_with (first | ((with_reducible refine gate_builtin (b := .append) (xs := #[.tmp 84, .tmp 86]) rfl ?_); at_builtin; refine Kd.R_append (Kd.int .i64) (w0 := w) w.heap.size rfl (.tmp 84) (.tmp 86) 38 3 (.int .i64 0) 8 rfl Try.underlying38 info3 rfl (by decide) (by omega) u7 x7_2 t471 [.int .i64 t471] (fun k_ => (w.heap.size ≤ k_)) (fun _ => False) rfl rfl ?aP (fun _ hk => hk.elim) ?aF ?aO ?aB ?aS ?aL ?_; (case aP => exact rfl); (case aB => exact (mb HB.out)); (case aF => exact (fun k_ hk => (Nat.le_trans (below_size (mb HB.out)) hk))); (case aO => exact (mvR HO_7.out)); (case aS => exact (below_size (mb HB.out))); (case aL => have := LMc52.out; omega); intro v497 w53 ho hb hg hat; rw [← Ny496.out] at ho; replace HO_0 := am (Kd.V_afterv (ok := (fun k_ => (P0_ k_ ∨ w.heap.size ≤ k_) ∧ some k_ ≠ (.slice Ao17 x3_1.length co17 : Value).ownBlock)) (Kd.V_mono (mvV HO_0.out) (fun _ hk => ⟨⟨hk.1, hk.2.1⟩, hk.2.2⟩)) hg hat); replace HO_3 := am (Kd.N_afterv (ok := (fun k_ => (P0_ k_ ∨ w.heap.size ≤ k_))) (mvN HO_3.out) hg hat); replace HB := am (hb); have HO498 := am (ho); clear HO_7; clear ho hb hg hat))
       go_ret
       exact ⟨_, eqE, mvR HO498.out, mb HB.out⟩
      rw [if_pos c42] at H
      have c42b0 := decide_eq_true c42
      clear c42
      have H' := Aside0.mk H
      clear H
      obtain ⟨Ao43, co43, eo43⟩ := Kd.R_slice HO_7.out
      subst eo43
      go_wp2
      go_loopg [70] k2 (fun kq v70 w' => ∃ (x7_3 : List Int) (x70_3 : Int), v70 = .int .i64 x70_3 ∧ Aside0 (impl_solve.l3 kq t471 x7_3 (x7_2.length : Int) x70_3 = some r) ∧ Aside0 (kq ≤ k2) ∧ Aside0 (Kd.R (Kd.int .i64) 3 w' w.heap.size (fun k_ => (w.heap.size ≤ k_)) (.slice Ao43 x7_2.length co43) x7_3) ∧ Aside0 (Below w.heap.size w w'))
      case atStart => exact ⟨(x7_2), (0), eqF, H', ⟨Nat.le_refl _⟩, ⟨mvR HO_7.out⟩, ⟨mb HB.out⟩⟩
      case round =>
       clear H'
       obtain ⟨x7_3, x70_3, rfl, HA, HK3, HO_7, HB⟩ := hrel
       have hl7_3 := (Kd.R_reads' HO_7.out).1
       rw [hl7_3] at HO_7
       (try simp only [hl7_3])
       cases gk with
       | zero => exact absurd HA.out (by simp [impl_solve.l3])
       | succ k3 =>
        have H := HA.out
        clear HA
        simp only [impl_solve.l3] at H
        by_cases c44 : x70_3 < (x7_2.length : Int)
        rotate_left
        ·rw [if_neg c44] at H
         have c44b0 := decide_eq_false c44
         (try rw [hl7_3] at c44b0)
         clear c44
         replace H := ifA H; obtain ⟨LMc50, H⟩ := H
         replace H := nameA (x7_3 ++ [wrap64 (-t471)]) (fun y493 => (some y493) = some r) H; obtain ⟨y493, Ny493, H⟩ := H
         obtain rfl := Option.some.inj H
         go_wp2_with (first | ((with_reducible refine gate_builtin (b := .append) (xs := #[.tmp 84, .tmp 86]) rfl ?_); at_builtin; refine Kd.R_append (Kd.int .i64) (w0 := w) w.heap.size rfl (.tmp 84) (.tmp 86) 38 3 (.int .i64 0) 8 rfl Try.underlying38 info3 rfl (by decide) (by omega) (.slice Ao43 x7_3.length co43) x7_3 (wrap64 (-t471)) [.int .i64 (wrap64 (-t471))] (fun k_ => (w.heap.size ≤ k_)) (fun _ => False) rfl rfl ?aP (fun _ hk => hk.elim) ?aF ?aO ?aB ?aS ?aL ?_; (case aP => exact rfl); (case aB => exact (mb HB.out)); (case aF => exact (fun k_ hk => (Nat.le_trans (below_size (mb HB.out)) hk))); (case aO => exact (mvR HO_7.out)); (case aS => exact (below_size (mb HB.out))); (case aL => have := LMc50.out; omega); intro v494 w51 ho hb hg hat; rw [← Ny493.out] at ho; replace HB := am (hb); have HO495 := am (ho); clear HO_7; clear ho hb hg hat))
         go_ret
         exact ⟨_, eqE, mvR HO495.out, mb HB.out⟩
        rw [if_pos c44] at H
        have c44b0 := decide_eq_true c44
        clear c44
        replace H := ifD H; obtain ⟨c45b0, H⟩ := H
        replace H := ifD H; obtain ⟨c46b0, H⟩ := H
        replace H := nameA (x7_3.set (x70_3 : Int).toNat (wrap64 (-(rd x7_3 x70_3)))) (fun y492 => (impl_solve.l3 k3 t471 y492 (x7_2.length : Int) (wrap64 (x70_3 + 1))) = some r) H; obtain ⟨y492, Ny492, H⟩ := H
        have H' := Aside0.mk H
        clear H
        have p491 : 0 ≤ (x70_3 : Int) := odE
        have q491 : x70_3 < (x7_3.length : Int) := odE
        obtain ⟨ad491, e491, hx491_0⟩ := Kd.at_int (Kd.R_reads' HO_7.out).2.2 x70_3 p491 q491
        cases e491
        replace p491 := eq_true p491
        replace q491 := eq_true q491
        have p47 : 0 ≤ (x70_3 : Int) := odE
        have q47 : (x70_3 : Int) < ((x7_3.length : Int) : Int) := odE
        obtain ⟨go47, co47, eo47, gb47, gl47, cl47, HG47⟩ := Kd.R_form HO_7.out (by omega)
        (first | cases eo47 | (injection eo47 with ea_ en_ ec_; (first | subst ea_ | (injection ea_ with ea_; subst ea_)); subst ec_; clear en_))
        have GB47 := Aside0.mk gb47
        have GG47 := Aside0.mk HG47
        clear gb47 gl47 HG47
        (first | simp only [add_plain] at hx491_0 | skip)
        obtain ⟨hx47_0, hf47_0⟩ := Kd.R_celln 0 HO_7.out (x70_3 : Int) p47 q47
        replace p47 := eq_true p47
        replace q47 := eq_true q47
        have HP48 := Kd.R_putg HO_7.out (x70_3 : Int) (wrap64 (-(rd x7_3 x70_3)))
        go_wp2_with (first | ((with_reducible refine gate_store (t := 3) (p := 80) rfl ?_); refine store_event (t := 3) (p := 80) (v := ?vo_w49) (w1 := (wr.setCell ⟨go47, (x70_3 : Int).toNat, none⟩ (.int .i64 (wrap64 (-(rd x7_3 x70_3)))))) ?hg ?ho ?hn ?hr ?_; (case ho => rfl); (case hg => rfl); (case hn => rfl); (case hr => first | (go_simp; done) | (go_simp; rfl)); intro w49 hw; have hg : wr.grownBy w49 (some go47) := (by rw [hw]; exact HP48.2); have hp_ : Kd.R (Kd.int .i64) 3 w49 w.heap.size (fun k_ => (w.heap.size ≤ k_)) (.slice (some ⟨go47, 0, none⟩) x7_3.length co43) y492 := (by rw [hw, Ny492.out]; exact HP48.1); clear HP48; replace HO_7 := am (hp_); replace HB := am ((by rw [hw]; exact below_set (HB.out) GB47.out : Below w.heap.size w w49)); clear hg hw hp_))
        (try simp only [← hl7_3])
        go_roundg k3
        case measure => have := HK1.out; have := HK2.out; have := HK3.out; omega
        case rel => exact ⟨(y492), (wrap64 (x70_3 + 1)), eqF, H', ⟨by have := HK1.out; have := HK2.out; have := HK3.out; omega⟩, ⟨by (try simp only [hl7_3]); (with_reducible repeat (first | apply Kd.R_alloc | apply Kd.R_drewN | apply Kd.R_drew)); exact HO_7.out⟩, ⟨mb HB.out⟩⟩
     rw [if_pos c21] at H
     have c21b0 := decide_eq_true c21
     clear c21
     replace H := nameA (([] : List (List Int))) (fun y475 => (impl_solve.l2 k2 l0 x3_1 t471 x7_2 x34_2 y475 (l0.length : Int) x34_2 x3_1 (x3_1.length : Int) 0) = some r) H; obtain ⟨y475, Ny475, H⟩ := H
     have H' := Aside0.mk H
     clear H
     go_wp2_with (first | ((with_reducible refine gate_dst (N := 37) rfl ?_); refine Kd.N_lit (Kd.slice 3 (Kd.int .i64)) _ 38 ?hg (N' := 37) ?hd (xs := ([] : List (List Int))) (inner := []) (ok := (fun k_ => (P0_ k_ ∨ w.heap.size ≤ k_) ∧ some k_ ≠ (.slice Ao17 x3_1.length co17 : Value).ownBlock ∧ some k_ ≠ (u7 : Value).ownBlock)) (okp := (fun k_ => (P0_ k_ ∨ w.heap.size ≤ k_) ∧ some k_ ≠ (.slice Ao17 x3_1.length co17 : Value).ownBlock ∧ some k_ ≠ (u7 : Value).ownBlock)) ?hr ?hp (fun _ hk => hk) ((show ∀ k_, wr.heap.size ≤ k_ → (fun k_ => (P0_ k_ ∨ w.heap.size ≤ k_) ∧ some k_ ≠ (.slice Ao17 x3_1.length co17 : Value).ownBlock ∧ some k_ ≠ (u7 : Value).ownBlock) k_ from fun k_ hk => ⟨(.inr (Nat.le_trans (below_size (mb HB.out)) hk)), Kd.fresh' (Kd.N_lt (mvN HO_3.out)) k_ hk, Kd.fresh' (Kd.R_lt (mvR HO_7.out)) k_ hk⟩) _ (Nat.le_refl _)) (Below.refl _ _) (Nat.le_refl _) (by simp) ?_; (case hd => rfl); (case hg => rfl); (case hr => first | (go_simp; done) | (go_simp; rfl)); (case hp => exact (Reps.none _ _)); intro v476 w22 ho23 hb hg_ hnew_; clear hg_ hnew_; (first | rw [← Ny475.out] at ho23 | (simp only [Int.reduceToNat] at ho23; rw [← Ny475.out] at ho23)); replace HO_0 := am (Kd.V_elder' (mvV HO_0.out) (Kd.N_base ho23) hb); replace HO_3 := am (Kd.N_elder' (mvN HO_3.out) (Kd.N_base ho23) hb); replace HO_7 := am (Kd.R_below (mvR HO_7.out) hb); have HO477 := am (Kd.N_lower ho23 (below_size (mb HB.out))); replace HB := am (below_step (mb HB.out) hb); clear hb ho23))
     go_loopg [9, 40] k2 (fun kq v9 v40 w' => ∃ (x7_3 : List Int) (x9_3 : List (List Int)) (x40_3 : Int), v40 = .int .i64 x40_3 ∧ Aside0 (impl_solve.l2 kq l0 x3_1 t471 x7_3 x34_2 x9_3 (l0.length : Int) x34_2 x3_1 (x3_1.length : Int) x40_3 = some r) ∧ Aside0 (kq ≤ k2) ∧ Aside0 (Kd.V k70 70 w' w.heap.size (fun k_ => (P0_ k_ ∨ w.heap.size ≤ k_) ∧ some k_ ≠ ((.slice Ao17 x3_1.length co17) : Value).ownBlock ∧ some k_ ≠ (u7 : Value).ownBlock ∧ some k_ ≠ (v9 : Value).ownBlock ∧ some k_ ≠ ((.slice Ao17 x3_1.length co17) : Value).ownBlock) (.slice A0 l0.length c0) l0) ∧ Aside0 (Kd.N (Kd.slice 3 (Kd.int .i64)) 38 w' w.heap.size (fun k_ => (P0_ k_ ∨ w.heap.size ≤ k_) ∧ some k_ ≠ (u7 : Value).ownBlock ∧ some k_ ≠ (v9 : Value).ownBlock) (.slice Ao17 x3_1.length co17) x3_1) ∧ Aside0 (Kd.R (Kd.int .i64) 3 w' w.heap.size (fun k_ => (w.heap.size ≤ k_)) u7 x7_3) ∧ Aside0 (Kd.N (Kd.slice 3 (Kd.int .i64)) 38 w' w.heap.size (fun k_ => (P0_ k_ ∨ w.heap.size ≤ k_) ∧ some k_ ≠ ((.slice Ao17 x3_1.length co17) : Value).ownBlock ∧ some k_ ≠ (u7 : Value).ownBlock ∧ some k_ ≠ ((.slice Ao17 x3_1.length co17) : Value).ownBlock) v9 x9_3) ∧ Aside0 (Kd.N (Kd.slice 3 (Kd.int .i64)) 38 w' w.heap.size (fun k_ => (P0_ k_ ∨ w.heap.size ≤ k_) ∧ some k_ ≠ (u7 : Value).ownBlock ∧ some k_ ≠ (v9 : Value).ownBlock) (.slice Ao17 x3_1.length co17) x3_1) ∧ Aside0 (Below w.heap.size w w'))
     case atStart => exact ⟨(x7_2), (y475), (0), eqF, H', ⟨Nat.le_refl _⟩, ⟨Kd.V_mono (mvV HO_0.out) (fun _ hk => ⟨hk.1.1, ⟨hk.1.2.1, ⟨hk.1.2.2, ⟨hk.2, hk.1.2.1⟩⟩⟩⟩)⟩, ⟨Kd.N_mono (mvN HO_3.out) (fun _ hk => ⟨hk.1.1, ⟨hk.1.2, hk.2⟩⟩)⟩, ⟨mvR HO_7.out⟩, ⟨Kd.N_mono (mvN HO477.out) (fun _ hk => ⟨hk.1, ⟨hk.2.1, ⟨hk.2.2, hk.2.1⟩⟩⟩)⟩, ⟨Kd.N_mono (mvN HO_3.out) (fun _ hk => ⟨hk.1.1, ⟨hk.1.2, hk.2⟩⟩)⟩, ⟨mb HB.out⟩⟩
     case round =>
      clear H'
      obtain ⟨x7_3, x9_3, x40_3, rfl, HA, HK3, HO_0, HO_3, HO_7, HO_9, HO_38, HB⟩ := hrel
      cases gk with
      | zero => exact absurd HA.out (by simp [impl_solve.l2])
      | succ k3 =>
       have H := HA.out
       clear HA
       simp only [impl_solve.l2] at H
       by_cases c24 : x40_3 < (x3_1.length : Int)
       rotate_left
       ·rw [if_neg c24] at H
        have c24b0 := decide_eq_false c24
        clear c24
        replace H := bindA H; obtain ⟨t487, A37, H⟩ := H
        replace H := ifA H; obtain ⟨LMc38, H⟩ := H
        replace H := nameA (x7_3 ++ [t487]) (fun y488 => (impl_solve.l1 k3 l0 x3_1 t471 y488 (l0.length : Int) (wrap64 (x34_2 + 1))) = some r) H; obtain ⟨y488, Ny488, H⟩ := H
        have H' := Aside0.mk H
        clear H
        obtain ⟨Ao39, co39, eo39⟩ := Kd.N_slice HO_9.out
        subst eo39
        go_wp2_with (first | ((with_reducible refine gC 81 rfl ?_); refine gL 62 Try.func81 #[.slice Ao39 x9_3.length co39] ?_; (with_reducible refine (impl_det.calls k3 _ _ x9_3 t487 _ ?side1 ?side2 A37.out).mono ?_); (case side1 => repeat (first | exact (Kd.N_reads' HO_9.out).2.2 | (with_reducible refine Kd.C_alloc ?_ _) | (with_reducible refine Kd.C_drewN ?_ _) | (with_reducible refine Kd.C_drew ?_))); (case side2 => exact (Kd.N_reads' HO_9.out).2.1); rintro e w40 ⟨rfl, hb⟩; refine ⟨_, rfl, ?_⟩; replace HO_0 := am (Kd.V_below (mvV HO_0.out) hb); replace HO_3 := am (Kd.N_below (mvN HO_3.out) hb); replace HO_7 := am (Kd.R_below (mvR HO_7.out) hb); replace HO_9 := am (Kd.N_below (mvN HO_9.out) hb); replace HO_38 := am (Kd.N_below (mvN HO_38.out) hb); replace HB := am (below_step (mb HB.out) hb); (try clear hb)) | ((with_reducible refine gate_builtin (b := .append) (xs := #[.tmp 60, .tmp 63]) rfl ?_); at_builtin; refine Kd.R_append (Kd.int .i64) (w0 := w) w.heap.size rfl (.tmp 60) (.tmp 63) 38 3 (.int .i64 0) 8 rfl Try.underlying38 info3 rfl (by decide) (by omega) u7 x7_3 t487 [.int .i64 t487] (fun k_ => (w.heap.size ≤ k_)) (fun _ => False) rfl rfl ?aP (fun _ hk => hk.elim) ?aF ?aO ?aB ?aS ?aL ?_; (case aP => exact rfl); (case aB => exact (mb HB.out)); (case aF => exact (fun k_ hk => (Nat.le_trans (below_size (mb HB.out)) hk))); (case aO => exact (mvR HO_7.out)); (case aS => exact (below_size (mb HB.out))); (case aL => have := LMc38.out; omega); intro v489 w41 ho hb hg hat; rw [← Ny488.out] at ho; replace HO_0 := am (Kd.V_afterv (ok := (fun k_ => (P0_ k_ ∨ w.heap.size ≤ k_) ∧ some k_ ≠ (.slice Ao17 x3_1.length co17 : Value).ownBlock ∧ some k_ ≠ (.slice Ao39 x9_3.length co39 : Value).ownBlock ∧ some k_ ≠ (.slice Ao17 x3_1.length co17 : Value).ownBlock)) (Kd.V_mono (mvV HO_0.out) (fun _ hk => ⟨⟨hk.1, ⟨hk.2.1, ⟨hk.2.2.2.1, hk.2.2.2.2⟩⟩⟩, hk.2.2.1⟩)) hg hat); replace HO_3 := am (Kd.N_afterv (ok := (fun k_ => (P0_ k_ ∨ w.heap.size ≤ k_) ∧ some k_ ≠ (.slice Ao39 x9_3.length co39 : Value).ownBlock)) (Kd.N_mono (mvN HO_3.out) (fun _ hk => ⟨⟨hk.1, hk.2.2⟩, hk.2.1⟩)) hg hat); replace HO_9 := am (Kd.N_afterv (ok := (fun k_ => (P0_ k_ ∨ w.heap.size ≤ k_) ∧ some k_ ≠ (.slice Ao17 x3_1.length co17 : Value).ownBlock ∧ some k_ ≠ (.slice Ao17 x3_1.length co17 : Value).ownBlock)) (Kd.N_mono (mvN HO_9.out) (fun _ hk => ⟨⟨hk.1, ⟨hk.2.1, hk.2.2.2⟩⟩, hk.2.2.1⟩)) hg hat); replace HO_38 := am (Kd.N_afterv (ok := (fun k_ => (P0_ k_ ∨ w.heap.size ≤ k_) ∧ some k_ ≠ (.slice Ao39 x9_3.length co39 : Value).ownBlock)) (Kd.N_mono (mvN HO_38.out) (fun _ hk => ⟨⟨hk.1, hk.2.2⟩, hk.2.1⟩)) hg hat); replace HB := am (hb); have HO490 := am (ho); clear HO_7; clear ho hb hg hat))
        go_roundg k3
        case measure => have := HK1.out; have := HK2.out; have := HK3.out; omega
        case rel => exact ⟨(y488), (wrap64 (x34_2 + 1)), eqF, H', ⟨by have := HK1.out; have := HK2.out; have := HK3.out; omega⟩, ⟨Kd.V_mono (mvV HO_0.out) (fun _ hk => ⟨hk.1.1, ⟨hk.1.2.1, hk.2⟩⟩)⟩, ⟨Kd.N_mono (mvN HO_3.out) (fun _ hk => ⟨hk.1.1, hk.2⟩)⟩, ⟨mvR HO490.out⟩, ⟨mb HB.out⟩⟩
       rw [if_pos c24] at H
       have c24b0 := decide_eq_true c24
       clear c24
       replace H := ifD H; obtain ⟨c25b0, H⟩ := H
       replace H := ifD H; obtain ⟨c26b0, H⟩ := H
       replace H := bindA H; obtain ⟨t479, A27, H⟩ := H
       replace H := ifD H; obtain ⟨c28b0, H⟩ := H
       replace H := ifD H; obtain ⟨c29b0, H⟩ := H
       replace H := ifD H; obtain ⟨c30b0, H⟩ := H
       replace H := nameA (t479.set (x34_2 : Int).toNat ((rd_T70 l0 x40_3).f1)) (fun y483 => (if x9_3.length < 5864062014805 then (impl_solve.l2 k3 l0 x3_1 t471 x7_3 x34_2 (x9_3 ++ [y483]) (l0.length : Int) x34_2 x3_1 (x3_1.length : Int) (wrap64 (x40_3 + 1))) else (none)) = some r) H; obtain ⟨y483, Ny483, H⟩ := H
       replace H := ifA H; obtain ⟨LMc32, H⟩ := H
       replace H := nameA (x9_3 ++ [y483]) (fun y484 => (impl_solve.l2 k3 l0 x3_1 t471 x7_3 x34_2 y484 (l0.length : Int) x34_2 x3_1 (x3_1.length : Int) (wrap64 (x40_3 + 1))) = some r) H; obtain ⟨y484, Ny484, H⟩ := H
       have H' := Aside0.mk H
       clear H
       have p478 : 0 ≤ (x40_3 : Int) := odE
       have q478 : x40_3 < (x3_1.length : Int) := odE
       obtain ⟨ad478, A478_0, c478_0, e478, hx478_0, hl478_0, hi478_0⟩ := at_L1 (Kd.N_reads' HO_38.out).2.2 x40_3 p478 q478
       cases e478
       obtain ⟨ce478, hce478, hMe478, hcc478⟩ := Kd.N_get HO_38.out [] x40_3 p478 (by first | exact q478 | exact odE | (have e_ := (Kd.N_reads' HO_38.out).1; omega))
       obtain ⟨ua478_0, uc478_0, rfl, ul478_0, ge478_0⟩ := Kd.FK_slice_open hMe478
       have hv478_0 := hcc478 0 _ rfl
       rw [Nat.add_zero, show ((Kd.slice 3 (Kd.int .i64))).sz = 1 from rfl, Nat.mul_one] at hv478_0
       replace hv478_0 := Option.some.inj (hv478_0.symm.trans hx478_0)
       injection hv478_0 with hva_ hvn_ hvc_
       rw [hva_] at ge478_0
       rw [hvc_] at ul478_0
       have HL478_0 := Aside0.mk (show Kd.V (Kd.int .i64) 3 _ w.heap.size _ _ (rd_L1 x3_1 x40_3) from Kd.V_mk ul478_0 ge478_0)
       clear hva_ hvn_ hvc_ ge478_0 ul478_0
       clear hcc478 hce478
       have HR478_0 := Aside0.mk hi478_0
       have HC478_0 := Aside0.mk hl478_0
       clear hi478_0 hl478_0
       replace p478 := eq_true p478
       replace q478 := eq_true q478
       go_wp2_with (first | ((with_reducible refine gC 58 rfl ?_); refine gL 46 Try.func58 #[.slice A478_0 (rd_L1 x3_1 x40_3).length c478_0] ?_; (with_reducible refine (slices_Clone_int_int.calls _ _ (rd_L1 x3_1 x40_3) t479 _ ?side1 ?side2 A27.out).mono ?_); (case side1 => repeat (first | exact (by repeat (first | (with_reducible exact HR478_0.out) | (with_reducible refine Kd.C_alloc ?_ _) | (with_reducible refine Kd.C_drewN ?_ _) | (with_reducible refine Kd.C_drew ?_) | exact HR478_0.out)) | (with_reducible refine Kd.C_alloc ?_ _) | (with_reducible refine Kd.C_drewN ?_ _) | (with_reducible refine Kd.C_drew ?_))); (case side2 => exact HC478_0.out); rintro e w33 ⟨v480, rfl, ho0, hb⟩; refine ⟨_, rfl, ?_⟩; replace HO_0 := am (Kd.V_elder' (mvV HO_0.out) (Kd.R_base ho0) hb); replace HO_3 := am (Kd.N_elder' (mvN HO_3.out) (Kd.R_base ho0) hb); replace HO_9 := am (Kd.N_elder' (mvN HO_9.out) (Kd.R_base ho0) hb); replace HO_38 := am (Kd.N_elder' (mvN HO_38.out) (Kd.R_base ho0) hb); replace HL478_0 := am (Kd.V_elder' (mvV HL478_0.out) (Kd.R_base ho0) hb); have HO481 := am (Kd.R_lower (Kd.R_new' (Kd.R_newM (M := fun k_ => (w.heap.size ≤ k_)) ho0 (below_size (mb HB.out)) (fun k_ h_ => h_)) (Kd.R_lt (mvR HO_7.out))) (below_size (mb HB.out))); replace HO_7 := am (Kd.R_elder' (mvR HO_7.out) (Kd.R_base ho0) hb); replace HR478_0 := am (Kd.C_below (by repeat (first | (with_reducible exact HR478_0.out) | (with_reducible refine Kd.C_alloc ?_ _) | (with_reducible refine Kd.C_drewN ?_ _) | (with_reducible refine Kd.C_drew ?_) | exact HR478_0.out)) hb); replace HB := am (below_step (mb HB.out) hb); (try clear hb ho0); have p482 : 0 ≤ (x40_3 : Int) := odE; have q482 : x40_3 < (l0.length : Int) := odE; obtain ⟨ad482, A482_0, c482_0, e482, hx482_0, hx482_1, hx482_2, hl482_0, hi482_0⟩ := at_T70 (Kd.V_reads' HO_0.out).2.2 x40_3 p482 q482; cases e482; obtain ⟨ce482, hce482, hMe482, hcc482⟩ := Kd.V_get HO_0.out z70 x40_3 p482 (by first | exact q482 | exact odE | (have e_ := (Kd.V_reads' HO_0.out).1; omega)); obtain ⟨ua482_0, uc482_0, rfl, ul482_0, ge482_0⟩ := k70_openF hMe482; have hv482_0 := hcc482 0 _ rfl; rw [Nat.add_zero] at hv482_0; replace hv482_0 := Option.some.inj (hv482_0.symm.trans hx482_0); injection hv482_0 with hva_ hvn_ hvc_; rw [hva_] at ge482_0; rw [hvc_] at ul482_0; have HL482_0 := Aside0.mk (show Kd.V (Kd.int .i64) 3 _ w.heap.size _ _ ((rd_T70 l0 x40_3).f0) from Kd.V_mk ul482_0 ge482_0); clear hva_ hvn_ hvc_ ge482_0 ul482_0; clear hcc482 hce482; have HR482_0 := Aside0.mk hi482_0; have HC482_0 := Aside0.mk hl482_0; clear hi482_0 hl482_0; replace p482 := eq_true p482; replace q482 := eq_true q482; have p31 : 0 ≤ (x34_2 : Int) := odE; have q31 : (x34_2 : Int) < ((t479.length : Int) : Int) := odE; obtain ⟨go31, co31, eo31, gb31, gl31, cl31, HG31⟩ := Kd.R_form HO481.out (by omega); (first | cases eo31 | (injection eo31 with ea_ en_ ec_; (first | subst ea_ | (injection ea_ with ea_; subst ea_)); subst ec_; clear en_)); have GB31 := Aside0.mk gb31; have GG31 := Aside0.mk HG31; clear gb31 gl31 HG31; obtain ⟨hx31_0, hf31_0⟩ := Kd.R_celln 0 HO481.out (x34_2 : Int) p31 q31; replace p31 := eq_true p31; replace q31 := eq_true q31; have n_ := Aside0.mk (Kd.R_mono (ok' := (fun k_ => (w.heap.size ≤ k_) ∧ some k_ ≠ (u7 : Value).ownBlock)) HO481.out (fun k_ hk => ⟨hk.1.1, hk.2⟩)); clear HO481; have HO481 := n_; clear n_; obtain ⟨hy34_, hz34_⟩ := Kd.R_celln 0 HO481.out (x34_2 : Int) (odE) (odE); have HP34 := Kd.R_putg HO481.out (x34_2 : Int) ((rd_T70 l0 x40_3).f1)) | ((with_reducible refine gate_store (t := 3) (p := 54) rfl ?_); refine store_event (t := 3) (p := 54) (v := ?vo_w35) (w1 := (w33.setCell ⟨go31, (x34_2 : Int).toNat, none⟩ (.int .i64 ((rd_T70 l0 x40_3).f1)))) ?hg ?ho ?hn ?hr ?_; (case ho => rfl); (case hg => rfl); (case hn => rfl); (case hr => first | (go_simp; done) | (go_simp; rfl)); intro w35 hw; have hg : w33.grownBy w35 (some go31) := (by rw [hw]; exact HP34.2); have hp_ : Kd.R (Kd.int .i64) 3 w35 w.heap.size (fun k_ => (w.heap.size ≤ k_) ∧ some k_ ≠ (u7 : Value).ownBlock) (.slice (some ⟨go31, 0, none⟩) t479.length co31) y483 := (by rw [hw, Ny483.out]; exact HP34.1); clear HP34; replace HO_0 := am (Kd.V_afterv (v := (.slice (some ⟨go31, 0, none⟩) t479.length co31)) (v1 := (.slice (some ⟨go31, 0, none⟩) t479.length co31)) (ok := (fun k_ => (P0_ k_ ∨ w.heap.size ≤ k_) ∧ some k_ ≠ (.slice (some ad478) x3_1.length co17 : Value).ownBlock ∧ some k_ ≠ (u7 : Value).ownBlock ∧ some k_ ≠ (u9 : Value).ownBlock ∧ some k_ ≠ (.slice (some ad478) x3_1.length co17 : Value).ownBlock)) (mvV HO_0.out) hg (.inl rfl)); replace HO_3 := am (Kd.N_afterv (v := (.slice (some ⟨go31, 0, none⟩) t479.length co31)) (v1 := (.slice (some ⟨go31, 0, none⟩) t479.length co31)) (ok := (fun k_ => (P0_ k_ ∨ w.heap.size ≤ k_) ∧ some k_ ≠ (u7 : Value).ownBlock ∧ some k_ ≠ (u9 : Value).ownBlock)) (mvN HO_3.out) hg (.inl rfl)); replace HO_7 := am (Kd.R_after (v := (.slice (some ⟨go31, 0, none⟩) t479.length co31)) (v1 := (.slice (some ⟨go31, 0, none⟩) t479.length co31)) (ok := (fun k_ => (w.heap.size ≤ k_))) (mvR HO_7.out) hg (.inl rfl)); replace HO_9 := am (Kd.N_afterv (v := (.slice (some ⟨go31, 0, none⟩) t479.length co31)) (v1 := (.slice (some ⟨go31, 0, none⟩) t479.length co31)) (ok := (fun k_ => (P0_ k_ ∨ w.heap.size ≤ k_) ∧ some k_ ≠ (.slice (some ad478) x3_1.length co17 : Value).ownBlock ∧ some k_ ≠ (u7 : Value).ownBlock ∧ some k_ ≠ (.slice (some ad478) x3_1.length co17 : Value).ownBlock)) (mvN HO_9.out) hg (.inl rfl)); replace HO_38 := am (Kd.N_afterv (v := (.slice (some ⟨go31, 0, none⟩) t479.length co31)) (v1 := (.slice (some ⟨go31, 0, none⟩) t479.length co31)) (ok := (fun k_ => (P0_ k_ ∨ w.heap.size ≤ k_) ∧ some k_ ≠ (u7 : Value).ownBlock ∧ some k_ ≠ (u9 : Value).ownBlock)) (mvN HO_38.out) hg (.inl rfl)); replace HL478_0 := am (Kd.V_afterv (v := (.slice (some ⟨go31, 0, none⟩) t479.length co31)) (v1 := (.slice (some ⟨go31, 0, none⟩) t479.length co31)) (ok := (fun k_ => (P0_ k_ ∨ w.heap.size ≤ k_) ∧ some k_ ≠ (u7 : Value).ownBlock ∧ some k_ ≠ (u9 : Value).ownBlock ∧ some k_ ≠ (.slice (some ad478) x3_1.length co17 : Value).ownBlock)) (Kd.V_mono (mvV HL478_0.out) (fun _ hk => ⟨⟨hk.1.1.1, ⟨hk.1.1.2.1, ⟨hk.1.1.2.2, hk.1.2⟩⟩⟩, hk.2⟩)) hg (.inl rfl)); replace HO481 := am (hp_); replace HL482_0 := am (Kd.V_afterv (v := (.slice (some ⟨go31, 0, none⟩) t479.length co31)) (v1 := (.slice (some ⟨go31, 0, none⟩) t479.length co31)) (ok := (fun k_ => (P0_ k_ ∨ w.heap.size ≤ k_) ∧ some k_ ≠ (.slice (some ad478) x3_1.length co17 : Value).ownBlock ∧ some k_ ≠ (u7 : Value).ownBlock ∧ some k_ ≠ (u9 : Value).ownBlock ∧ some k_ ≠ (.slice (some ad478) x3_1.length co17 : Value).ownBlock)) (mvV HL482_0.out) hg (.inl rfl)); replace HB := am ((by rw [hw]; exact below_set (HB.out) GB31.out : Below w.heap.size w w35)); clear hg hw hp_) | ((with_reducible refine gate_builtin (b := .append) (xs := #[.tmp 55, .tmp 57]) rfl ?_); at_builtin; refine Kd.N_append (Kd.slice 3 (Kd.int .i64)) (w0 := w) w.heap.size rfl (.tmp 55) (.tmp 57) 22 38 (.slice none 0 0) 24 rfl Try.underlying22 info38 rfl (by decide) (by omega) u9 x9_3 y483 [.slice (some ⟨go31, 0, none⟩) t479.length co31] (fun k_ => (P0_ k_ ∨ w.heap.size ≤ k_) ∧ some k_ ≠ (.slice (some ad478) x3_1.length co17 : Value).ownBlock ∧ some k_ ≠ (u7 : Value).ownBlock ∧ some k_ ≠ (.slice (some ad478) x3_1.length co17 : Value).ownBlock) (fun k_ => ((fun k_ => (P0_ k_ ∨ w.heap.size ≤ k_) ∧ some k_ ≠ (.slice (some ad478) x3_1.length co17 : Value).ownBlock ∧ some k_ ≠ (u7 : Value).ownBlock ∧ some k_ ≠ (.slice (some ad478) x3_1.length co17 : Value).ownBlock)) k_ ∧ some k_ ≠ (u9 : Value).ownBlock) rfl rfl ?aP (fun _ hk => hk) ?aF ?aO ?aB ?aS ?aL ?_; (case aP => exact (FKR (Kd.R_mono (ok' := (fun k_ => ((fun k_ => (P0_ k_ ∨ w.heap.size ≤ k_) ∧ some k_ ≠ (.slice (some ad478) x3_1.length co17 : Value).ownBlock ∧ some k_ ≠ (u7 : Value).ownBlock ∧ some k_ ≠ (.slice (some ad478) x3_1.length co17 : Value).ownBlock)) k_ ∧ some k_ ≠ (u9 : Value).ownBlock)) (Kd.R_apart' (Kd.R_apart' (Kd.R_apart' (HO481.out) (Kd.N_typed HO_3.out) (by decide)) (Kd.N_typed HO_38.out) (by decide)) (Kd.N_typed HO_9.out) (by decide)) (fun k_ hk => ⟨⟨(.inr (hk.1.1.1.1)), ⟨hk.1.1.2, ⟨hk.1.1.1.2, hk.1.2⟩⟩⟩, hk.2⟩)))); (case aB => exact (mb HB.out)); (case aF => exact (fun k_ hk => ⟨(.inr (Nat.le_trans (below_size (mb HB.out)) hk)), Kd.fresh' (Kd.N_lt (mvN HO_3.out)) k_ hk, Kd.fresh' (Kd.R_lt (mvR HO_7.out)) k_ hk, Kd.fresh' (Kd.N_lt (mvN HO_38.out)) k_ hk⟩)); (case aO => exact (Kd.N_mono (mvN HO_9.out) (fun _ hk => ⟨hk.1.1, ⟨hk.1.2.1, ⟨hk.1.2.2.1, hk.1.2.2.2⟩⟩⟩))); (case aS => exact (below_size (mb HB.out))); (case aL => have := LMc32.out; omega); intro v485 w36 ho hb hg hat; rw [← Ny484.out] at ho; replace HO_0 := am (Kd.V_afterv (ok := (fun k_ => (P0_ k_ ∨ w.heap.size ≤ k_) ∧ some k_ ≠ (.slice (some ad478) x3_1.length co17 : Value).ownBlock ∧ some k_ ≠ (u7 : Value).ownBlock ∧ some k_ ≠ (.slice (some ad478) x3_1.length co17 : Value).ownBlock ∧ some k_ ≠ (.slice (some ⟨go31, 0, none⟩) t479.length co31 : Value).ownBlock)) (Kd.V_mono (mvV HO_0.out) (fun _ hk => ⟨⟨hk.1.1, ⟨hk.1.2.1, ⟨hk.1.2.2.1, ⟨hk.1.2.2.2.2, hk.2⟩⟩⟩⟩, hk.1.2.2.2.1⟩)) hg hat); replace HO_3 := am (Kd.N_afterv (ok := (fun k_ => (P0_ k_ ∨ w.heap.size ≤ k_) ∧ some k_ ≠ (u7 : Value).ownBlock ∧ some k_ ≠ (.slice (some ⟨go31, 0, none⟩) t479.length co31 : Value).ownBlock)) (Kd.N_mono (mvN HO_3.out) (fun _ hk => ⟨⟨hk.1.1, ⟨hk.1.2.1, hk.2⟩⟩, hk.1.2.2⟩)) hg hat); replace HO_7 := am (Kd.R_over' (mvR HO_7.out) (Kd.N_typed (mvN HO_9.out)) (by decide) hg); replace HO_38 := am (Kd.N_afterv (ok := (fun k_ => (P0_ k_ ∨ w.heap.size ≤ k_) ∧ some k_ ≠ (u7 : Value).ownBlock ∧ some k_ ≠ (.slice (some ⟨go31, 0, none⟩) t479.length co31 : Value).ownBlock)) (Kd.N_mono (mvN HO_38.out) (fun _ hk => ⟨⟨hk.1.1, ⟨hk.1.2.1, hk.2⟩⟩, hk.1.2.2⟩)) hg hat); replace HL478_0 := am (Kd.V_afterv (ok := (fun k_ => (P0_ k_ ∨ w.heap.size ≤ k_) ∧ some k_ ≠ (u7 : Value).ownBlock ∧ some k_ ≠ (.slice (some ad478) x3_1.length co17 : Value).ownBlock ∧ some k_ ≠ (.slice (some ⟨go31, 0, none⟩) t479.length co31 : Value).ownBlock)) (Kd.V_mono (mvV HL478_0.out) (fun _ hk => ⟨⟨hk.1.1, ⟨hk.1.2.1, ⟨hk.1.2.2.2, hk.2⟩⟩⟩, hk.1.2.2.1⟩)) hg hat); replace HL482_0 := am (Kd.V_afterv (ok := (fun k_ => (P0_ k_ ∨ w.heap.size ≤ k_) ∧ some k_ ≠ (.slice (some ad478) x3_1.length co17 : Value).ownBlock ∧ some k_ ≠ (u7 : Value).ownBlock ∧ some k_ ≠ (.slice (some ad478) x3_1.length co17 : Value).ownBlock ∧ some k_ ≠ (.slice (some ⟨go31, 0, none⟩) t479.length co31 : Value).ownBlock)) (Kd.V_mono (mvV HL482_0.out) (fun _ hk => ⟨⟨hk.1.1, ⟨hk.1.2.1, ⟨hk.1.2.2.1, ⟨hk.1.2.2.2.2, hk.2⟩⟩⟩⟩, hk.1.2.2.2.1⟩)) hg hat); replace HB := am (hb); have HO486 := am (ho); clear HO_9; clear HO481; clear ho hb hg hat))
       go_roundg k3
       case measure => have := HK1.out; have := HK2.out; have := HK3.out; omega
       case rel => exact ⟨(x7_3), (y484), (wrap64 (x40_3 + 1)), eqF, H', ⟨by have := HK1.out; have := HK2.out; have := HK3.out; omega⟩, ⟨Kd.V_mono (mvV HO_0.out) (fun _ hk => ⟨hk.1.1, ⟨hk.1.2.1, ⟨hk.1.2.2.1, ⟨hk.2, hk.1.2.2.2.1⟩⟩⟩⟩)⟩, ⟨Kd.N_mono (mvN HO_3.out) (fun _ hk => ⟨hk.1.1, ⟨hk.1.2.1, hk.2⟩⟩)⟩, ⟨Kd.R_mono (mvR HO_7.out) (fun _ hk => hk.1)⟩, ⟨mvN HO486.out⟩, ⟨Kd.N_mono (mvN HO_38.out) (fun _ hk => ⟨hk.1.1, ⟨hk.1.2.1, hk.2⟩⟩)⟩, ⟨mb HB.out⟩⟩
theorem impl_solve.callsN (k : Nat) (P0_ : Nat → Prop) (A0 : Option Addr) (c0 : Nat) (l0 : List (S70)) (r : List Int) (w : World) (hs0 : Kd.V k70 70 w w.heap.size (fun k_ => P0_ k_) (.slice A0 l0.length c0) l0) (h : impl_solve.f k l0 = some r) :
  Calls Try.prog 62 #[.slice A0 l0.length c0] w fun e w' => ∃ v0_ : Value, e = .returned (v0_) ∧ (r = [] → v0_ = .slice none 0 0) ∧ Kd.R (Kd.int .i64) 3 w' w.heap.size (fun k_ => (w.heap.size ≤ k_)) v0_ r ∧ Below w.heap.size w w' := by
 have hu70 := Try.underlying70
 have HO0 := Aside0.mk (show Kd.V k70 70 w w.heap.size (fun k_ => (P0_ k_ ∨ w.heap.size ≤ k_)) (.slice A0 l0.length c0) l0 from Kd.V_mono hs0 (fun k_ hk => .inl hk))
 have HB := Aside0.mk (Below.refl w.heap.size w)
 have H : (impl_solve.l0 k l0 (([] : List (List Int))) l0 (l0.length : Int) 0) = some r := h
 clear h
 replace H := nameA (([] : List (List Int))) (fun y463 => (impl_solve.l0 k l0 y463 l0 (l0.length : Int) 0) = some r) H; obtain ⟨y463, Ny463, H⟩ := H
 have H' := Aside0.mk H
 clear H
 go_enter Try.func62, Try.ntmps62
 go_wp2_with (first | ((with_reducible refine gate_dst (N := 14) rfl ?_); refine Kd.N_lit (Kd.slice 3 (Kd.int .i64)) _ 38 ?hg (N' := 14) ?hd (xs := ([] : List (List Int))) (inner := []) (ok := (fun k_ => (P0_ k_ ∨ w.heap.size ≤ k_))) (okp := (fun k_ => (P0_ k_ ∨ w.heap.size ≤ k_))) ?hr ?hp (fun _ hk => hk) ((show ∀ k_, w.heap.size ≤ k_ → (fun k_ => (P0_ k_ ∨ w.heap.size ≤ k_)) k_ from fun k_ hk => (.inr (Nat.le_trans (below_size (mb HB.out)) hk))) _ (Nat.le_refl _)) (Below.refl _ _) (Nat.le_refl _) (by simp) ?_; (case hd => rfl); (case hg => rfl); (case hr => first | (go_simp; done) | (go_simp; rfl)); (case hp => exact (Reps.none _ _)); intro v464 w2 ho3 hb hg_ hnew_; clear hg_ hnew_; (first | rw [← Ny463.out] at ho3 | (simp only [Int.reduceToNat] at ho3; rw [← Ny463.out] at ho3)); replace HO0 := am (Kd.V_elder' (mvV HO0.out) (Kd.N_base ho3) hb); have HO465 := am (Kd.N_lower ho3 (below_size (mb HB.out))); replace HB := am (below_step (mb HB.out) hb); clear hb ho3))
 go_loopg [3, 17] k (fun kq v3 v17 w' => ∃ (x3_1 : List (List Int)) (x17_1 : Int), v17 = .int .i64 x17_1 ∧ Aside0 (impl_solve.l0 kq l0 x3_1 l0 (l0.length : Int) x17_1 = some r) ∧ Aside0 (kq ≤ k) ∧ Aside0 (Kd.V k70 70 w' w.heap.size (fun k_ => (P0_ k_ ∨ w.heap.size ≤ k_) ∧ some k_ ≠ (v3 : Value).ownBlock) (.slice A0 l0.length c0) l0) ∧ Aside0 (Kd.N (Kd.slice 3 (Kd.int .i64)) 38 w' w.heap.size (fun k_ => (P0_ k_ ∨ w.heap.size ≤ k_)) v3 x3_1) ∧ Aside0 (Kd.V k70 70 w' w.heap.size (fun k_ => (P0_ k_ ∨ w.heap.size ≤ k_) ∧ some k_ ≠ (v3 : Value).ownBlock) (.slice A0 l0.length c0) l0) ∧ Aside0 (Below w.heap.size w w'))
 case atStart => exact ⟨(y463), (0), eqF, H', ⟨Nat.le_refl _⟩, ⟨mvV HO0.out⟩, ⟨mvN HO465.out⟩, ⟨mvV HO0.out⟩, ⟨mb HB.out⟩⟩
 case round =>
  clear H'
  obtain ⟨x3_1, x17_1, rfl, HA, HK1, HO_0, HO_3, HO_15, HB⟩ := hrel
  cases gk with
  | zero => exact absurd HA.out (by simp [impl_solve.l0])
  | succ k1 =>
   have H := HA.out
   clear HA
   simp only [impl_solve.l0] at H
   by_cases c4 : x17_1 < (l0.length : Int)
   ·rw [if_pos c4] at H
    have c4b0 := decide_eq_true c4
    clear c4
    replace H := ifD H; obtain ⟨c5b0, H⟩ := H
    replace H := ifD H; obtain ⟨c6b0, H⟩ := H
    replace H := ifA H; obtain ⟨LMc7, H⟩ := H
    replace H := nameA (x3_1 ++ [(rd_T70 l0 x17_1).f0]) (fun y468 => (impl_solve.l0 k1 l0 y468 l0 (l0.length : Int) (wrap64 (x17_1 + 1))) = some r) H; obtain ⟨y468, Ny468, H⟩ := H
    have H' := Aside0.mk H
    clear H
    have p466 : 0 ≤ (x17_1 : Int) := odE
    have q466 : x17_1 < (l0.length : Int) := odE
    obtain ⟨ad466, A466_0, c466_0, e466, hx466_0, hx466_1, hx466_2, hl466_0, hi466_0⟩ := at_T70 (Kd.V_reads' HO_15.out).2.2 x17_1 p466 q466
    cases e466
    obtain ⟨ce466, hce466, hMe466, hcc466⟩ := Kd.V_get HO_15.out z70 x17_1 p466 (by first | exact q466 | exact odE | (have e_ := (Kd.V_reads' HO_15.out).1; omega))
    obtain ⟨ua466_0, uc466_0, rfl, ul466_0, ge466_0⟩ := k70_openF hMe466
    have hv466_0 := hcc466 0 _ rfl
    rw [Nat.add_zero] at hv466_0
    replace hv466_0 := Option.some.inj (hv466_0.symm.trans hx466_0)
    injection hv466_0 with hva_ hvn_ hvc_
    rw [hva_] at ge466_0
    rw [hvc_] at ul466_0
    have HL466_0 := Aside0.mk (show Kd.V (Kd.int .i64) 3 _ w.heap.size _ _ ((rd_T70 l0 x17_1).f0) from Kd.V_mk ul466_0 ge466_0)
    clear hva_ hvn_ hvc_ ge466_0 ul466_0
    clear hcc466 hce466
    have HR466_0 := Aside0.mk hi466_0
    have HC466_0 := Aside0.mk hl466_0
    clear hi466_0 hl466_0
    replace p466 := eq_true p466
    replace q466 := eq_true q466
    go_wp2_with (first | ((with_reducible refine gate_dst (N := 5) rfl ?_); refine bE 5 #[.slice none 0 0, .int .i64 0, .bool false] 70 ?_; intro gb467 hg w8 hbox hb; replace HO_0 := am (Kd.V_below (Kd.V_elderB (mvV HO_0.out) gb467 (Nat.le_of_eq hg.symm)) hb); replace HO_3 := am (Kd.N_below (Kd.N_elderB (mvN HO_3.out) gb467 (Nat.le_of_eq hg.symm)) hb); replace HO_15 := am (Kd.V_below (Kd.V_elderB (mvV HO_15.out) gb467 (Nat.le_of_eq hg.symm)) hb); replace HL466_0 := am (Kd.V_below (Kd.V_elderB (mvV HL466_0.out) gb467 (Nat.le_of_eq hg.symm)) hb); replace HR466_0 := am (Kd.C_below (by repeat (first | (with_reducible exact HR466_0.out) | (with_reducible refine Kd.C_alloc ?_ _) | (with_reducible refine Kd.C_drewN ?_ _) | (with_reducible refine Kd.C_drew ?_) | exact HR466_0.out)) hb); have BK467 := am (hbox); have GW467 := am ((by rw [hg]; exact (below_size (mb HB.out)) : w.heap.size ≤ gb467)); have GE467 := GW467; replace HB := am (below_step (mb HB.out) hb); clear hb hbox hg; have hcz9_0 := cell0 BK467.out; have hcz9_1 := cell1 BK467.out; have hcz9_2 := cell2 BK467.out; have hfz9_0 := blk_frozen BK467.out 0; have hfz9_1 := blk_frozen BK467.out 1; have hfz9_2 := blk_frozen BK467.out 2) | ((with_reducible refine gate_store (t := 70) (p := 5) rfl ?_); refine store_event (t := 70) (p := 5) (v := ?vo_w10) (w1 := (((w8.setCell ⟨gb467, 0, none⟩ (.slice A466_0 ((rd_T70 l0 x17_1).f0).length c466_0)).setCell ⟨gb467, 1, none⟩ (.int .i64 ((rd_T70 l0 x17_1).f1))).setCell ⟨gb467, 2, none⟩ (.bool ((rd_T70 l0 x17_1).f2)))) ?hg ?ho ?hn ?hr ?_; (case ho => rfl); (case hg => rfl); (case hn => rfl); (case hr => first | (go_simp; done) | (go_simp; rfl)); intro w10 hw; have n0_ : Aside0 (Kd.V k70 70 w10 w.heap.size (fun k_ => (P0_ k_ ∨ w.heap.size ≤ k_) ∧ some k_ ≠ (u3 : Value).ownBlock ∧ k_ ≠ gb467) (.slice (some ad466) l0.length c0) l0) := ⟨(by rw [hw]; exact (by (with_reducible repeat (first | apply Kd.V_alloc | apply Kd.V_drewN | apply Kd.V_drew)); exact Kd.V_mono (Kd.V_far (p := ⟨gb467, 2, none⟩) (Kd.V_far (p := ⟨gb467, 1, none⟩) (Kd.V_far (p := ⟨gb467, 0, none⟩) (Kd.V_mono HO_0.out (fun k_ hk => (⟨hk, hk.2⟩ : _ ∧ k_ ≠ gb467))) (fun _ hk => hk.2) (.slice A466_0 ((rd_T70 l0 x17_1).f0).length c466_0)) (fun _ hk => hk.2) (.int .i64 ((rd_T70 l0 x17_1).f1))) (fun _ hk => hk.2) (.bool ((rd_T70 l0 x17_1).f2))) (fun _ hk => ⟨hk.1.1.1, ⟨hk.1.1.2, hk.1.2⟩⟩)))⟩; have n1_ : Aside0 (Kd.N (Kd.slice 3 (Kd.int .i64)) 38 w10 w.heap.size (fun k_ => (P0_ k_ ∨ w.heap.size ≤ k_) ∧ k_ ≠ gb467) u3 x3_1) := ⟨(by rw [hw]; exact (by (with_reducible repeat (first | apply Kd.N_alloc | apply Kd.N_drewN | apply Kd.N_drew)); exact Kd.N_mono (Kd.N_far (p := ⟨gb467, 2, none⟩) (Kd.N_far (p := ⟨gb467, 1, none⟩) (Kd.N_far (p := ⟨gb467, 0, none⟩) (Kd.N_mono HO_3.out (fun k_ hk => (⟨hk, hk.2⟩ : _ ∧ k_ ≠ gb467))) (fun _ hk => hk.2) (.slice A466_0 ((rd_T70 l0 x17_1).f0).length c466_0)) (fun _ hk => hk.2) (.int .i64 ((rd_T70 l0 x17_1).f1))) (fun _ hk => hk.2) (.bool ((rd_T70 l0 x17_1).f2))) (fun _ hk => ⟨hk.1.1, hk.1.2⟩)))⟩; have n2_ : Aside0 (Kd.V k70 70 w10 w.heap.size (fun k_ => (P0_ k_ ∨ w.heap.size ≤ k_) ∧ some k_ ≠ (u3 : Value).ownBlock ∧ k_ ≠ gb467) (.slice (some ad466) l0.length c0) l0) := ⟨(by rw [hw]; exact (by (with_reducible repeat (first | apply Kd.V_alloc | apply Kd.V_drewN | apply Kd.V_drew)); exact Kd.V_mono (Kd.V_far (p := ⟨gb467, 2, none⟩) (Kd.V_far (p := ⟨gb467, 1, none⟩) (Kd.V_far (p := ⟨gb467, 0, none⟩) (Kd.V_mono HO_15.out (fun k_ hk => (⟨hk, hk.2⟩ : _ ∧ k_ ≠ gb467))) (fun _ hk => hk.2) (.slice A466_0 ((rd_T70 l0 x17_1).f0).length c466_0)) (fun _ hk => hk.2) (.int .i64 ((rd_T70 l0 x17_1).f1))) (fun _ hk => hk.2) (.bool ((rd_T70 l0 x17_1).f2))) (fun _ hk => ⟨hk.1.1.1, ⟨hk.1.1.2, hk.1.2⟩⟩)))⟩; have n3_ : Aside0 (Kd.V (Kd.int .i64) 3 w10 w.heap.size (fun k_ => (P0_ k_ ∨ w.heap.size ≤ k_) ∧ some k_ ≠ (u3 : Value).ownBlock ∧ k_ ≠ gb467) (.slice A466_0 ((rd_T70 l0 x17_1).f0).length c466_0) ((rd_T70 l0 x17_1).f0)) := ⟨(by rw [hw]; exact (by (with_reducible repeat (first | apply Kd.V_alloc | apply Kd.V_drewN | apply Kd.V_drew)); exact Kd.V_mono (Kd.V_far (p := ⟨gb467, 2, none⟩) (Kd.V_far (p := ⟨gb467, 1, none⟩) (Kd.V_far (p := ⟨gb467, 0, none⟩) (Kd.V_mono HL466_0.out (fun k_ hk => (⟨hk, hk.2⟩ : _ ∧ k_ ≠ gb467))) (fun _ hk => hk.2) (.slice A466_0 ((rd_T70 l0 x17_1).f0).length c466_0)) (fun _ hk => hk.2) (.int .i64 ((rd_T70 l0 x17_1).f1))) (fun _ hk => hk.2) (.bool ((rd_T70 l0 x17_1).f2))) (fun _ hk => ⟨hk.1.1.1, ⟨hk.1.1.2, hk.1.2⟩⟩)))⟩; have n4_ : Aside0 (w10.heap[gb467]? = some (.cells #[.slice A466_0 ((rd_T70 l0 x17_1).f0).length c466_0, .int .i64 ((rd_T70 l0 x17_1).f1), .bool ((rd_T70 l0 x17_1).f2)] 70 (0, 0))) := ⟨(by rw [hw]; exact (by (with_reducible repeat (first | refine blk_drewN ?_ _ | refine blk_drew ?_ | refine blk_alloc ?_ _)); refine blk_put (cs := #[.slice A466_0 ((rd_T70 l0 x17_1).f0).length c466_0, .int .i64 ((rd_T70 l0 x17_1).f1), .bool false]) ?_ 2 _ rfl; (with_reducible repeat (first | refine blk_drewN ?_ _ | refine blk_drew ?_ | refine blk_alloc ?_ _)); refine blk_put (cs := #[.slice A466_0 ((rd_T70 l0 x17_1).f0).length c466_0, .int .i64 0, .bool false]) ?_ 1 _ rfl; (with_reducible repeat (first | refine blk_drewN ?_ _ | refine blk_drew ?_ | refine blk_alloc ?_ _)); refine blk_put (cs := #[.slice none 0 0, .int .i64 0, .bool false]) ?_ 0 _ rfl; (with_reducible repeat (first | refine blk_drewN ?_ _ | refine blk_drew ?_ | refine blk_alloc ?_ _)); exact BK467.out))⟩; have n5_ : Aside0 (Below w.heap.size w w10) := ⟨(by rw [hw]; exact (mb HB.out))⟩; clear hw; clear HO_0; clear HO_3; clear HO_15; clear HL466_0; clear BK467; clear HB; have HO_0 := n0_; have HO_3 := n1_; have HO_15 := n2_; have HL466_0 := n3_; have BK467 := n4_; have HB := n5_; clear n0_ n1_ n2_ n3_ n4_ n5_; have hcz11_0 := cell0 BK467.out; have hcz11_1 := cell1 BK467.out; have hcz11_2 := cell2 BK467.out; have hfz11_0 := blk_frozen BK467.out 0; have hfz11_1 := blk_frozen BK467.out 1; have hfz11_2 := blk_frozen BK467.out 2) | ((with_reducible refine gate_builtin (b := .append) (xs := #[.tmp 21, .tmp 24]) rfl ?_); at_builtin; refine Kd.N_append (Kd.slice 3 (Kd.int .i64)) (w0 := w) w.heap.size rfl (.tmp 21) (.tmp 24) 22 38 (.slice none 0 0) 24 rfl Try.underlying22 info38 rfl (by decide) (by omega) u3 x3_1 ((rd_T70 l0 x17_1).f0) [.slice A466_0 ((rd_T70 l0 x17_1).f0).length c466_0] (fun k_ => (P0_ k_ ∨ w.heap.size ≤ k_) ∧ k_ ≠ gb467) (fun k_ => ((fun k_ => (P0_ k_ ∨ w.heap.size ≤ k_) ∧ k_ ≠ gb467)) k_ ∧ some k_ ≠ (u3 : Value).ownBlock) rfl rfl ?aP (fun _ hk => hk) ?aF ?aO ?aB ?aS ?aL ?_; (case aP => exact (Kd.FK_slice_mk (Kd.V_reads' (Kd.V_mono (ok' := (fun k_ => ((fun k_ => (P0_ k_ ∨ w.heap.size ≤ k_) ∧ k_ ≠ gb467)) k_ ∧ some k_ ≠ (u3 : Value).ownBlock)) (HL466_0.out) (fun k_ hk => ⟨⟨hk.1, hk.2.2⟩, hk.2.1⟩))).2.1 (Kd.V_F (Kd.V_mono (ok' := (fun k_ => ((fun k_ => (P0_ k_ ∨ w.heap.size ≤ k_) ∧ k_ ≠ gb467)) k_ ∧ some k_ ≠ (u3 : Value).ownBlock)) (HL466_0.out) (fun k_ hk => ⟨⟨hk.1, hk.2.2⟩, hk.2.1⟩))))); (case aB => exact (mb HB.out)); (case aF => exact (fun k_ hk => ⟨(.inr (Nat.le_trans (below_size (mb HB.out)) hk)), Kd.freshB (g := gb467) (o := .cells #[.slice A466_0 ((rd_T70 l0 x17_1).f0).length c466_0, .int .i64 ((rd_T70 l0 x17_1).f1), .bool ((rd_T70 l0 x17_1).f2)] 70 (0, 0)) (mvK BK467.out) k_ hk⟩)); (case aO => exact (mvN HO_3.out)); (case aS => exact (below_size (mb HB.out))); (case aL => have := LMc7.out; omega); intro v469 w12 ho hb hg hat; rw [← Ny468.out] at ho; replace HO_0 := am (Kd.V_afterv (ok := (fun k_ => (P0_ k_ ∨ w.heap.size ≤ k_) ∧ k_ ≠ gb467)) (Kd.V_mono (mvV HO_0.out) (fun _ hk => ⟨⟨hk.1, hk.2.2⟩, hk.2.1⟩)) hg hat); replace HO_15 := am (Kd.V_afterv (ok := (fun k_ => (P0_ k_ ∨ w.heap.size ≤ k_) ∧ k_ ≠ gb467)) (Kd.V_mono (mvV HO_15.out) (fun _ hk => ⟨⟨hk.1, hk.2.2⟩, hk.2.1⟩)) hg hat); replace HL466_0 := am (Kd.V_afterv (ok := (fun k_ => (P0_ k_ ∨ w.heap.size ≤ k_) ∧ k_ ≠ gb467)) (Kd.V_mono (mvV HL466_0.out) (fun _ hk => ⟨⟨hk.1, hk.2.2⟩, hk.2.1⟩)) hg hat); replace BK467 := am (blk_grown (mvK BK467.out) hg (Kd.N_ne HO_3.out BK467.out (by decide))); replace HB := am (hb); have HO470 := am (ho); clear HO_3; clear ho hb hg hat))
    go_roundg k1
    case measure => have := HK1.out; omega
    case rel => exact ⟨(y468), (wrap64 (x17_1 + 1)), eqF, H', ⟨by have := HK1.out; omega⟩, ⟨Kd.V_mono (mvV HO_0.out) (fun _ hk => ⟨hk.1.1, hk.2⟩)⟩, ⟨Kd.N_mono (mvN HO470.out) (fun _ hk => hk.1)⟩, ⟨Kd.V_mono (mvV HO_15.out) (fun _ hk => ⟨hk.1.1, hk.2⟩)⟩, ⟨mb HB.out⟩⟩
   rw [if_neg c4] at H
   have c4b0 := decide_eq_false c4
   clear c4
   replace H := bindA H; obtain ⟨t471, A13, H⟩ := H
   by_cases c14 : t471 = 0
   ·rw [if_pos c14] at H
    have c14b0 := eqb1 c14
    have c14b1 := eqb2 c14
    clear c14
    obtain rfl := Option.some.inj H
    obtain ⟨Ao15, co15, eo15⟩ := Kd.N_slice HO_3.out
    subst eo15
    go_wp2_with (first | ((with_reducible refine gC 81 rfl ?_); refine gL 28 Try.func81 #[.slice Ao15 x3_1.length co15] ?_; (with_reducible refine (impl_det.calls k1 _ _ x3_1 t471 _ ?side1 ?side2 A13.out).mono ?_); (case side1 => repeat (first | exact (Kd.N_reads' HO_3.out).2.2 | (with_reducible refine Kd.C_alloc ?_ _) | (with_reducible refine Kd.C_drewN ?_ _) | (with_reducible refine Kd.C_drew ?_))); (case side2 => exact (Kd.N_reads' HO_3.out).2.1); rintro e w16 ⟨rfl, hb⟩; refine ⟨_, rfl, ?_⟩; replace HO_0 := am (Kd.V_below (mvV HO_0.out) hb); replace HO_3 := am (Kd.N_below (mvN HO_3.out) hb); replace HO_15 := am (Kd.V_below (mvV HO_15.out) hb); replace HB := am (below_step (mb HB.out) hb); (try clear hb)))
    go_ret
    exact ⟨_, eqE, (by first | rfl | (intro h_; first | rfl | (rw [Ny468.out] at h_; exact absurd h_ (by simp)))), nilE, mb HB.out⟩
   rw [if_neg c14] at H
   have c14b0 := neb1 c14
   have c14b1 := neb2 c14
   replace H := nameA (([] : List Int)) (fun y472 => (impl_solve.l1 k1 l0 x3_1 t471 y472 (l0.length : Int) 0) = some r) H; obtain ⟨y472, Ny472, H⟩ := H
   have H' := Aside0.mk H
   clear H
   obtain ⟨Ao17, co17, eo17⟩ := Kd.N_slice HO_3.out
   subst eo17
   go_wp2_with (first | ((with_reducible refine gC 81 rfl ?_); refine gL 28 Try.func81 #[.slice Ao17 x3_1.length co17] ?_; (with_reducible refine (impl_det.calls k1 _ _ x3_1 t471 _ ?side1 ?side2 A13.out).mono ?_); (case side1 => repeat (first | exact (Kd.N_reads' HO_3.out).2.2 | (with_reducible refine Kd.C_alloc ?_ _) | (with_reducible refine Kd.C_drewN ?_ _) | (with_reducible refine Kd.C_drew ?_))); (case side2 => exact (Kd.N_reads' HO_3.out).2.1); rintro e w18 ⟨rfl, hb⟩; refine ⟨_, rfl, ?_⟩; replace HO_0 := am (Kd.V_below (mvV HO_0.out) hb); replace HO_3 := am (Kd.N_below (mvN HO_3.out) hb); replace HO_15 := am (Kd.V_below (mvV HO_15.out) hb); replace HB := am (below_step (mb HB.out) hb); (try clear hb)) | ((with_reducible refine gate_dst (N := 31) rfl ?_); refine Kd.R_lit (Kd.int .i64) _ 3 ?hg (N := 31) ?hd (xs := ([] : List Int)) (inner := []) (ok := fun _ => True) (okp := fun _ => True) ?hr ?hp (fun _ hk => hk) trivial (Below.refl _ _) (Nat.le_refl _) (by simp) ?_; (case hd => rfl); (case hg => rfl); (case hr => first | (go_simp; done) | (go_simp; rfl)); (case hp => exact (Reps.none _ _)); intro v473 w19 ho20 hb hg_ hnew_; clear hg_ hnew_; (first | rw [← Ny472.out] at ho20 | (simp only [Int.reduceToNat] at ho20; rw [← Ny472.out] at ho20)); replace HO_0 := am (Kd.V_elder' (mvV HO_0.out) (Kd.R_base ho20) hb); replace HO_3 := am (Kd.N_elder' (mvN HO_3.out) (Kd.R_base ho20) hb); replace HO_15 := am (Kd.V_elder' (mvV HO_15.out) (Kd.R_base ho20) hb); have HO474 := am (Kd.R_lower (Kd.R_newM (M := fun k_ => (w.heap.size ≤ k_)) ho20 (below_size (mb HB.out)) (fun k_ h_ => h_)) (below_size (mb HB.out))); replace HB := am (below_step (mb HB.out) hb); clear hb ho20))
   go_loopg [7, 34] k1 (fun kq v7 v34 w' => ∃ (x7_2 : List Int) (x34_2 : Int), v34 = .int .i64 x34_2 ∧ Aside0 (impl_solve.l1 kq l0 x3_1 t471 x7_2 (l0.length : Int) x34_2 = some r) ∧ Aside0 (kq ≤ k1) ∧ Aside0 (Kd.V k70 70 w' w.heap.size (fun k_ => (P0_ k_ ∨ w.heap.size ≤ k_) ∧ some k_ ≠ ((.slice Ao17 x3_1.length co17) : Value).ownBlock ∧ some k_ ≠ (v7 : Value).ownBlock) (.slice A0 l0.length c0) l0) ∧ Aside0 (Kd.N (Kd.slice 3 (Kd.int .i64)) 38 w' w.heap.size (fun k_ => (P0_ k_ ∨ w.heap.size ≤ k_) ∧ some k_ ≠ (v7 : Value).ownBlock) (.slice Ao17 x3_1.length co17) x3_1) ∧ Aside0 (Kd.R (Kd.int .i64) 3 w' w.heap.size (fun k_ => (w.heap.size ≤ k_)) v7 x7_2) ∧ Aside0 (Below w.heap.size w w'))
   case atStart => exact ⟨(y472), (0), eqF, H', ⟨Nat.le_refl _⟩, ⟨Kd.V_mono (mvV HO_0.out) (fun _ hk => ⟨hk.1.1, ⟨hk.1.2, hk.2⟩⟩)⟩, ⟨mvN HO_3.out⟩, ⟨Kd.R_mono (mvR HO474.out) (fun _ hk => hk.1)⟩, ⟨mb HB.out⟩⟩
   case round =>
    clear H'
    obtain ⟨x7_2, x34_2, rfl, HA, HK2, HO_0, HO_3, HO_7, HB⟩ := hrel
    cases gk with
    | zero => exact absurd HA.out (by simp [impl_solve.l1])
    | succ k2 =>
     have H := HA.out
     clear HA
     simp only [impl_solve.l1] at H
     by_cases c21 : x34_2 < (l0.length : Int)
     rotate_left
     ·rw [if_neg c21] at H
      have c21b0 := decide_eq_false c21
      clear c21
      by_cases c42 : t471 < 0
      rotate_left
      ·rw [if_neg c42] at H
       have c42b0 := decide_eq_false c42
       (try rw [hl7_3] at c42b0)
       clear c42
       by_cases c52 : x7_2.length < 17592186044416
       rotate_left
       ·rw [if_neg c52] at H
        exact absurd H (by simp)
       rw [if_pos c52] at H
       have LMc52 := Aside0.mk c52
       clear c52
       replace H := nameA (x7_2 ++ [t471]) (fun y496 => (some y496) = some r) H; obtain ⟨y496, Ny496, H⟩ := H
       obtain rfl := Option.some.inj H
       go_wp2_with (first | ((with_reducible refine gate_builtin (b := .append) (xs := #[.tmp 84, .tmp 86]) rfl ?_); at_builtin; refine Kd.R_append (Kd.int .i64) (w0 := w) w.heap.size rfl (.tmp 84) (.tmp 86) 38 3 (.int .i64 0) 8 rfl Try.underlying38 info3 rfl (by decide) (by omega) u7 x7_2 t471 [.int .i64 t471] (fun k_ => (w.heap.size ≤ k_)) (fun _ => False) rfl rfl ?aP (fun _ hk => hk.elim) ?aF ?aO ?aB ?aS ?aL ?_; (case aP => exact rfl); (case aB => exact (mb HB.out)); (case aF => exact (fun k_ hk => (Nat.le_trans (below_size (mb HB.out)) hk))); (case aO => exact (mvR HO_7.out)); (case aS => exact (below_size (mb HB.out))); (case aL => have := LMc52.out; omega); intro v497 w53 ho hb hg hat; rw [← Ny496.out] at ho; replace HO_0 := am (Kd.V_afterv (ok := (fun k_ => (P0_ k_ ∨ w.heap.size ≤ k_) ∧ some k_ ≠ (.slice Ao17 x3_1.length co17 : Value).ownBlock)) (Kd.V_mono (mvV HO_0.out) (fun _ hk => ⟨⟨hk.1, hk.2.1⟩, hk.2.2⟩)) hg hat); replace HO_3 := am (Kd.N_afterv (ok := (fun k_ => (P0_ k_ ∨ w.heap.size ≤ k_))) (mvN HO_3.out) hg hat); replace HB := am (hb); have HO498 := am (ho); clear HO_7; clear ho hb hg hat))
       go_ret
       exact ⟨_, eqE, (by first | rfl | (intro h_; first | rfl | (rw [Ny496.out] at h_; exact absurd h_ (by simp)))), mvR HO498.out, mb HB.out⟩
      rw [if_pos c42] at H
      have c42b0 := decide_eq_true c42
      clear c42
      have H' := Aside0.mk H
      clear H
      obtain ⟨Ao43, co43, eo43⟩ := Kd.R_slice HO_7.out
      subst eo43
      go_wp2
      go_loopg [70] k2 (fun kq v70 w' => ∃ (x7_3 : List Int) (x70_3 : Int), v70 = .int .i64 x70_3 ∧ Aside0 (impl_solve.l3 kq t471 x7_3 (x7_2.length : Int) x70_3 = some r) ∧ Aside0 (kq ≤ k2) ∧ Aside0 (Kd.R (Kd.int .i64) 3 w' w.heap.size (fun k_ => (w.heap.size ≤ k_)) (.slice Ao43 x7_2.length co43) x7_3) ∧ Aside0 (Below w.heap.size w w'))
      case atStart => exact ⟨(x7_2), (0), eqF, H', ⟨Nat.le_refl _⟩, ⟨mvR HO_7.out⟩, ⟨mb HB.out⟩⟩
      case round =>
       clear H'
       obtain ⟨x7_3, x70_3, rfl, HA, HK3, HO_7, HB⟩ := hrel
       have hl7_3 := (Kd.R_reads' HO_7.out).1
       rw [hl7_3] at HO_7
       (try simp only [hl7_3])
       cases gk with
       | zero => exact absurd HA.out (by simp [impl_solve.l3])
       | succ k3 =>
        have H := HA.out
        clear HA
        simp only [impl_solve.l3] at H
        by_cases c44 : x70_3 < (x7_2.length : Int)
        rotate_left
        ·rw [if_neg c44] at H
         have c44b0 := decide_eq_false c44
         (try rw [hl7_3] at c44b0)
         clear c44
         replace H := ifA H; obtain ⟨LMc50, H⟩ := H
         replace H := nameA (x7_3 ++ [wrap64 (-t471)]) (fun y493 => (some y493) = some r) H; obtain ⟨y493, Ny493, H⟩ := H
         obtain rfl := Option.some.inj H
         go_wp2_with (first | ((with_reducible refine gate_builtin (b := .append) (xs := #[.tmp 84, .tmp 86]) rfl ?_); at_builtin; refine Kd.R_append (Kd.int .i64) (w0 := w) w.heap.size rfl (.tmp 84) (.tmp 86) 38 3 (.int .i64 0) 8 rfl Try.underlying38 info3 rfl (by decide) (by omega) (.slice Ao43 x7_3.length co43) x7_3 (wrap64 (-t471)) [.int .i64 (wrap64 (-t471))] (fun k_ => (w.heap.size ≤ k_)) (fun _ => False) rfl rfl ?aP (fun _ hk => hk.elim) ?aF ?aO ?aB ?aS ?aL ?_; (case aP => exact rfl); (case aB => exact (mb HB.out)); (case aF => exact (fun k_ hk => (Nat.le_trans (below_size (mb HB.out)) hk))); (case aO => exact (mvR HO_7.out)); (case aS => exact (below_size (mb HB.out))); (case aL => have := LMc50.out; omega); intro v494 w51 ho hb hg hat; rw [← Ny493.out] at ho; replace HB := am (hb); have HO495 := am (ho); clear HO_7; clear ho hb hg hat))
         go_ret
         exact ⟨_, eqE, (by first | rfl | (intro h_; first | rfl | (rw [Ny493.out] at h_; exact absurd h_ (by simp)))), mvR HO495.out, mb HB.out⟩
        rw [if_pos c44] at H
        have c44b0 := decide_eq_true c44
        clear c44
        replace H := ifD H; obtain ⟨c45b0, H⟩ := H
        replace H := ifD H; obtain ⟨c46b0, H⟩ := H
        replace H := nameA (x7_3.set (x70_3 : Int).toNat (wrap64 (-(rd x7_3 x70_3)))) (fun y492 => (impl_solve.l3 k3 t471 y492 (x7_2.length : Int) (wrap64 (x70_3 + 1))) = some r) H; obtain ⟨y492, Ny492, H⟩ := H
        have H' := Aside0.mk H
        clear H
        have p491 : 0 ≤ (x70_3 : Int) := odE
        have q491 : x70_3 < (x7_3.length : Int) := odE
        obtain ⟨ad491, e491, hx491_0⟩ := Kd.at_int (Kd.R_reads' HO_7.out).2.2 x70_3 p491 q491
        cases e491
        replace p491 := eq_true p491
        replace q491 := eq_true q491
        have p47 : 0 ≤ (x70_3 : Int) := odE
        have q47 : (x70_3 : Int) < ((x7_3.length : Int) : Int) := odE
        obtain ⟨go47, co47, eo47, gb47, gl47, cl47, HG47⟩ := Kd.R_form HO_7.out (by omega)
        (first | cases eo47 | (injection eo47 with ea_ en_ ec_; (first | subst ea_ | (injection ea_ with ea_; subst ea_)); subst ec_; clear en_))
        have GB47 := Aside0.mk gb47
        have GG47 := Aside0.mk HG47
        clear gb47 gl47 HG47
        (first | simp only [add_plain] at hx491_0 | skip)
        obtain ⟨hx47_0, hf47_0⟩ := Kd.R_celln 0 HO_7.out (x70_3 : Int) p47 q47
        replace p47 := eq_true p47
        replace q47 := eq_true q47
        have HP48 := Kd.R_putg HO_7.out (x70_3 : Int) (wrap64 (-(rd x7_3 x70_3)))
        go_wp2_with (first | ((with_reducible refine gate_store (t := 3) (p := 80) rfl ?_); refine store_event (t := 3) (p := 80) (v := ?vo_w49) (w1 := (wr.setCell ⟨go47, (x70_3 : Int).toNat, none⟩ (.int .i64 (wrap64 (-(rd x7_3 x70_3)))))) ?hg ?ho ?hn ?hr ?_; (case ho => rfl); (case hg => rfl); (case hn => rfl); (case hr => first | (go_simp; done) | (go_simp; rfl)); intro w49 hw; have hg : wr.grownBy w49 (some go47) := (by rw [hw]; exact HP48.2); have hp_ : Kd.R (Kd.int .i64) 3 w49 w.heap.size (fun k_ => (w.heap.size ≤ k_)) (.slice (some ⟨go47, 0, none⟩) x7_3.length co43) y492 := (by rw [hw, Ny492.out]; exact HP48.1); clear HP48; replace HO_7 := am (hp_); replace HB := am ((by rw [hw]; exact below_set (HB.out) GB47.out : Below w.heap.size w w49)); clear hg hw hp_))
        (try simp only [← hl7_3])
        go_roundg k3
        case measure => have := HK1.out; have := HK2.out; have := HK3.out; omega
        case rel => exact ⟨(y492), (wrap64 (x70_3 + 1)), eqF, H', ⟨by have := HK1.out; have := HK2.out; have := HK3.out; omega⟩, ⟨by (try simp only [hl7_3]); (with_reducible repeat (first | apply Kd.R_alloc | apply Kd.R_drewN | apply Kd.R_drew)); exact HO_7.out⟩, ⟨mb HB.out⟩⟩
     rw [if_pos c21] at H
     have c21b0 := decide_eq_true c21
     clear c21
     replace H := nameA (([] : List (List Int))) (fun y475 => (impl_solve.l2 k2 l0 x3_1 t471 x7_2 x34_2 y475 (l0.length : Int) x34_2 x3_1 (x3_1.length : Int) 0) = some r) H; obtain ⟨y475, Ny475, H⟩ := H
     have H' := Aside0.mk H
     clear H
     go_wp2_with (first | ((with_reducible refine gate_dst (N := 37) rfl ?_); refine Kd.N_lit (Kd.slice 3 (Kd.int .i64)) _ 38 ?hg (N' := 37) ?hd (xs := ([] : List (List Int))) (inner := []) (ok := (fun k_ => (P0_ k_ ∨ w.heap.size ≤ k_) ∧ some k_ ≠ (.slice Ao17 x3_1.length co17 : Value).ownBlock ∧ some k_ ≠ (u7 : Value).ownBlock)) (okp := (fun k_ => (P0_ k_ ∨ w.heap.size ≤ k_) ∧ some k_ ≠ (.slice Ao17 x3_1.length co17 : Value).ownBlock ∧ some k_ ≠ (u7 : Value).ownBlock)) ?hr ?hp (fun _ hk => hk) ((show ∀ k_, wr.heap.size ≤ k_ → (fun k_ => (P0_ k_ ∨ w.heap.size ≤ k_) ∧ some k_ ≠ (.slice Ao17 x3_1.length co17 : Value).ownBlock ∧ some k_ ≠ (u7 : Value).ownBlock) k_ from fun k_ hk => ⟨(.inr (Nat.le_trans (below_size (mb HB.out)) hk)), Kd.fresh' (Kd.N_lt (mvN HO_3.out)) k_ hk, Kd.fresh' (Kd.R_lt (mvR HO_7.out)) k_ hk⟩) _ (Nat.le_refl _)) (Below.refl _ _) (Nat.le_refl _) (by simp) ?_; (case hd => rfl); (case hg => rfl); (case hr => first | (go_simp; done) | (go_simp; rfl)); (case hp => exact (Reps.none _ _)); intro v476 w22 ho23 hb hg_ hnew_; clear hg_ hnew_; (first | rw [← Ny475.out] at ho23 | (simp only [Int.reduceToNat] at ho23; rw [← Ny475.out] at ho23)); replace HO_0 := am (Kd.V_elder' (mvV HO_0.out) (Kd.N_base ho23) hb); replace HO_3 := am (Kd.N_elder' (mvN HO_3.out) (Kd.N_base ho23) hb); replace HO_7 := am (Kd.R_below (mvR HO_7.out) hb); have HO477 := am (Kd.N_lower ho23 (below_size (mb HB.out))); replace HB := am (below_step (mb HB.out) hb); clear hb ho23))
     go_loopg [9, 40] k2 (fun kq v9 v40 w' => ∃ (x7_3 : List Int) (x9_3 : List (List Int)) (x40_3 : Int), v40 = .int .i64 x40_3 ∧ Aside0 (impl_solve.l2 kq l0 x3_1 t471 x7_3 x34_2 x9_3 (l0.length : Int) x34_2 x3_1 (x3_1.length : Int) x40_3 = some r) ∧ Aside0 (kq ≤ k2) ∧ Aside0 (Kd.V k70 70 w' w.heap.size (fun k_ => (P0_ k_ ∨ w.heap.size ≤ k_) ∧ some k_ ≠ ((.slice Ao17 x3_1.length co17) : Value).ownBlock ∧ some k_ ≠ (u7 : Value).ownBlock ∧ some k_ ≠ (v9 : Value).ownBlock ∧ some k_ ≠ ((.slice Ao17 x3_1.length co17) : Value).ownBlock) (.slice A0 l0.length c0) l0) ∧ Aside0 (Kd.N (Kd.slice 3 (Kd.int .i64)) 38 w' w.heap.size (fun k_ => (P0_ k_ ∨ w.heap.size ≤ k_) ∧ some k_ ≠ (u7 : Value).ownBlock ∧ some k_ ≠ (v9 : Value).ownBlock) (.slice Ao17 x3_1.length co17) x3_1) ∧ Aside0 (Kd.R (Kd.int .i64) 3 w' w.heap.size (fun k_ => (w.heap.size ≤ k_)) u7 x7_3) ∧ Aside0 (Kd.N (Kd.slice 3 (Kd.int .i64)) 38 w' w.heap.size (fun k_ => (P0_ k_ ∨ w.heap.size ≤ k_) ∧ some k_ ≠ ((.slice Ao17 x3_1.length co17) : Value).ownBlock ∧ some k_ ≠ (u7 : Value).ownBlock ∧ some k_ ≠ ((.slice Ao17 x3_1.length co17) : Value).ownBlock) v9 x9_3) ∧ Aside0 (Kd.N (Kd.slice 3 (Kd.int .i64)) 38 w' w.heap.size (fun k_ => (P0_ k_ ∨ w.heap.size ≤ k_) ∧ some k_ ≠ (u7 : Value).ownBlock ∧ some k_ ≠ (v9 : Value).ownBlock) (.slice Ao17 x3_1.length co17) x3_1) ∧ Aside0 (Below w.heap.size w w'))
     case atStart => exact ⟨(x7_2), (y475), (0), eqF, H', ⟨Nat.le_refl _⟩, ⟨Kd.V_mono (mvV HO_0.out) (fun _ hk => ⟨hk.1.1, ⟨hk.1.2.1, ⟨hk.1.2.2, ⟨hk.2, hk.1.2.1⟩⟩⟩⟩)⟩, ⟨Kd.N_mono (mvN HO_3.out) (fun _ hk => ⟨hk.1.1, ⟨hk.1.2, hk.2⟩⟩)⟩, ⟨mvR HO_7.out⟩, ⟨Kd.N_mono (mvN HO477.out) (fun _ hk => ⟨hk.1, ⟨hk.2.1, ⟨hk.2.2, hk.2.1⟩⟩⟩)⟩, ⟨Kd.N_mono (mvN HO_3.out) (fun _ hk => ⟨hk.1.1, ⟨hk.1.2, hk.2⟩⟩)⟩, ⟨mb HB.out⟩⟩
     case round =>
      clear H'
      obtain ⟨x7_3, x9_3, x40_3, rfl, HA, HK3, HO_0, HO_3, HO_7, HO_9, HO_38, HB⟩ := hrel
      cases gk with
      | zero => exact absurd HA.out (by simp [impl_solve.l2])
      | succ k3 =>
       have H := HA.out
       clear HA
       simp only [impl_solve.l2] at H
       by_cases c24 : x40_3 < (x3_1.length : Int)
       rotate_left
       ·rw [if_neg c24] at H
        have c24b0 := decide_eq_false c24
        clear c24
        replace H := bindA H; obtain ⟨t487, A37, H⟩ := H
        replace H := ifA H; obtain ⟨LMc38, H⟩ := H
        replace H := nameA (x7_3 ++ [t487]) (fun y488 => (impl_solve.l1 k3 l0 x3_1 t471 y488 (l0.length : Int) (wrap64 (x34_2 + 1))) = some r) H; obtain ⟨y488, Ny488, H⟩ := H
        have H' := Aside0.mk H
        clear H
        obtain ⟨Ao39, co39, eo39⟩ := Kd.N_slice HO_9.out
        subst eo39
        go_wp2_with (first | ((with_reducible refine gC 81 rfl ?_); refine gL 62 Try.func81 #[.slice Ao39 x9_3.length co39] ?_; (with_reducible refine (impl_det.calls k3 _ _ x9_3 t487 _ ?side1 ?side2 A37.out).mono ?_); (case side1 => repeat (first | exact (Kd.N_reads' HO_9.out).2.2 | (with_reducible refine Kd.C_alloc ?_ _) | (with_reducible refine Kd.C_drewN ?_ _) | (with_reducible refine Kd.C_drew ?_))); (case side2 => exact (Kd.N_reads' HO_9.out).2.1); rintro e w40 ⟨rfl, hb⟩; refine ⟨_, rfl, ?_⟩; replace HO_0 := am (Kd.V_below (mvV HO_0.out) hb); replace HO_3 := am (Kd.N_below (mvN HO_3.out) hb); replace HO_7 := am (Kd.R_below (mvR HO_7.out) hb); replace HO_9 := am (Kd.N_below (mvN HO_9.out) hb); replace HO_38 := am (Kd.N_below (mvN HO_38.out) hb); replace HB := am (below_step (mb HB.out) hb); (try clear hb)) | ((with_reducible refine gate_builtin (b := .append) (xs := #[.tmp 60, .tmp 63]) rfl ?_); at_builtin; refine Kd.R_append (Kd.int .i64) (w0 := w) w.heap.size rfl (.tmp 60) (.tmp 63) 38 3 (.int .i64 0) 8 rfl Try.underlying38 info3 rfl (by decide) (by omega) u7 x7_3 t487 [.int .i64 t487] (fun k_ => (w.heap.size ≤ k_)) (fun _ => False) rfl rfl ?aP (fun _ hk => hk.elim) ?aF ?aO ?aB ?aS ?aL ?_; (case aP => exact rfl); (case aB => exact (mb HB.out)); (case aF => exact (fun k_ hk => (Nat.le_trans (below_size (mb HB.out)) hk))); (case aO => exact (mvR HO_7.out)); (case aS => exact (below_size (mb HB.out))); (case aL => have := LMc38.out; omega); intro v489 w41 ho hb hg hat; rw [← Ny488.out] at ho; replace HO_0 := am (Kd.V_afterv (ok := (fun k_ => (P0_ k_ ∨ w.heap.size ≤ k_) ∧ some k_ ≠ (.slice Ao17 x3_1.length co17 : Value).ownBlock ∧ some k_ ≠ (.slice Ao39 x9_3.length co39 : Value).ownBlock ∧ some k_ ≠ (.slice Ao17 x3_1.length co17 : Value).ownBlock)) (Kd.V_mono (mvV HO_0.out) (fun _ hk => ⟨⟨hk.1, ⟨hk.2.1, ⟨hk.2.2.2.1, hk.2.2.2.2⟩⟩⟩, hk.2.2.1⟩)) hg hat); replace HO_3 := am (Kd.N_afterv (ok := (fun k_ => (P0_ k_ ∨ w.heap.size ≤ k_) ∧ some k_ ≠ (.slice Ao39 x9_3.length co39 : Value).ownBlock)) (Kd.N_mono (mvN HO_3.out) (fun _ hk => ⟨⟨hk.1, hk.2.2⟩, hk.2.1⟩)) hg hat); replace HO_9 := am (Kd.N_afterv (ok := (fun k_ => (P0_ k_ ∨ w.heap.size ≤ k_) ∧ some k_ ≠ (.slice Ao17 x3_1.length co17 : Value).ownBlock ∧ some k_ ≠ (.slice Ao17 x3_1.length co17 : Value).ownBlock)) (Kd.N_mono (mvN HO_9.out) (fun _ hk => ⟨⟨hk.1, ⟨hk.2.1, hk.2.2.2⟩⟩, hk.2.2.1⟩)) hg hat); replace HO_38 := am (Kd.N_afterv (ok := (fun k_ => (P0_ k_ ∨ w.heap.size ≤ k_) ∧ some k_ ≠ (.slice Ao39 x9_3.length co39 : Value).ownBlock)) (Kd.N_mono (mvN HO_38.out) (fun _ hk => ⟨⟨hk.1, hk.2.2⟩, hk.2.1⟩)) hg hat); replace HB := am (hb); have HO490 := am (ho); clear HO_7; clear ho hb hg hat))
        go_roundg k3
        case measure => have := HK1.out; have := HK2.out; have := HK3.out; omega
        case rel => exact ⟨(y488), (wrap64 (x34_2 + 1)), eqF, H', ⟨by have := HK1.out; have := HK2.out; have := HK3.out; omega⟩, ⟨Kd.V_mono (mvV HO_0.out) (fun _ hk => ⟨hk.1.1, ⟨hk.1.2.1, hk.2⟩⟩)⟩, ⟨Kd.N_mono (mvN HO_3.out) (fun _ hk => ⟨hk.1.1, hk.2⟩)⟩, ⟨mvR HO490.out⟩, ⟨mb HB.out⟩⟩
       rw [if_pos c24] at H
       have c24b0 := decide_eq_true c24
       clear c24
       replace H := ifD H; obtain ⟨c25b0, H⟩ := H
       replace H := ifD H; obtain ⟨c26b0, H⟩ := H
       replace H := bindA H; obtain ⟨t479, A27, H⟩ := H
       replace H := ifD H; obtain ⟨c28b0, H⟩ := H
       replace H := ifD H; obtain ⟨c29b0, H⟩ := H
       replace H := ifD H; obtain ⟨c30b0, H⟩ := H
       replace H := nameA (t479.set (x34_2 : Int).toNat ((rd_T70 l0 x40_3).f1)) (fun y483 => (if x9_3.length < 5864062014805 then (impl_solve.l2 k3 l0 x3_1 t471 x7_3 x34_2 (x9_3 ++ [y483]) (l0.length : Int) x34_2 x3_1 (x3_1.length : Int) (wrap64 (x40_3 + 1))) else (none)) = some r) H; obtain ⟨y483, Ny483, H⟩ := H
       replace H := ifA H; obtain ⟨LMc32, H⟩ := H
       replace H := nameA (x9_3 ++ [y483]) (fun y484 => (impl_solve.l2 k3 l0 x3_1 t471 x7_3 x34_2 y484 (l0.length : Int) x34_2 x3_1 (x3_1.length : Int) (wrap64 (x40_3 + 1))) = some r) H; obtain ⟨y484, Ny484, H⟩ := H
       have H' := Aside0.mk H
       clear H
       have p478 : 0 ≤ (x40_3 : Int) := odE
       have q478 : x40_3 < (x3_1.length : Int) := odE
       obtain ⟨ad478, A478_0, c478_0, e478, hx478_0, hl478_0, hi478_0⟩ := at_L1 (Kd.N_reads' HO_38.out).2.2 x40_3 p478 q478
       cases e478
       obtain ⟨ce478, hce478, hMe478, hcc478⟩ := Kd.N_get HO_38.out [] x40_3 p478 (by first | exact q478 | exact odE | (have e_ := (Kd.N_reads' HO_38.out).1; omega))
       obtain ⟨ua478_0, uc478_0, rfl, ul478_0, ge478_0⟩ := Kd.FK_slice_open hMe478
       have hv478_0 := hcc478 0 _ rfl
       rw [Nat.add_zero, show ((Kd.slice 3 (Kd.int .i64))).sz = 1 from rfl, Nat.mul_one] at hv478_0
       replace hv478_0 := Option.some.inj (hv478_0.symm.trans hx478_0)
       injection hv478_0 with hva_ hvn_ hvc_
       rw [hva_] at ge478_0
       rw [hvc_] at ul478_0
       have HL478_0 := Aside0.mk (show Kd.V (Kd.int .i64) 3 _ w.heap.size _ _ (rd_L1 x3_1 x40_3) from Kd.V_mk ul478_0 ge478_0)
       clear hva_ hvn_ hvc_ ge478_0 ul478_0
       clear hcc478 hce478
       have HR478_0 := Aside0.mk hi478_0
       have HC478_0 := Aside0.mk hl478_0
       clear hi478_0 hl478_0
       replace p478 := eq_true p478
       replace q478 := eq_true q478
       go_wp2_with (first | ((with_reducible refine gC 58 rfl ?_); refine gL 46 Try.func58 #[.slice A478_0 (rd_L1 x3_1 x40_3).length c478_0] ?_; (with_reducible refine (slices_Clone_int_int.calls _ _ (rd_L1 x3_1 x40_3) t479 _ ?side1 ?side2 A27.out).mono ?_); (case side1 => repeat (first | exact (by repeat (first | (with_reducible exact HR478_0.out) | (with_reducible refine Kd.C_alloc ?_ _) | (with_reducible refine Kd.C_drewN ?_ _) | (with_reducible refine Kd.C_drew ?_) | exact HR478_0.out)) | (with_reducible refine Kd.C_alloc ?_ _) | (with_reducible refine Kd.C_drewN ?_ _) | (with_reducible refine Kd.C_drew ?_))); (case side2 => exact HC478_0.out); rintro e w33 ⟨v480, rfl, ho0, hb⟩; refine ⟨_, rfl, ?_⟩; replace HO_0 := am (Kd.V_elder' (mvV HO_0.out) (Kd.R_base ho0) hb); replace HO_3 := am (Kd.N_elder' (mvN HO_3.out) (Kd.R_base ho0) hb); replace HO_9 := am (Kd.N_elder' (mvN HO_9.out) (Kd.R_base ho0) hb); replace HO_38 := am (Kd.N_elder' (mvN HO_38.out) (Kd.R_base ho0) hb); replace HL478_0 := am (Kd.V_elder' (mvV HL478_0.out) (Kd.R_base ho0) hb); have HO481 := am (Kd.R_lower (Kd.R_new' (Kd.R_newM (M := fun k_ => (w.heap.size ≤ k_)) ho0 (below_size (mb HB.out)) (fun k_ h_ => h_)) (Kd.R_lt (mvR HO_7.out))) (below_size (mb HB.out))); replace HO_7 := am (Kd.R_elder' (mvR HO_7.out) (Kd.R_base ho0) hb); replace HR478_0 := am (Kd.C_below (by repeat (first | (with_reducible exact HR478_0.out) | (with_reducible refine Kd.C_alloc ?_ _) | (with_reducible refine Kd.C_drewN ?_ _) | (with_reducible refine Kd.C_drew ?_) | exact HR478_0.out)) hb); replace HB := am (below_step (mb HB.out) hb); (try clear hb ho0); have p482 : 0 ≤ (x40_3 : Int) := odE; have q482 : x40_3 < (l0.length : Int) := odE; obtain ⟨ad482, A482_0, c482_0, e482, hx482_0, hx482_1, hx482_2, hl482_0, hi482_0⟩ := at_T70 (Kd.V_reads' HO_0.out).2.2 x40_3 p482 q482; cases e482; obtain ⟨ce482, hce482, hMe482, hcc482⟩ := Kd.V_get HO_0.out z70 x40_3 p482 (by first | exact q482 | exact odE | (have e_ := (Kd.V_reads' HO_0.out).1; omega)); obtain ⟨ua482_0, uc482_0, rfl, ul482_0, ge482_0⟩ := k70_openF hMe482; have hv482_0 := hcc482 0 _ rfl; rw [Nat.add_zero] at hv482_0; replace hv482_0 := Option.some.inj (hv482_0.symm.trans hx482_0); injection hv482_0 with hva_ hvn_ hvc_; rw [hva_] at ge482_0; rw [hvc_] at ul482_0; have HL482_0 := Aside0.mk (show Kd.V (Kd.int .i64) 3 _ w.heap.size _ _ ((rd_T70 l0 x40_3).f0) from Kd.V_mk ul482_0 ge482_0); clear hva_ hvn_ hvc_ ge482_0 ul482_0; clear hcc482 hce482; have HR482_0 := Aside0.mk hi482_0; have HC482_0 := Aside0.mk hl482_0; clear hi482_0 hl482_0; replace p482 := eq_true p482; replace q482 := eq_true q482; have p31 : 0 ≤ (x34_2 : Int) := odE; have q31 : (x34_2 : Int) < ((t479.length : Int) : Int) := odE; obtain ⟨go31, co31, eo31, gb31, gl31, cl31, HG31⟩ := Kd.R_form HO481.out (by omega); (first | cases eo31 | (injection eo31 with ea_ en_ ec_; (first | subst ea_ | (injection ea_ with ea_; subst ea_)); subst ec_; clear en_)); have GB31 := Aside0.mk gb31; have GG31 := Aside0.mk HG31; clear gb31 gl31 HG31; obtain ⟨hx31_0, hf31_0⟩ := Kd.R_celln 0 HO481.out (x34_2 : Int) p31 q31; replace p31 := eq_true p31; replace q31 := eq_true q31; have n_ := Aside0.mk (Kd.R_mono (ok' := (fun k_ => (w.heap.size ≤ k_) ∧ some k_ ≠ (u7 : Value).ownBlock)) HO481.out (fun k_ hk => ⟨hk.1.1, hk.2⟩)); clear HO481; have HO481 := n_; clear n_; obtain ⟨hy34_, hz34_⟩ := Kd.R_celln 0 HO481.out (x34_2 : Int) (odE) (odE); have HP34 := Kd.R_putg HO481.out (x34_2 : Int) ((rd_T70 l0 x40_3).f1)) | ((with_reducible refine gate_store (t := 3) (p := 54) rfl ?_); refine store_event (t := 3) (p := 54) (v := ?vo_w35) (w1 := (w33.setCell ⟨go31, (x34_2 : Int).toNat, none⟩ (.int .i64 ((rd_T70 l0 x40_3).f1)))) ?hg ?ho ?hn ?hr ?_; (case ho => rfl); (case hg => rfl); (case hn => rfl); (case hr => first | (go_simp; done) | (go_simp; rfl)); intro w35 hw; have hg : w33.grownBy w35 (some go31) := (by rw [hw]; exact HP34.2); have hp_ : Kd.R (Kd.int .i64) 3 w35 w.heap.size (fun k_ => (w.heap.size ≤ k_) ∧ some k_ ≠ (u7 : Value).ownBlock) (.slice (some ⟨go31, 0, none⟩) t479.length co31) y483 := (by rw [hw, Ny483.out]; exact HP34.1); clear HP34; replace HO_0 := am (Kd.V_afterv (v := (.slice (some ⟨go31, 0, none⟩) t479.length co31)) (v1 := (.slice (some ⟨go31, 0, none⟩) t479.length co31)) (ok := (fun k_ => (P0_ k_ ∨ w.heap.size ≤ k_) ∧ some k_ ≠ (.slice (some ad478) x3_1.length co17 : Value).ownBlock ∧ some k_ ≠ (u7 : Value).ownBlock ∧ some k_ ≠ (u9 : Value).ownBlock ∧ some k_ ≠ (.slice (some ad478) x3_1.length co17 : Value).ownBlock)) (mvV HO_0.out) hg (.inl rfl)); replace HO_3 := am (Kd.N_afterv (v := (.slice (some ⟨go31, 0, none⟩) t479.length co31)) (v1 := (.slice (some ⟨go31, 0, none⟩) t479.length co31)) (ok := (fun k_ => (P0_ k_ ∨ w.heap.size ≤ k_) ∧ some k_ ≠ (u7 : Value).ownBlock ∧ some k_ ≠ (u9 : Value).ownBlock)) (mvN HO_3.out) hg (.inl rfl)); replace HO_7 := am (Kd.R_after (v := (.slice (some ⟨go31, 0, none⟩) t479.length co31)) (v1 := (.slice (some ⟨go31, 0, none⟩) t479.length co31)) (ok := (fun k_ => (w.heap.size ≤ k_))) (mvR HO_7.out) hg (.inl rfl)); replace HO_9 := am (Kd.N_afterv (v := (.slice (some ⟨go31, 0, none⟩) t479.length co31)) (v1 := (.slice (some ⟨go31, 0, none⟩) t479.length co31)) (ok := (fun k_ => (P0_ k_ ∨ w.heap.size ≤ k_) ∧ some k_ ≠ (.slice (some ad478) x3_1.length co17 : Value).ownBlock ∧ some k_ ≠ (u7 : Value).ownBlock ∧ some k_ ≠ (.slice (some ad478) x3_1.length co17 : Value).ownBlock)) (mvN HO_9.out) hg (.inl rfl)); replace HO_38 := am (Kd.N_afterv (v := (.slice (some ⟨go31, 0, none⟩) t479.length co31)) (v1 := (.slice (some ⟨go31, 0, none⟩) t479.length co31)) (ok := (fun k_ => (P0_ k_ ∨ w.heap.size ≤ k_) ∧ some k_ ≠ (u7 : Value).ownBlock ∧ some k_ ≠ (u9 : Value).ownBlock)) (mvN HO_38.out) hg (.inl rfl)); replace HL478_0 := am (Kd.V_afterv (v := (.slice (some ⟨go31, 0, none⟩) t479.length co31)) (v1 := (.slice (some ⟨go31, 0, none⟩) t479.length co31)) (ok := (fun k_ => (P0_ k_ ∨ w.heap.size ≤ k_) ∧ some k_ ≠ (u7 : Value).ownBlock ∧ some k_ ≠ (u9 : Value).ownBlock ∧ some k_ ≠ (.slice (some ad478) x3_1.length co17 : Value).ownBlock)) (Kd.V_mono (mvV HL478_0.out) (fun _ hk => ⟨⟨hk.1.1.1, ⟨hk.1.1.2.1, ⟨hk.1.1.2.2, hk.1.2⟩⟩⟩, hk.2⟩)) hg (.inl rfl)); replace HO481 := am (hp_); replace HL482_0 := am (Kd.V_afterv (v := (.slice (some ⟨go31, 0, none⟩) t479.length co31)) (v1 := (.slice (some ⟨go31, 0, none⟩) t479.length co31)) (ok := (fun k_ => (P0_ k_ ∨ w.heap.size ≤ k_) ∧ some k_ ≠ (.slice (some ad478) x3_1.length co17 : Value).ownBlock ∧ some k_ ≠ (u7 : Value).ownBlock ∧ some k_ ≠ (u9 : Value).ownBlock ∧ some k_ ≠ (.slice (some ad478) x3_1.length co17 : Value).ownBlock)) (mvV HL482_0.out) hg (.inl rfl)); replace HB := am ((by rw [hw]; exact below_set (HB.out) GB31.out : Below w.heap.size w w35)); clear hg hw hp_) | ((with_reducible refine gate_builtin (b := .append) (xs := #[.tmp 55, .tmp 57]) rfl ?_); at_builtin; refine Kd.N_append (Kd.slice 3 (Kd.int .i64)) (w0 := w) w.heap.size rfl (.tmp 55) (.tmp 57) 22 38 (.slice none 0 0) 24 rfl Try.underlying22 info38 rfl (by decide) (by omega) u9 x9_3 y483 [.slice (some ⟨go31, 0, none⟩) t479.length co31] (fun k_ => (P0_ k_ ∨ w.heap.size ≤ k_) ∧ some k_ ≠ (.slice (some ad478) x3_1.length co17 : Value).ownBlock ∧ some k_ ≠ (u7 : Value).ownBlock ∧ some k_ ≠ (.slice (some ad478) x3_1.length co17 : Value).ownBlock) (fun k_ => ((fun k_ => (P0_ k_ ∨ w.heap.size ≤ k_) ∧ some k_ ≠ (.slice (some ad478) x3_1.length co17 : Value).ownBlock ∧ some k_ ≠ (u7 : Value).ownBlock ∧ some k_ ≠ (.slice (some ad478) x3_1.length co17 : Value).ownBlock)) k_ ∧ some k_ ≠ (u9 : Value).ownBlock) rfl rfl ?aP (fun _ hk => hk) ?aF ?aO ?aB ?aS ?aL ?_; (case aP => exact (FKR (Kd.R_mono (ok' := (fun k_ => ((fun k_ => (P0_ k_ ∨ w.heap.size ≤ k_) ∧ some k_ ≠ (.slice (some ad478) x3_1.length co17 : Value).ownBlock ∧ some k_ ≠ (u7 : Value).ownBlock ∧ some k_ ≠ (.slice (some ad478) x3_1.length co17 : Value).ownBlock)) k_ ∧ some k_ ≠ (u9 : Value).ownBlock)) (Kd.R_apart' (Kd.R_apart' (Kd.R_apart' (HO481.out) (Kd.N_typed HO_3.out) (by decide)) (Kd.N_typed HO_38.out) (by decide)) (Kd.N_typed HO_9.out) (by decide)) (fun k_ hk => ⟨⟨(.inr (hk.1.1.1.1)), ⟨hk.1.1.2, ⟨hk.1.1.1.2, hk.1.2⟩⟩⟩, hk.2⟩)))); (case aB => exact (mb HB.out)); (case aF => exact (fun k_ hk => ⟨(.inr (Nat.le_trans (below_size (mb HB.out)) hk)), Kd.fresh' (Kd.N_lt (mvN HO_3.out)) k_ hk, Kd.fresh' (Kd.R_lt (mvR HO_7.out)) k_ hk, Kd.fresh' (Kd.N_lt (mvN HO_38.out)) k_ hk⟩)); (case aO => exact (Kd.N_mono (mvN HO_9.out) (fun _ hk => ⟨hk.1.1, ⟨hk.1.2.1, ⟨hk.1.2.2.1, hk.1.2.2.2⟩⟩⟩))); (case aS => exact (below_size (mb HB.out))); (case aL => have := LMc32.out; omega); intro v485 w36 ho hb hg hat; rw [← Ny484.out] at ho; replace HO_0 := am (Kd.V_afterv (ok := (fun k_ => (P0_ k_ ∨ w.heap.size ≤ k_) ∧ some k_ ≠ (.slice (some ad478) x3_1.length co17 : Value).ownBlock ∧ some k_ ≠ (u7 : Value).ownBlock ∧ some k_ ≠ (.slice (some ad478) x3_1.length co17 : Value).ownBlock ∧ some k_ ≠ (.slice (some ⟨go31, 0, none⟩) t479.length co31 : Value).ownBlock)) (Kd.V_mono (mvV HO_0.out) (fun _ hk => ⟨⟨hk.1.1, ⟨hk.1.2.1, ⟨hk.1.2.2.1, ⟨hk.1.2.2.2.2, hk.2⟩⟩⟩⟩, hk.1.2.2.2.1⟩)) hg hat); replace HO_3 := am (Kd.N_afterv (ok := (fun k_ => (P0_ k_ ∨ w.heap.size ≤ k_) ∧ some k_ ≠ (u7 : Value).ownBlock ∧ some k_ ≠ (.slice (some ⟨go31, 0, none⟩) t479.length co31 : Value).ownBlock)) (Kd.N_mono (mvN HO_3.out) (fun _ hk => ⟨⟨hk.1.1, ⟨hk.1.2.1, hk.2⟩⟩, hk.1.2.2⟩)) hg hat); replace HO_7 := am (Kd.R_over' (mvR HO_7.out) (Kd.N_typed (mvN HO_9.out)) (by decide) hg); replace HO_38 := am (Kd.N_afterv (ok := (fun k_ => (P0_ k_ ∨ w.heap.size ≤ k_) ∧ some k_ ≠ (u7 : Value).ownBlock ∧ some k_ ≠ (.slice (some ⟨go31, 0, none⟩) t479.length co31 : Value).ownBlock)) (Kd.N_mono (mvN HO_38.out) (fun _ hk => ⟨⟨hk.1.1, ⟨hk.1.2.1, hk.2⟩⟩, hk.1.2.2⟩)) hg hat); replace HL478_0 := am (Kd.V_afterv (ok := (fun k_ => (P0_ k_ ∨ w.heap.size ≤ k_) ∧ some k_ ≠ (u7 : Value).ownBlock ∧ some k_ ≠ (.slice (some ad478) x3_1.length co17 : Value).ownBlock ∧ some k_ ≠ (.slice (some ⟨go31, 0, none⟩) t479.length co31 : Value).ownBlock)) (Kd.V_mono (mvV HL478_0.out) (fun _ hk => ⟨⟨hk.1.1, ⟨hk.1.2.1, ⟨hk.1.2.2.2, hk.2⟩⟩⟩, hk.1.2.2.1⟩)) hg hat); replace HL482_0 := am (Kd.V_afterv (ok := (fun k_ => (P0_ k_ ∨ w.heap.size ≤ k_) ∧ some k_ ≠ (.slice (some ad478) x3_1.length co17 : Value).ownBlock ∧ some k_ ≠ (u7 : Value).ownBlock ∧ some k_ ≠ (.slice (some ad478) x3_1.length co17 : Value).ownBlock ∧ some k_ ≠ (.slice (some ⟨go31, 0, none⟩) t479.length co31 : Value).ownBlock)) (Kd.V_mono (mvV HL482_0.out) (fun _ hk => ⟨⟨hk.1.1, ⟨hk.1.2.1, ⟨hk.1.2.2.1, ⟨hk.1.2.2.2.2, hk.2⟩⟩⟩⟩, hk.1.2.2.2.1⟩)) hg hat); replace HB := am (hb); have HO486 := am (ho); clear HO_9; clear HO481; clear ho hb hg hat))
       go_roundg k3
       case measure => have := HK1.out; have := HK2.out; have := HK3.out; omega
       case rel => exact ⟨(x7_3), (y484), (wrap64 (x40_3 + 1)), eqF, H', ⟨by have := HK1.out; have := HK2.out; have := HK3.out; omega⟩, ⟨Kd.V_mono (mvV HO_0.out) (fun _ hk => ⟨hk.1.1, ⟨hk.1.2.1, ⟨hk.1.2.2.1, ⟨hk.2, hk.1.2.2.2.1⟩⟩⟩⟩)⟩, ⟨Kd.N_mono (mvN HO_3.out) (fun _ hk => ⟨hk.1.1, ⟨hk.1.2.1, hk.2⟩⟩)⟩, ⟨Kd.R_mono (mvR HO_7.out) (fun _ hk => hk.1)⟩, ⟨mvN HO486.out⟩, ⟨Kd.N_mono (mvN HO_38.out) (fun _ hk => ⟨hk.1.1, ⟨hk.1.2.1, hk.2⟩⟩)⟩, ⟨mb HB.out⟩⟩
end Go.Proofs.Ytggiicplcglalaa.All
