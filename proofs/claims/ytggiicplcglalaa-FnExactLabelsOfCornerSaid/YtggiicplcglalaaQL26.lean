/- Part of the proof that the law FnExactLabelsOfCorner answers true for all arguments. -/
import Derived.Test.YtggiicplcglalaaQL25
import Derived.Test.YtggiicplcglalaaQL23
section
namespace Go.Proofs.Ytggiicplcglalaa.All
open Go.RowKit Go.Proofs.YtggiicplcglalaaW.PrintWords Go.Proofs.YtggiicplcglalaaW.PrintLast Go.Proofs.YtggiicplcglalaaW.PrintMore
attribute [local go_sem] max2_int min2_int max_two min_two max_three min_three max_four min_four
set_option linter.unusedVariables false
set_option linter.unusedSimpArgs false
def impl_LabelsOfCorner.j0 : Nat → Int → Bool → List (List Int) → List (List Int) → List Int → Option (List Int × Bool)
 | 0, _, _, _, _, _ => none
 | k + 1, x1, x16, x742000, x742001, x743000 => if x16 = true then (some (([] : List Int), false)) else ((impl_Game_figureOf.f k x742000 x742001 x1).bind fun bt745 => ((impl_figure_corners.f k bt745.1 bt745.2).bind fun t750 => ((impl_hasRow.f t750 x743000).bind fun t753 => (if t753 = true then ((impl_figure_labelsAt.f k bt745.1 bt745.2 x743000).bind fun t754 => (some (t754, true))) else (some (([] : List Int), false))))))
def impl_LabelsOfCorner.f (k : Nat) (l0_0 : List (List Int)) (l0_1 : List (List Int)) (a1 : Int) (l2 : List Int) : Option (List Int × Bool) := (impl_IsGame.f l0_0 l0_1).bind fun t743 => (if t743 = true then ((impl_isPlayer.f a1).bind fun t744 => (impl_LabelsOfCorner.j0 k a1 (!t744) l0_0 l0_1 l2)) else (impl_LabelsOfCorner.j0 k a1 true l0_0 l0_1 l2))
theorem impl_LabelsOfCorner.mono_l : ∀ k, (∀ y0 y1 y2 y3 y4, LeO (impl_LabelsOfCorner.j0 k y0 y1 y2 y3 y4) (impl_LabelsOfCorner.j0 (k + 1) y0 y1 y2 y3 y4))
 | 0 => fun _ _ _ _ _ r h => by simp [impl_LabelsOfCorner.j0] at h
 | k + 1 => by
  have ih0 := impl_LabelsOfCorner.mono_l k
  ·intro y0 y1 y2 y3 y4
   unfold impl_LabelsOfCorner.j0
   repeat' first
   | (with_reducible exact ih0 ..)
   | (with_reducible exact impl_Game_figureOf.mono ..)
   | (with_reducible exact impl_figure_corners.mono ..)
   | (with_reducible exact impl_figure_labelsAt.mono ..)
   | (with_reducible exact LeO.refl _)
   | (with_reducible exact LeO.none _)
   | (with_reducible refine LeO.ite ?_ ?_)
   | (with_reducible refine LeO.bind ?_ (fun _ => ?_))
theorem impl_LabelsOfCorner.mono : ∀ a0 a1 a2 a3 k, LeO (impl_LabelsOfCorner.f k a0 a1 a2 a3) (impl_LabelsOfCorner.f (k + 1) a0 a1 a2 a3) := by
 intro a0 a1 a2 a3 k
 have ih0 := impl_LabelsOfCorner.mono_l k
 unfold impl_LabelsOfCorner.f
 repeat' first
   | (with_reducible exact ih0 ..)
   | (with_reducible exact impl_Game_figureOf.mono ..)
   | (with_reducible exact impl_figure_corners.mono ..)
   | (with_reducible exact impl_figure_labelsAt.mono ..)
   | (with_reducible exact LeO.refl _)
   | (with_reducible exact LeO.none _)
   | (with_reducible refine LeO.ite ?_ ?_)
   | (with_reducible refine LeO.bind ?_ (fun _ => ?_))
set_option maxHeartbeats 8000000 in
set_option maxRecDepth 100000 in
theorem impl_LabelsOfCorner.calls (k : Nat) (A0_0 : Option Addr) (c0_0 : Nat) (l0_0 : List (List Int)) (A0_1 : Option Addr) (c0_1 : Nat) (l0_1 : List (List Int)) (a1 : Int) (A2 : Option Addr) (c2 : Nat) (l2 : List Int) (r1 : List Int) (r2 : Bool) (w : World) (hr0_0 : Kd.C (Kd.slice 3 (Kd.int .i64)) w A0_0 l0_0.length l0_0) (hc0_0 : l0_0.length ≤ c0_0) (hr0_1 : Kd.C (Kd.slice 3 (Kd.int .i64)) w A0_1 l0_1.length l0_1) (hc0_1 : l0_1.length ≤ c0_1) (hr2 : Kd.C (Kd.int .i64) w A2 l2.length l2) (hc2 : l2.length ≤ c2) (h : impl_LabelsOfCorner.f k l0_0 l0_1 a1 l2 = some (r1, r2)) :
  Calls Try.prog 19 #[.agg #[.slice A0_0 l0_0.length c0_0, .slice A0_1 l0_1.length c0_1], .int .i64 a1, .slice A2 l2.length c2] w fun e w' => ∃ v0_ : Value, e = .returned (.tuple #[v0_, .bool r2]) ∧ Kd.R (Kd.int .i64) 3 w' w.heap.size (fun _ => True) v0_ r1 ∧ Below w.heap.size w w' := by
 have hu28 := Try.underlying28
 have hu51 := Try.underlying51
 have HR0_0 := Aside0.mk hr0_0
 have HC0_0 := Aside0.mk hc0_0
 clear hr0_0 hc0_0
 have HR0_1 := Aside0.mk hr0_1
 have HC0_1 := Aside0.mk hc0_1
 clear hr0_1 hc0_1
 have HR2 := Aside0.mk hr2
 have HC2 := Aside0.mk hc2
 clear hr2 hc2
 have HB := Aside0.mk (Below.refl w.heap.size w)
 have H : ((impl_IsGame.f l0_0 l0_1).bind fun t743 => (if t743 = true then ((impl_isPlayer.f a1).bind fun t744 => (impl_LabelsOfCorner.j0 k a1 (!t744) l0_0 l0_1 l2)) else (impl_LabelsOfCorner.j0 k a1 true l0_0 l0_1 l2))) = some (r1, r2) := h
 clear h
 have HC4 := Aside0.mk H
 clear H
 go_enter Try.func19, Try.ntmps19
 go_upto_region 1 with (first | ((with_reducible refine gate_dst (N := 3) rfl ?_); refine bE 3 #[.slice A0_0 l0_0.length c0_0, .slice A0_1 l0_1.length c0_1] 28 ?_; intro gb741 hg w5 hbox hb; have BK741 := am (hbox); have GW741 := am ((by rw [hg]; exact (below_size (mb HB.out)) : w.heap.size ≤ gb741)); have GE741 := GW741; replace HB := am (below_step (mb HB.out) hb); clear hb hbox hg) | ((with_reducible refine gate_dst (N := 5) rfl ?_); refine bE 5 #[.slice A2 l2.length c2] 38 ?_; intro gb742 hg w6 hbox hb; have BK742 := am (hbox); have GW742 := am ((by rw [hg]; exact (below_size (mb HB.out)) : w.heap.size ≤ gb742)); have GE742 := GW742; replace HB := am (below_step (mb HB.out) hb); have NB741_742 := am ((by rw [hg]; exact Nat.ne_of_lt (blk_lt (g := gb741) (o := .cells #[.slice A0_0 l0_0.length c0_0, .slice A0_1 l0_1.length c0_1] 28 (0, 0)) (mvK BK741.out)) : gb741 ≠ gb742)); have NB742_741 := am ((by rw [hg]; exact Nat.ne_of_gt (blk_lt (g := gb741) (o := .cells #[.slice A0_0 l0_0.length c0_0, .slice A0_1 l0_1.length c0_1] 28 (0, 0)) (mvK BK741.out)) : gb742 ≠ gb741)); replace BK741 := am (blk_below (mvK BK741.out) hb); clear hb hbox hg))
 (try simp only [Act.put, List.setIfInBounds_toArray, List.set_cons_zero, List.set_cons_succ])
 go_cut [16] (fun v16 wc => ∃ (kq : Nat) (x16_3 : Bool), v16 = .bool x16_3 ∧ Aside0 (impl_LabelsOfCorner.j0 kq a1 x16_3 l0_0 l0_1 l2 = some (r1, r2)) ∧ Aside0 (kq ≤ k) ∧ Aside0 (wc.heap[gb741]? = some (.cells #[(.slice A0_0 l0_0.length c0_0), (.slice A0_1 l0_1.length c0_1)] 28 (0, 0))) ∧ Aside0 (wc.heap[gb742]? = some (.cells #[(.slice A2 l2.length c2)] 38 (0, 0))) ∧ Aside0 (Below w.heap.size w wc))
 case first =>
  have H := HC4.out
  clear HC4
  replace H := bindA H; obtain ⟨t743, A7, H⟩ := H
  by_cases c8 : t743 = true
  rotate_left
  ·replace c8 := Bool.eq_false_iff.mpr c8
   subst c8
   replace H := ifF H
   have H' := Aside0.mk H
   clear H
   have hnb13 := NB741_742.out
   have hnc13 := NB742_741.out
   have hcz14_0 := cell0 BK741.out
   have hcz14_1 := cell1 BK741.out
   have hfz14_0 := blk_frozen BK741.out 0
   have hfz14_1 := blk_frozen BK741.out 1
   go_wp2_with (first | ((with_reducible refine gC 29 rfl ?_); refine gL 10 Try.func29 #[.agg #[.slice A0_0 l0_0.length c0_0, .slice A0_1 l0_1.length c0_1]] ?_; (with_reducible refine (impl_IsGame.calls _ _ l0_0 _ _ l0_1 false _ ?side1 ?side2 ?side3 ?side4 A7.out).mono ?_); (case side1 => exact mvC (Kd.C_below HR0_0.out HB.out)); (case side2 => exact HC0_0.out); (case side3 => exact mvC (Kd.C_below HR0_1.out HB.out)); (case side4 => exact HC0_1.out); rintro e w15 ⟨rfl, hb⟩; refine ⟨_, rfl, ?_⟩; replace BK741 := am (blk_below (mvK BK741.out) hb); replace BK742 := am (blk_below (mvK BK742.out) hb); replace HB := am (below_step (mb HB.out) hb); (try clear hb)))
   go_meet
   case rel => exact ⟨_, (true), eqF, H', ⟨by first | omega | exact Nat.le_refl _⟩, ⟨mvK BK741.out⟩, ⟨mvK BK742.out⟩, ⟨mb HB.out⟩⟩
  subst c8
  replace H := ifT H
  replace H := bindA H; obtain ⟨t744, A9, H⟩ := H
  have H' := Aside0.mk H
  clear H
  have hnb10 := NB741_742.out
  have hnc10 := NB742_741.out
  have hcz11_0 := cell0 BK741.out
  have hcz11_1 := cell1 BK741.out
  have hfz11_0 := blk_frozen BK741.out 0
  have hfz11_1 := blk_frozen BK741.out 1
  go_wp2_with (first | ((with_reducible refine gC 29 rfl ?_); refine gL 10 Try.func29 #[.agg #[.slice A0_0 l0_0.length c0_0, .slice A0_1 l0_1.length c0_1]] ?_; (with_reducible refine (impl_IsGame.calls _ _ l0_0 _ _ l0_1 true _ ?side1 ?side2 ?side3 ?side4 A7.out).mono ?_); (case side1 => exact mvC (Kd.C_below HR0_0.out HB.out)); (case side2 => exact HC0_0.out); (case side3 => exact mvC (Kd.C_below HR0_1.out HB.out)); (case side4 => exact HC0_1.out); rintro e w12 ⟨rfl, hb⟩; refine ⟨_, rfl, ?_⟩; replace BK741 := am (blk_below (mvK BK741.out) hb); replace BK742 := am (blk_below (mvK BK742.out) hb); replace HB := am (below_step (mb HB.out) hb); (try clear hb)) | (go_at_call 30; (with_reducible refine (impl_isPlayer.calls a1 t744 _ A9.out).mono ?_); rintro e w' ⟨rfl, ⟨nd, rfl⟩⟩))
  go_meet
  case rel => exact ⟨_, (!t744), eqF, H', ⟨by first | omega | exact Nat.le_refl _⟩, ⟨mvK BK741.out⟩, ⟨mvK BK742.out⟩, ⟨mb HB.out⟩⟩
 case rest =>
  clear HC4
  obtain ⟨kq, x16_3, rfl, HA, HJ3, BK741, BK742, HB⟩ := hcut
  cases kq with
  | zero => exact absurd HA.out (by simp [impl_LabelsOfCorner.j0])
  | succ kj3 =>
   have H := HA.out
   clear HA
   simp only [impl_LabelsOfCorner.j0] at H
   by_cases c16 : x16_3 = true
   ·subst c16
    replace H := ifT H
    simp only [Option.some.injEq, Prod.mk.injEq] at H
    obtain ⟨rfl, rfl⟩ := H
    go_wp2
    go_ret2
    exact ⟨_, eqE, nilE, mb HB.out⟩
   replace c16 := Bool.eq_false_iff.mpr c16
   subst c16
   replace H := ifF H
   replace H := bindA H; obtain ⟨⟨t745, t746⟩, A17, H⟩ := H; dsimp only at H
   replace H := bindA H; obtain ⟨t750, A18, H⟩ := H
   replace H := bindA H; obtain ⟨t753, A19, H⟩ := H
   by_cases c20 : t753 = true
   rotate_left
   ·replace c20 := Bool.eq_false_iff.mpr c20
    subst c20
    replace H := ifF H
    simp only [Option.some.injEq, Prod.mk.injEq] at H
    obtain ⟨rfl, rfl⟩ := H
    have hnb38 := NB741_742.out
    have hnc38 := NB742_741.out
    have hcz39_0 := cell0 BK741.out
    have hcz39_1 := cell1 BK741.out
    have hfz39_0 := blk_frozen BK741.out 0
    have hfz39_1 := blk_frozen BK741.out 1
    go_wp2_with (first | ((with_reducible refine gC 31 rfl ?_); refine gL 19 Try.func31 #[.agg #[.slice A0_0 l0_0.length c0_0, .slice A0_1 l0_1.length c0_1], .int .i64 a1] ?_; (with_reducible refine (impl_Game_figureOf.calls kj3 _ _ l0_0 _ _ l0_1 a1 t745 t746 _ ?side1 ?side2 ?side3 ?side4 A17.out).mono ?_); (case side1 => exact mvC (Kd.C_below HR0_0.out HB.out)); (case side2 => exact HC0_0.out); (case side3 => exact mvC (Kd.C_below HR0_1.out HB.out)); (case side4 => exact HC0_1.out); rintro e w40 ⟨v747, rfl, ho0, hb⟩; refine ⟨_, rfl, ?_⟩; have HO748 := am (Kd.N_lower (Kd.N_mono (ok' := fun k_ => k_ ≠ gb741 ∧ k_ ≠ gb742) ho0 (fun k_ hk_ => ⟨(Kd.freshB (g := gb741) (o := .cells #[.slice A0_0 l0_0.length c0_0, .slice A0_1 l0_1.length c0_1] 28 (0, 0)) (mvK BK741.out) k_ hk_), (Kd.freshB (g := gb742) (o := .cells #[.slice A2 l2.length c2] 38 (0, 0)) (mvK BK742.out) k_ hk_)⟩)) (below_size (mb HB.out))); replace BK741 := am (blk_below (mvK BK741.out) hb); replace BK742 := am (blk_below (mvK BK742.out) hb); replace HB := am (below_step (mb HB.out) hb); (try clear hb ho0)) | ((with_reducible refine gate_dst (N := 8) rfl ?_); refine bE 8 #[.int .i64 0, .slice none 0 0] 51 ?_; intro gb749 hg w41 hbox hb; replace HO748 := am (Kd.N_below (Kd.N_elderB (mvN HO748.out) gb749 (Nat.le_of_eq hg.symm)) hb); have BK749 := am (hbox); have GW749 := am ((by rw [hg]; exact (below_size (mb HB.out)) : w.heap.size ≤ gb749)); have GE749 := GW749; replace HB := am (below_step (mb HB.out) hb); have NB741_749 := am ((by rw [hg]; exact Nat.ne_of_lt (blk_lt (g := gb741) (o := .cells #[.slice A0_0 l0_0.length c0_0, .slice A0_1 l0_1.length c0_1] 28 (0, 0)) (mvK BK741.out)) : gb741 ≠ gb749)); have NB749_741 := am ((by rw [hg]; exact Nat.ne_of_gt (blk_lt (g := gb741) (o := .cells #[.slice A0_0 l0_0.length c0_0, .slice A0_1 l0_1.length c0_1] 28 (0, 0)) (mvK BK741.out)) : gb749 ≠ gb741)); replace BK741 := am (blk_below (mvK BK741.out) hb); have NB742_749 := am ((by rw [hg]; exact Nat.ne_of_lt (blk_lt (g := gb742) (o := .cells #[.slice A2 l2.length c2] 38 (0, 0)) (mvK BK742.out)) : gb742 ≠ gb749)); have NB749_742 := am ((by rw [hg]; exact Nat.ne_of_gt (blk_lt (g := gb742) (o := .cells #[.slice A2 l2.length c2] 38 (0, 0)) (mvK BK742.out)) : gb749 ≠ gb742)); replace BK742 := am (blk_below (mvK BK742.out) hb); clear hb hbox hg; have hnb42 := NB749_741.out; have hnc42 := NB741_749.out; have hnb43 := NB749_742.out; have hnc43 := NB742_749.out; have hcz44_0 := cell0 BK749.out; have hcz44_1 := cell1 BK749.out; have hfz44_0 := blk_frozen BK749.out 0; have hfz44_1 := blk_frozen BK749.out 1; obtain ⟨Ao45, co45, eo45⟩ := Kd.N_slice HO748.out; subst eo45) | ((with_reducible refine gate_store (t := 51) (p := 8) rfl ?_); refine store_event (t := 51) (p := 8) (v := ?vo_w46) (w1 := ((w41.setCell ⟨gb749, 0, none⟩ (.int .i64 t745)).setCell ⟨gb749, 1, none⟩ (.slice Ao45 t746.length co45))) ?hg ?ho ?hn ?hr ?_; (case ho => rfl); (case hg => rfl); (case hn => rfl); (case hr => first | (go_simp; done) | (go_simp; rfl)); intro w46 hw; have n0_ : Aside0 (Kd.N k70 70 w46 w.heap.size (fun k_ => k_ ≠ gb741 ∧ k_ ≠ gb742 ∧ k_ ≠ gb749) (.slice Ao45 t746.length co45) t746) := ⟨(by rw [hw]; exact (by (with_reducible repeat (first | apply Kd.N_alloc | apply Kd.N_drewN | apply Kd.N_drew)); exact Kd.N_mono (Kd.N_far (p := ⟨gb749, 1, none⟩) (Kd.N_far (p := ⟨gb749, 0, none⟩) (Kd.N_mono HO748.out (fun k_ hk => (⟨hk, hk.2⟩ : _ ∧ k_ ≠ gb749))) (fun _ hk => hk.2) (.int .i64 t745)) (fun _ hk => hk.2) (.slice Ao45 t746.length co45)) (fun _ hk => ⟨hk.1.1.1, ⟨hk.1.1.2, hk.1.2⟩⟩)))⟩; have n1_ : Aside0 (w46.heap[gb741]? = some (.cells #[.slice A0_0 l0_0.length c0_0, .slice A0_1 l0_1.length c0_1] 28 (0, 0))) := ⟨(by rw [hw]; exact (by (with_reducible repeat (first | refine blk_drewN ?_ _ | refine blk_drew ?_ | refine blk_alloc ?_ _)); refine blk_far ?_ NB741_749.out _; (with_reducible repeat (first | refine blk_drewN ?_ _ | refine blk_drew ?_ | refine blk_alloc ?_ _)); refine blk_far ?_ NB741_749.out _; (with_reducible repeat (first | refine blk_drewN ?_ _ | refine blk_drew ?_ | refine blk_alloc ?_ _)); exact BK741.out))⟩; have n2_ : Aside0 (w46.heap[gb742]? = some (.cells #[.slice A2 l2.length c2] 38 (0, 0))) := ⟨(by rw [hw]; exact (by (with_reducible repeat (first | refine blk_drewN ?_ _ | refine blk_drew ?_ | refine blk_alloc ?_ _)); refine blk_far ?_ NB742_749.out _; (with_reducible repeat (first | refine blk_drewN ?_ _ | refine blk_drew ?_ | refine blk_alloc ?_ _)); refine blk_far ?_ NB742_749.out _; (with_reducible repeat (first | refine blk_drewN ?_ _ | refine blk_drew ?_ | refine blk_alloc ?_ _)); exact BK742.out))⟩; have n3_ : Aside0 (w46.heap[gb749]? = some (.cells #[.int .i64 t745, .slice Ao45 t746.length co45] 51 (0, 0))) := ⟨(by rw [hw]; exact (by (with_reducible repeat (first | refine blk_drewN ?_ _ | refine blk_drew ?_ | refine blk_alloc ?_ _)); refine blk_put (cs := #[.int .i64 t745, .slice none 0 0]) ?_ 1 _ rfl; (with_reducible repeat (first | refine blk_drewN ?_ _ | refine blk_drew ?_ | refine blk_alloc ?_ _)); refine blk_put (cs := #[.int .i64 0, .slice none 0 0]) ?_ 0 _ rfl; (with_reducible repeat (first | refine blk_drewN ?_ _ | refine blk_drew ?_ | refine blk_alloc ?_ _)); exact BK749.out))⟩; have n4_ : Aside0 (Below w.heap.size w w46) := ⟨(by rw [hw]; exact (mb HB.out))⟩; clear hw; clear HO748; clear BK741; clear BK742; clear BK749; clear HB; have HO748 := n0_; have BK741 := n1_; have BK742 := n2_; have BK749 := n3_; have HB := n4_; clear n0_ n1_ n2_ n3_ n4_; have hcz47_0 := cell0 BK749.out; have hcz47_1 := cell1 BK749.out; have hfz47_0 := blk_frozen BK749.out 0; have hfz47_1 := blk_frozen BK749.out 1) | ((with_reducible refine gC 32 rfl ?_); refine gL 21 Try.func32 #[.agg #[.int .i64 t745, .slice Ao45 t746.length co45]] ?_; (with_reducible refine (impl_figure_corners.calls kj3 t745 (fun k_ => (k_ ≠ gb741 ∧ (k_ ≠ gb742 ∧ k_ ≠ gb749))) _ _ t746 t750 _ ?side1 A18.out).mono ?_); (case side1 => exact Kd.N_V (HO748.out)); rintro e w48 ⟨v751, rfl, ho0, hb⟩; refine ⟨_, rfl, ?_⟩; replace HO748 := am (Kd.N_elder' (mvN HO748.out) (Kd.N_base ho0) hb); have HO752 := am (Kd.N_lower (Kd.N_mono (ok' := fun k_ => k_ ≠ gb741 ∧ k_ ≠ gb742 ∧ k_ ≠ gb749) ho0 (fun k_ hk_ => ⟨Or.elim hk_ (fun hs_ => hs_.1) (fun hn_ => (Kd.freshB (g := gb741) (o := .cells #[.slice A0_0 l0_0.length c0_0, .slice A0_1 l0_1.length c0_1] 28 (0, 0)) (mvK BK741.out) k_ hn_)), Or.elim hk_ (fun hs_ => hs_.2.1) (fun hn_ => (Kd.freshB (g := gb742) (o := .cells #[.slice A2 l2.length c2] 38 (0, 0)) (mvK BK742.out) k_ hn_)), Or.elim hk_ (fun hs_ => hs_.2.2) (fun hn_ => (Kd.freshB (g := gb749) (o := .cells #[.int .i64 t745, .slice Ao45 t746.length co45] 51 (0, 0)) (mvK BK749.out) k_ hn_))⟩)) (below_size (mb HB.out))); replace BK741 := am (blk_below (mvK BK741.out) hb); replace BK742 := am (blk_below (mvK BK742.out) hb); replace BK749 := am (blk_below (mvK BK749.out) hb); replace HB := am (below_step (mb HB.out) hb); (try clear hb ho0); obtain ⟨Ao49, co49, eo49⟩ := Kd.N_slice HO752.out; subst eo49) | ((with_reducible refine gC 37 rfl ?_); refine gL 23 Try.func37 #[.slice Ao49 t750.length co49, .func (.func 38) #[] #[.pointer (some ⟨gb742, 0, none⟩)]] ?_; (with_reducible refine (impl_hasRow.calls _ _ t750 gb742 A2 c2 l2 false _ ?side1 ?side2 ?side3 ?side4 ?side5 A19.out).mono ?_); (case side1 => repeat (first | exact (Kd.N_reads' HO752.out).2.2 | (with_reducible refine Kd.C_alloc ?_ _) | (with_reducible refine Kd.C_drewN ?_ _) | (with_reducible refine Kd.C_drew ?_))); (case side2 => exact (Kd.N_reads' HO752.out).2.1); (case side3 => exact (blk_cell (g := gb742) (cs := #[.slice A2 l2.length c2]) (t := 38) (mvK BK742.out) 0).trans rfl); (case side4 => exact mvC (Kd.C_below HR2.out HB.out)); (case side5 => exact HC2.out); rintro e w50 ⟨rfl, hb⟩; refine ⟨_, rfl, ?_⟩; replace HO748 := am (Kd.N_below (mvN HO748.out) hb); replace HO752 := am (Kd.N_below (mvN HO752.out) hb); replace BK741 := am (blk_below (mvK BK741.out) hb); replace BK742 := am (blk_below (mvK BK742.out) hb); replace BK749 := am (blk_below (mvK BK749.out) hb); replace HB := am (below_step (mb HB.out) hb); (try clear hb)))
    go_ret2
    exact ⟨_, eqE, nilE, mb HB.out⟩
   subst c20
   replace H := ifT H
   replace H := bindA H; obtain ⟨t754, A21, H⟩ := H
   simp only [Option.some.injEq, Prod.mk.injEq] at H
   obtain ⟨rfl, rfl⟩ := H
   have hnb22 := NB741_742.out
   have hnc22 := NB742_741.out
   have hcz23_0 := cell0 BK741.out
   have hcz23_1 := cell1 BK741.out
   have hfz23_0 := blk_frozen BK741.out 0
   have hfz23_1 := blk_frozen BK741.out 1
   go_wp2_with (first | ((with_reducible refine gC 31 rfl ?_); refine gL 19 Try.func31 #[.agg #[.slice A0_0 l0_0.length c0_0, .slice A0_1 l0_1.length c0_1], .int .i64 a1] ?_; (with_reducible refine (impl_Game_figureOf.calls kj3 _ _ l0_0 _ _ l0_1 a1 t745 t746 _ ?side1 ?side2 ?side3 ?side4 A17.out).mono ?_); (case side1 => exact mvC (Kd.C_below HR0_0.out HB.out)); (case side2 => exact HC0_0.out); (case side3 => exact mvC (Kd.C_below HR0_1.out HB.out)); (case side4 => exact HC0_1.out); rintro e w24 ⟨v747, rfl, ho0, hb⟩; refine ⟨_, rfl, ?_⟩; have HO748 := am (Kd.N_lower (Kd.N_mono (ok' := fun k_ => k_ ≠ gb741 ∧ k_ ≠ gb742) ho0 (fun k_ hk_ => ⟨(Kd.freshB (g := gb741) (o := .cells #[.slice A0_0 l0_0.length c0_0, .slice A0_1 l0_1.length c0_1] 28 (0, 0)) (mvK BK741.out) k_ hk_), (Kd.freshB (g := gb742) (o := .cells #[.slice A2 l2.length c2] 38 (0, 0)) (mvK BK742.out) k_ hk_)⟩)) (below_size (mb HB.out))); replace BK741 := am (blk_below (mvK BK741.out) hb); replace BK742 := am (blk_below (mvK BK742.out) hb); replace HB := am (below_step (mb HB.out) hb); (try clear hb ho0)) | ((with_reducible refine gate_dst (N := 8) rfl ?_); refine bE 8 #[.int .i64 0, .slice none 0 0] 51 ?_; intro gb749 hg w25 hbox hb; replace HO748 := am (Kd.N_below (Kd.N_elderB (mvN HO748.out) gb749 (Nat.le_of_eq hg.symm)) hb); have BK749 := am (hbox); have GW749 := am ((by rw [hg]; exact (below_size (mb HB.out)) : w.heap.size ≤ gb749)); have GE749 := GW749; replace HB := am (below_step (mb HB.out) hb); have NB741_749 := am ((by rw [hg]; exact Nat.ne_of_lt (blk_lt (g := gb741) (o := .cells #[.slice A0_0 l0_0.length c0_0, .slice A0_1 l0_1.length c0_1] 28 (0, 0)) (mvK BK741.out)) : gb741 ≠ gb749)); have NB749_741 := am ((by rw [hg]; exact Nat.ne_of_gt (blk_lt (g := gb741) (o := .cells #[.slice A0_0 l0_0.length c0_0, .slice A0_1 l0_1.length c0_1] 28 (0, 0)) (mvK BK741.out)) : gb749 ≠ gb741)); replace BK741 := am (blk_below (mvK BK741.out) hb); have NB742_749 := am ((by rw [hg]; exact Nat.ne_of_lt (blk_lt (g := gb742) (o := .cells #[.slice A2 l2.length c2] 38 (0, 0)) (mvK BK742.out)) : gb742 ≠ gb749)); have NB749_742 := am ((by rw [hg]; exact Nat.ne_of_gt (blk_lt (g := gb742) (o := .cells #[.slice A2 l2.length c2] 38 (0, 0)) (mvK BK742.out)) : gb749 ≠ gb742)); replace BK742 := am (blk_below (mvK BK742.out) hb); clear hb hbox hg; have hnb26 := NB749_741.out; have hnc26 := NB741_749.out; have hnb27 := NB749_742.out; have hnc27 := NB742_749.out; have hcz28_0 := cell0 BK749.out; have hcz28_1 := cell1 BK749.out; have hfz28_0 := blk_frozen BK749.out 0; have hfz28_1 := blk_frozen BK749.out 1; obtain ⟨Ao29, co29, eo29⟩ := Kd.N_slice HO748.out; subst eo29) | ((with_reducible refine gate_store (t := 51) (p := 8) rfl ?_); refine store_event (t := 51) (p := 8) (v := ?vo_w30) (w1 := ((w25.setCell ⟨gb749, 0, none⟩ (.int .i64 t745)).setCell ⟨gb749, 1, none⟩ (.slice Ao29 t746.length co29))) ?hg ?ho ?hn ?hr ?_; (case ho => rfl); (case hg => rfl); (case hn => rfl); (case hr => first | (go_simp; done) | (go_simp; rfl)); intro w30 hw; have n0_ : Aside0 (Kd.N k70 70 w30 w.heap.size (fun k_ => k_ ≠ gb741 ∧ k_ ≠ gb742 ∧ k_ ≠ gb749) (.slice Ao29 t746.length co29) t746) := ⟨(by rw [hw]; exact (by (with_reducible repeat (first | apply Kd.N_alloc | apply Kd.N_drewN | apply Kd.N_drew)); exact Kd.N_mono (Kd.N_far (p := ⟨gb749, 1, none⟩) (Kd.N_far (p := ⟨gb749, 0, none⟩) (Kd.N_mono HO748.out (fun k_ hk => (⟨hk, hk.2⟩ : _ ∧ k_ ≠ gb749))) (fun _ hk => hk.2) (.int .i64 t745)) (fun _ hk => hk.2) (.slice Ao29 t746.length co29)) (fun _ hk => ⟨hk.1.1.1, ⟨hk.1.1.2, hk.1.2⟩⟩)))⟩; have n1_ : Aside0 (w30.heap[gb741]? = some (.cells #[.slice A0_0 l0_0.length c0_0, .slice A0_1 l0_1.length c0_1] 28 (0, 0))) := ⟨(by rw [hw]; exact (by (with_reducible repeat (first | refine blk_drewN ?_ _ | refine blk_drew ?_ | refine blk_alloc ?_ _)); refine blk_far ?_ NB741_749.out _; (with_reducible repeat (first | refine blk_drewN ?_ _ | refine blk_drew ?_ | refine blk_alloc ?_ _)); refine blk_far ?_ NB741_749.out _; (with_reducible repeat (first | refine blk_drewN ?_ _ | refine blk_drew ?_ | refine blk_alloc ?_ _)); exact BK741.out))⟩; have n2_ : Aside0 (w30.heap[gb742]? = some (.cells #[.slice A2 l2.length c2] 38 (0, 0))) := ⟨(by rw [hw]; exact (by (with_reducible repeat (first | refine blk_drewN ?_ _ | refine blk_drew ?_ | refine blk_alloc ?_ _)); refine blk_far ?_ NB742_749.out _; (with_reducible repeat (first | refine blk_drewN ?_ _ | refine blk_drew ?_ | refine blk_alloc ?_ _)); refine blk_far ?_ NB742_749.out _; (with_reducible repeat (first | refine blk_drewN ?_ _ | refine blk_drew ?_ | refine blk_alloc ?_ _)); exact BK742.out))⟩; have n3_ : Aside0 (w30.heap[gb749]? = some (.cells #[.int .i64 t745, .slice Ao29 t746.length co29] 51 (0, 0))) := ⟨(by rw [hw]; exact (by (with_reducible repeat (first | refine blk_drewN ?_ _ | refine blk_drew ?_ | refine blk_alloc ?_ _)); refine blk_put (cs := #[.int .i64 t745, .slice none 0 0]) ?_ 1 _ rfl; (with_reducible repeat (first | refine blk_drewN ?_ _ | refine blk_drew ?_ | refine blk_alloc ?_ _)); refine blk_put (cs := #[.int .i64 0, .slice none 0 0]) ?_ 0 _ rfl; (with_reducible repeat (first | refine blk_drewN ?_ _ | refine blk_drew ?_ | refine blk_alloc ?_ _)); exact BK749.out))⟩; have n4_ : Aside0 (Below w.heap.size w w30) := ⟨(by rw [hw]; exact (mb HB.out))⟩; clear hw; clear HO748; clear BK741; clear BK742; clear BK749; clear HB; have HO748 := n0_; have BK741 := n1_; have BK742 := n2_; have BK749 := n3_; have HB := n4_; clear n0_ n1_ n2_ n3_ n4_; have hcz31_0 := cell0 BK749.out; have hcz31_1 := cell1 BK749.out; have hfz31_0 := blk_frozen BK749.out 0; have hfz31_1 := blk_frozen BK749.out 1) | ((with_reducible refine gC 32 rfl ?_); refine gL 21 Try.func32 #[.agg #[.int .i64 t745, .slice Ao29 t746.length co29]] ?_; (with_reducible refine (impl_figure_corners.calls kj3 t745 (fun k_ => (k_ ≠ gb741 ∧ (k_ ≠ gb742 ∧ k_ ≠ gb749))) _ _ t746 t750 _ ?side1 A18.out).mono ?_); (case side1 => exact Kd.N_V (HO748.out)); rintro e w32 ⟨v751, rfl, ho0, hb⟩; refine ⟨_, rfl, ?_⟩; replace HO748 := am (Kd.N_elder' (mvN HO748.out) (Kd.N_base ho0) hb); have HO752 := am (Kd.N_lower (Kd.N_mono (ok' := fun k_ => k_ ≠ gb741 ∧ k_ ≠ gb742 ∧ k_ ≠ gb749) ho0 (fun k_ hk_ => ⟨Or.elim hk_ (fun hs_ => hs_.1) (fun hn_ => (Kd.freshB (g := gb741) (o := .cells #[.slice A0_0 l0_0.length c0_0, .slice A0_1 l0_1.length c0_1] 28 (0, 0)) (mvK BK741.out) k_ hn_)), Or.elim hk_ (fun hs_ => hs_.2.1) (fun hn_ => (Kd.freshB (g := gb742) (o := .cells #[.slice A2 l2.length c2] 38 (0, 0)) (mvK BK742.out) k_ hn_)), Or.elim hk_ (fun hs_ => hs_.2.2) (fun hn_ => (Kd.freshB (g := gb749) (o := .cells #[.int .i64 t745, .slice Ao29 t746.length co29] 51 (0, 0)) (mvK BK749.out) k_ hn_))⟩)) (below_size (mb HB.out))); replace BK741 := am (blk_below (mvK BK741.out) hb); replace BK742 := am (blk_below (mvK BK742.out) hb); replace BK749 := am (blk_below (mvK BK749.out) hb); replace HB := am (below_step (mb HB.out) hb); (try clear hb ho0); obtain ⟨Ao33, co33, eo33⟩ := Kd.N_slice HO752.out; subst eo33) | ((with_reducible refine gC 37 rfl ?_); refine gL 23 Try.func37 #[.slice Ao33 t750.length co33, .func (.func 38) #[] #[.pointer (some ⟨gb742, 0, none⟩)]] ?_; (with_reducible refine (impl_hasRow.calls _ _ t750 gb742 A2 c2 l2 true _ ?side1 ?side2 ?side3 ?side4 ?side5 A19.out).mono ?_); (case side1 => repeat (first | exact (Kd.N_reads' HO752.out).2.2 | (with_reducible refine Kd.C_alloc ?_ _) | (with_reducible refine Kd.C_drewN ?_ _) | (with_reducible refine Kd.C_drew ?_))); (case side2 => exact (Kd.N_reads' HO752.out).2.1); (case side3 => exact (blk_cell (g := gb742) (cs := #[.slice A2 l2.length c2]) (t := 38) (mvK BK742.out) 0).trans rfl); (case side4 => exact mvC (Kd.C_below HR2.out HB.out)); (case side5 => exact HC2.out); rintro e w34 ⟨rfl, hb⟩; refine ⟨_, rfl, ?_⟩; replace HO748 := am (Kd.N_below (mvN HO748.out) hb); replace HO752 := am (Kd.N_below (mvN HO752.out) hb); replace BK741 := am (blk_below (mvK BK741.out) hb); replace BK742 := am (blk_below (mvK BK742.out) hb); replace BK749 := am (blk_below (mvK BK749.out) hb); replace HB := am (below_step (mb HB.out) hb); (try clear hb); have hcz35_0 := cell0 BK749.out; have hcz35_1 := cell1 BK749.out; have hfz35_0 := blk_frozen BK749.out 0; have hfz35_1 := blk_frozen BK749.out 1; have hcz36_0 := cell0 BK742.out; have hfz36_0 := blk_frozen BK742.out 0) | ((with_reducible refine gC 40 rfl ?_); refine gL 27 Try.func40 #[.agg #[.int .i64 t745, .slice Ao29 t746.length co29], .slice A2 l2.length c2] ?_; (with_reducible refine (impl_figure_labelsAt.calls kj3 t745 _ _ t746 _ _ l2 t754 _ ?side1 ?side2 ?side3 ?side4 A21.out).mono ?_); (case side1 => repeat (first | exact (Kd.N_reads' HO748.out).2.2 | (with_reducible refine Kd.C_alloc ?_ _) | (with_reducible refine Kd.C_drewN ?_ _) | (with_reducible refine Kd.C_drew ?_))); (case side2 => exact (Kd.N_reads' HO748.out).2.1); (case side3 => exact mvC (Kd.C_below HR2.out HB.out)); (case side4 => exact HC2.out); rintro e w37 ⟨v755, rfl, ho0, hb⟩; refine ⟨_, rfl, ?_⟩; replace HO748 := am (Kd.N_elder' (mvN HO748.out) (Kd.R_base ho0) hb); replace HO752 := am (Kd.N_elder' (mvN HO752.out) (Kd.R_base ho0) hb); have HO756 := am (Kd.R_lower ho0 (below_size (mb HB.out))); replace BK741 := am (blk_below (mvK BK741.out) hb); replace BK742 := am (blk_below (mvK BK742.out) hb); replace BK749 := am (blk_below (mvK BK749.out) hb); replace HB := am (below_step (mb HB.out) hb); (try clear hb ho0)))
   go_ret2
   exact ⟨_, eqE, mvR HO756.out, mb HB.out⟩
end Go.Proofs.Ytggiicplcglalaa.All
end
section
namespace Go.Proofs.Ytggiicplcglalaa.Eqs
open Go.RowKit Go.Proofs.Ytggiicplcglalaa.All Go.Proofs.YtggiicplcglalaaW.PrintWords Go.Proofs.YtggiicplcglalaaW.PrintLast
theorem wrap_id {x : Int} (h0 : -9223372036854775808 ≤ x) (h1 : x < 9223372036854775808) : wrap64 x = x := by unfold wrap64; omega
theorem eqIntS_l0 (l : List Int) (hl : l.length < 1152921504606846976) (d : Nat) : ∀ (k : Nat) (i : Int), 0 ≤ i → i ≤ l.length → (l.length : Int) - i = d → d < k → laws_eqIntS.l0 k l l i = some true := by
 induction d with
 | zero =>
  intro k i h0 h1 hd hk
  obtain ⟨k, rfl⟩ : ∃ m, k = m + 1 := ⟨k - 1, by omega⟩
  simp only [laws_eqIntS.l0]; rw [if_neg (by omega)]
 | succ d ih =>
  intro k i h0 h1 hd hk
  obtain ⟨k, rfl⟩ : ∃ m, k = m + 1 := ⟨k - 1, by omega⟩
  simp only [laws_eqIntS.l0]
  rw [if_pos (by omega), if_pos h0, if_pos (by omega), if_pos trivial, wrap_id (by omega) (by omega)]
  exact ih k (i + 1) (by omega) (by omega) (by omega) (by omega)
theorem eqIntS_same (l : List Int) (hl : l.length < 1152921504606846976) (k : Nat) (hk : l.length < k) : laws_eqIntS.f k l l = some true := by
 unfold laws_eqIntS.f
 rw [if_pos rfl]
 exact eqIntS_l0 l hl l.length k 0 (by omega) (by omega) (by omega) hk
def marks : Nat → Int → List Int
 | 0, _ => []
 | n + 1, c => c :: marks n (c + 1)
theorem marks_length : ∀ n c, (marks n c).length = n
 | 0, _ => rfl
 | n + 1, c => by simp [marks, marks_length n]
theorem marks_get : ∀ n c i, i < n → (marks n c).getD i 0 = c + i
 | 0, _, _, h => absurd h (Nat.not_lt_zero _)
 | n + 1, c, 0, _ => by simp [marks]
 | n + 1, c, i + 1, h => by
  have := marks_get n (c + 1) i (by omega)
  simp only [marks, List.getD_cons_succ]
  rw [this]; omega
theorem marks_snoc : ∀ n c, marks n c ++ [c + n] = marks (n + 1) c
 | 0, c => by simp [marks]
 | n + 1, c => by
  have := marks_snoc n (c + 1)
  simp only [marks, List.cons_append] at this ⊢
  rw [← this]
  congr 3; omega
theorem mark_step (l : List Int) (c : Int) (i : Nat) (hi : i < l.length) : (marks i c ++ l.drop i).set i (c + i) = marks (i + 1) c ++ l.drop (i + 1) := by
 rw [List.set_append_right _ _ (by rw [marks_length]; omega), marks_length, Nat.sub_self, List.drop_eq_getElem_cons hi, List.set_cons_zero, ← marks_snoc, List.append_assoc]
 rfl
theorem markIntS_l0 (l : List Int) (hl : l.length < 1152921504606846976) (c : Int) (hc0 : 0 ≤ c) (hc : c < 1152921504606846976) (d : Nat) : ∀ (k : Nat) (i : Nat), i ≤ l.length → l.length - i = d → d < k →
  laws_markIntS.l0 k (marks i c ++ l.drop i) (c + i) i = some (c + l.length, marks l.length c) := by
 induction d with
 | zero =>
  intro k i h1 hd hk
  obtain ⟨k, rfl⟩ : ∃ m, k = m + 1 := ⟨k - 1, by omega⟩
  obtain rfl : i = l.length := by omega
  simp only [laws_markIntS.l0]
  rw [if_neg (by simp [marks_length])]
  simp
 | succ d ih =>
  intro k i h1 hd hk
  obtain ⟨k, rfl⟩ : ∃ m, k = m + 1 := ⟨k - 1, by omega⟩
  simp only [laws_markIntS.l0]
  rw [if_pos (by simp [marks_length]; omega), if_pos (by omega), wrap_id (by omega) (by omega), wrap_id (by omega) (by omega), show ((i : Int)).toNat = i from rfl, mark_step l c i (by omega)]
  have := ih k (i + 1) (by omega) (by omega) (by omega)
  rw [show ((i : Int) + 1) = ((i + 1 : Nat) : Int) from rfl, show c + (i : Int) + 1 = c + ((i + 1 : Nat) : Int) by omega]
  exact this
theorem markIntS_is (l : List Int) (hl : l.length < 1152921504606846976) (c : Int) (hc0 : 0 ≤ c) (hc : c < 1152921504606846976) (k : Nat) (hk : l.length < k) : laws_markIntS.f k l c = some (c + l.length, marks l.length c) := by
 unfold laws_markIntS.f
 have := markIntS_l0 l hl c hc0 hc l.length k 0 (by omega) (by omega) hk
 simpa [marks] using this
theorem heldIntS_l0 (n : Nat) (hl : n < 1152921504606846976) (c : Int) (hc0 : 0 ≤ c) (hc : c < 1152921504606846976) (d : Nat) : ∀ (k : Nat) (i : Nat), i ≤ n → n - i = d → d < k →
  laws_heldIntS.l0 k (marks n c) (c + i) i = some (c + n) := by
 induction d with
 | zero =>
  intro k i h1 hd hk
  obtain ⟨k, rfl⟩ : ∃ m, k = m + 1 := ⟨k - 1, by omega⟩
  obtain rfl : i = n := by omega
  simp only [laws_heldIntS.l0]
  rw [if_neg (by simp [marks_length])]
 | succ d ih =>
  intro k i h1 hd hk
  obtain ⟨k, rfl⟩ : ∃ m, k = m + 1 := ⟨k - 1, by omega⟩
  simp only [laws_heldIntS.l0]
  rw [if_pos (by rw [marks_length]; omega), if_pos (by omega), if_pos (by show (marks n c).getD i 0 = _; exact marks_get n c i (by omega)), wrap_id (by omega) (by omega), wrap_id (by omega) (by omega)]
  have := ih k (i + 1) (by omega) (by omega) (by omega)
  rw [show ((i : Int) + 1) = ((i + 1 : Nat) : Int) from rfl, show c + (i : Int) + 1 = c + ((i + 1 : Nat) : Int) by omega]
  exact this
theorem heldIntS_marks (n : Nat) (hl : n < 1152921504606846976) (c : Int) (hc0 : 0 ≤ c) (hc : c < 1152921504606846976) (k : Nat) (hk : n < k) : laws_heldIntS.f k (marks n c) c = some (c + n) := by
 unfold laws_heldIntS.f
 have := heldIntS_l0 n hl c hc0 hc n k 0 (by omega) (by omega) hk
 simpa using this
theorem copy_step (l : List Int) (i : Nat) (hi : i < l.length) : (l.take i ++ List.replicate (l.length - i) 0).set i (l.getD i 0) = l.take (i + 1) ++ List.replicate (l.length - (i + 1)) 0 := by
 have h1 : (l.take i).length = i := by simp; omega
 rw [List.set_append_right _ _ (by omega), h1, Nat.sub_self, show l.length - i = (l.length - (i + 1)) + 1 by omega, List.replicate_succ, List.set_cons_zero, List.take_succ_eq_append_getElem hi, List.append_assoc]
 simp [List.getD, List.getElem?_eq_getElem hi]
theorem toIntS_l0 (l : List Int) (hl : l.length ≤ 1048576) (d : Nat) : ∀ (k : Nat) (i : Nat), i ≤ l.length → l.length - i = d → d < k →
  laws_toIntS.l0 k l (l.take i ++ List.replicate (l.length - i) 0) i = some l := by
 induction d with
 | zero =>
  intro k i h1 hd hk
  obtain ⟨k, rfl⟩ : ∃ m, k = m + 1 := ⟨k - 1, by omega⟩
  obtain rfl : i = l.length := by omega
  simp only [laws_toIntS.l0]
  rw [if_neg (by omega)]
  simp
 | succ d ih =>
  intro k i h1 hd hk
  obtain ⟨k, rfl⟩ : ∃ m, k = m + 1 := ⟨k - 1, by omega⟩
  simp only [laws_toIntS.l0]
  have h2 : (l.take i ++ List.replicate (l.length - i) (0 : Int)).length = l.length := by simp; omega
  rw [if_pos (by omega), if_pos (by omega), if_pos (by rw [h2]; omega), wrap_id (by omega) (by omega), show ((i : Int)).toNat = i from rfl, show rd l (i : Int) = l.getD i 0 from rfl, copy_step l i (by omega)]
  exact ih k (i + 1) (by omega) (by omega) (by omega)
theorem toIntS_is (l : List Int) (hl : l.length ≤ 1048576) (k : Nat) (hk : l.length < k) : laws_toIntS.f k l = some l := by
 unfold laws_toIntS.f
 rw [if_pos (by omega), if_pos (by omega)]
 have := toIntS_l0 l hl l.length k 0 (by omega) (by omega) hk
 simpa using this
def Small (ls : List (List Int)) : Prop := ls.length ≤ 1048576 ∧ ∀ l ∈ ls, l.length ≤ 1048576
theorem getD_mem {ls : List (List Int)} {i : Nat} (hi : i < ls.length) : ls.getD i [] ∈ ls := by
 simp [List.getD, List.getElem?_eq_getElem hi]
theorem copyR_step (l : List (List Int)) (i : Nat) (hi : i < l.length) : (l.take i ++ List.replicate (l.length - i) []).set i (l.getD i []) = l.take (i + 1) ++ List.replicate (l.length - (i + 1)) [] := by
 have h1 : (l.take i).length = i := by simp; omega
 rw [List.set_append_right _ _ (by omega), h1, Nat.sub_self, show l.length - i = (l.length - (i + 1)) + 1 by omega, List.replicate_succ, List.set_cons_zero, List.take_succ_eq_append_getElem hi, List.append_assoc]
 simp [List.getD, List.getElem?_eq_getElem hi]
theorem toIntSS_l0 (l : List (List Int)) (hs : Small l) (d : Nat) : ∀ (k : Nat) (i : Nat), i ≤ l.length → l.length - i = d → d + 1048578 < k →
  laws_toIntSS.l0 k l (l.take i ++ List.replicate (l.length - i) []) i = some l := by
 have hl := hs.1
 induction d with
 | zero =>
  intro k i h1 hd hk
  obtain ⟨k, rfl⟩ : ∃ m, k = m + 1 := ⟨k - 1, by omega⟩
  obtain rfl : i = l.length := by omega
  simp only [laws_toIntSS.l0]
  rw [if_neg (by omega)]
  simp
 | succ d ih =>
  intro k i h1 hd hk
  obtain ⟨k, rfl⟩ : ∃ m, k = m + 1 := ⟨k - 1, by omega⟩
  simp only [laws_toIntSS.l0]
  have h2 : (l.take i ++ List.replicate (l.length - i) ([] : List Int)).length = l.length := by simp; omega
  have h3 := hs.2 _ (getD_mem (ls := l) (i := i) (by omega))
  rw [if_pos (by omega), if_pos (by omega), show rd_L1 l (i : Int) = l.getD i [] from rfl, toIntS_is _ h3 k (by omega), Option.bind_some, if_pos (by rw [h2]; omega), wrap_id (by omega) (by omega), show ((i : Int)).toNat = i from rfl, copyR_step l i (by omega)]
  exact ih k (i + 1) (by omega) (by omega) (by omega)
theorem toIntSS_is (l : List (List Int)) (hs : Small l) (k : Nat) (hk : 2097155 < k) : laws_toIntSS.f k l = some l := by
 have hl := hs.1
 unfold laws_toIntSS.f
 rw [if_pos (by omega), if_pos (by omega)]
 have := toIntSS_l0 l hs l.length k 0 (by omega) (by omega) (by omega)
 simpa using this
theorem eqIntSS_l0 (l : List (List Int)) (hs : Small l) (d : Nat) : ∀ (k i : Nat), i + d = l.length → d + 1048578 < k → laws_eqIntSS.l0 k l l i = some true := by
 have hl := hs.1
 induction d with
 | zero =>
  intro k i hi hk
  obtain ⟨k, rfl⟩ : ∃ m, k = m + 1 := ⟨k - 1, by omega⟩
  simp only [laws_eqIntSS.l0]; rw [if_neg (by omega)]
 | succ d ih =>
  intro k i hi hk
  obtain ⟨k, rfl⟩ : ∃ m, k = m + 1 := ⟨k - 1, by omega⟩
  simp only [laws_eqIntSS.l0]
  have h3 := hs.2 _ (getD_mem (ls := l) (i := i) (by omega))
  rw [if_pos (by omega), if_pos (by omega), if_pos (by omega), show rd_L1 l (i : Int) = l.getD i [] from rfl, eqIntS_same _ (by omega) k (by omega), Option.bind_some, if_pos rfl, wrap_id (by omega) (by omega)]
  exact ih k (i + 1) (by omega) (by omega)
theorem eqIntSS_same (l : List (List Int)) (hs : Small l) (k : Nat) (hk : 2097155 < k) : laws_eqIntSS.f k l l = some true := by
 have hl := hs.1
 unfold laws_eqIntSS.f
 rw [if_pos rfl]
 exact eqIntSS_l0 l hs l.length k 0 (by omega) (by omega)
end Go.Proofs.Ytggiicplcglalaa.Eqs
end
