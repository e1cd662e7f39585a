/- Part of the proof that the law FnExactIsRegularGame answers true for all arguments. -/
import Derived.Test.YtggiicplcglalaaQR12
import Derived.Test.YtggiicplcglalaaQR24
import Derived.Test.YtggiicplcglalaaQR27
section
namespace Go.Proofs.Ytggiicplcglalaa.All
open Go.RowKit Go.Proofs.YtggiicplcglalaaW.PrintWords Go.Proofs.YtggiicplcglalaaW.PrintLast Go.Proofs.YtggiicplcglalaaW.PrintMore
attribute [local go_sem] max2_int min2_int max_two min_two max_three min_three max_four min_four
set_option linter.unusedVariables false
set_option linter.unusedSimpArgs false
def laws_FnExactIsRegularGame.j0 : Nat → Bool → List (List Int) → List (List Int) → List (List Int) → List (List Int) → Option (Bool)
 | 0, _, _, _, _, _ => none
 | k + 1, x34, x702000, x702001, x718000, x718001 => if x34 = true then (some false) else ((laws_toGame.f k x702000 x702001).bind fun bt720 => ((laws_eqGame.f k x718000 x718001 bt720.1 bt720.2).bind fun t726 => (if t726 = true then (some true) else (some false))))
def laws_FnExactIsRegularGame.f (k : Nat) (l0_0 : List (List Int)) (l0_1 : List (List Int)) : Option (Bool) := (laws_szGame.f k l0_0 l0_1 1048576).bind fun t702 => (if t702 < 0 then (some true) else ((laws_toGame.f k l0_0 l0_1).bind fun bt703 => ((spec_IsRegularGame.f k bt703.1 bt703.2).bind fun bt709 => ((laws_toGame.f k l0_0 l0_1).bind fun bt711 => ((impl_IsRegularGame.f k bt711.1 bt711.2).bind fun bt718 => (if (bt718.1 != bt709.1) = true then (laws_FnExactIsRegularGame.j0 k true l0_0 l0_1 bt711.1 bt711.2) else (laws_FnExactIsRegularGame.j0 k (bt718.2 != bt709.2) l0_0 l0_1 bt711.1 bt711.2)))))))
theorem laws_FnExactIsRegularGame.mono_l : ∀ k, (∀ y0 y1 y2 y3 y4, LeO (laws_FnExactIsRegularGame.j0 k y0 y1 y2 y3 y4) (laws_FnExactIsRegularGame.j0 (k + 1) y0 y1 y2 y3 y4))
 | 0 => fun _ _ _ _ _ r h => by simp [laws_FnExactIsRegularGame.j0] at h
 | k + 1 => by
  have ih0 := laws_FnExactIsRegularGame.mono_l k
  ·intro y0 y1 y2 y3 y4
   unfold laws_FnExactIsRegularGame.j0
   repeat' first
   | (with_reducible exact ih0 ..)
   | (with_reducible exact impl_IsRegularGame.mono ..)
   | (with_reducible exact laws_eqGame.mono ..)
   | (with_reducible exact laws_szGame.mono ..)
   | (with_reducible exact laws_toGame.mono ..)
   | (with_reducible exact spec_IsRegularGame.mono ..)
   | (with_reducible exact LeO.refl _)
   | (with_reducible exact LeO.none _)
   | (with_reducible refine LeO.ite ?_ ?_)
   | (with_reducible refine LeO.bind ?_ (fun _ => ?_))
   | exact ih0 ..
   | exact impl_IsRegularGame.mono ..
   | exact laws_eqGame.mono ..
   | exact laws_szGame.mono ..
   | exact laws_toGame.mono ..
   | exact spec_IsRegularGame.mono ..
   | exact LeO.none _
   | refine LeO.ite ?_ ?_
   | refine LeO.bind ?_ (fun _ => ?_)
theorem laws_FnExactIsRegularGame.mono : ∀ a0 a1 k, LeO (laws_FnExactIsRegularGame.f k a0 a1) (laws_FnExactIsRegularGame.f (k + 1) a0 a1) := by
 intro a0 a1 k
 have ih0 := laws_FnExactIsRegularGame.mono_l k
 unfold laws_FnExactIsRegularGame.f
 repeat' first
   | (with_reducible exact ih0 ..)
   | (with_reducible exact impl_IsRegularGame.mono ..)
   | (with_reducible exact laws_eqGame.mono ..)
   | (with_reducible exact laws_szGame.mono ..)
   | (with_reducible exact laws_toGame.mono ..)
   | (with_reducible exact spec_IsRegularGame.mono ..)
   | (with_reducible exact LeO.refl _)
   | (with_reducible exact LeO.none _)
   | (with_reducible refine LeO.ite ?_ ?_)
   | (with_reducible refine LeO.bind ?_ (fun _ => ?_))
   | exact ih0 ..
   | exact impl_IsRegularGame.mono ..
   | exact laws_eqGame.mono ..
   | exact laws_szGame.mono ..
   | exact laws_toGame.mono ..
   | exact spec_IsRegularGame.mono ..
   | exact LeO.none _
   | refine LeO.ite ?_ ?_
   | refine LeO.bind ?_ (fun _ => ?_)
set_option maxHeartbeats 8000000 in
set_option maxRecDepth 100000 in
theorem laws_FnExactIsRegularGame.calls (k : Nat) (A0_0 : Option Addr) (c0_0 : Nat) (l0_0 : List (List Int)) (A0_1 : Option Addr) (c0_1 : Nat) (l0_1 : List (List Int)) (r : Bool) (w : World) (hr0_0 : Kd.C (Kd.slice 3 (Kd.int .i64)) w A0_0 l0_0.length l0_0) (hc0_0 : l0_0.length ≤ c0_0) (hr0_1 : Kd.C (Kd.slice 3 (Kd.int .i64)) w A0_1 l0_1.length l0_1) (hc0_1 : l0_1.length ≤ c0_1) (h : laws_FnExactIsRegularGame.f k l0_0 l0_1 = some r) :
  Calls Try.prog 4 #[.agg #[.slice A0_0 l0_0.length c0_0, .slice A0_1 l0_1.length c0_1]] w fun e w' => e = .returned (.bool r) ∧ Below w.heap.size w w' := by
 have hu24 := Try.underlying24
 have hu28 := Try.underlying28
 have HR0_0 := Aside0.mk hr0_0
 have HC0_0 := Aside0.mk hc0_0
 clear hr0_0 hc0_0
 have HR0_1 := Aside0.mk hr0_1
 have HC0_1 := Aside0.mk hc0_1
 clear hr0_1 hc0_1
 have HB := Aside0.mk (Below.refl w.heap.size w)
 have H : ((laws_szGame.f k l0_0 l0_1 1048576).bind fun t702 => (if t702 < 0 then (some true) else ((laws_toGame.f k l0_0 l0_1).bind fun bt703 => ((spec_IsRegularGame.f k bt703.1 bt703.2).bind fun bt709 => ((laws_toGame.f k l0_0 l0_1).bind fun bt711 => ((impl_IsRegularGame.f k bt711.1 bt711.2).bind fun bt718 => (if (bt718.1 != bt709.1) = true then (laws_FnExactIsRegularGame.j0 k true l0_0 l0_1 bt711.1 bt711.2) else (laws_FnExactIsRegularGame.j0 k (bt718.2 != bt709.2) l0_0 l0_1 bt711.1 bt711.2)))))))) = some r := h
 clear h
 replace H := bindA H; obtain ⟨t702, A2, H⟩ := H
 by_cases c3 : t702 < 0
 ·rw [if_pos c3] at H
  have c3b0 := decide_eq_true c3
  clear c3
  obtain rfl := Option.some.inj H
  go_enter Try.func4, Try.ntmps4
  go_wp2_with (first | ((with_reducible refine gate_dst (N := 1) rfl ?_); refine box_event ?hg (N := 1) ?hd (cs := #[.slice A0_0 l0_0.length c0_0, .slice A0_1 l0_1.length c0_1]) (t := 24) ?hr ?_; (case hd => rfl); (case hg => rfl); (case hr => first | (go_simp; done) | (go_simp; rfl)); intro gb701 hg w4 hbox hb; have BK701 := am (hbox); have GW701 := am ((by rw [hg]; exact (below_size (mb HB.out)) : w.heap.size ≤ gb701)); have GE701 := am ((by rw [hg]; exact (below_size (mb HB.out)) : w.heap.size ≤ gb701)); replace HB := am (below_step (mb HB.out) hb); clear hb hbox hg; have hcz5_0 := cell0 BK701.out; have hcz5_1 := cell1 BK701.out; have hfz5_0 := blk_frozen BK701.out 0; have hfz5_1 := blk_frozen BK701.out 1) | ((with_reducible refine gate_callee (f := 6) rfl ?_); refine goesL_ (some 11) rfl rfl Try.func6 (by kernel_rfl) rfl #[.agg #[.slice A0_0 l0_0.length c0_0, .slice A0_1 l0_1.length c0_1], .int .i64 1048576] rfl szE ?_; (with_reducible refine (laws_szGame.calls k _ _ l0_0 _ _ l0_1 1048576 t702 _ ?side1 ?side2 ?side3 ?side4 A2.out).mono ?_); (case side1 => exact mvC (Kd.C_below HR0_0.out HB.out)); (case side2 => exact HC0_0.out); (case side3 => exact mvC (Kd.C_below HR0_1.out HB.out)); (case side4 => exact HC0_1.out); rintro e w6 ⟨rfl, hb⟩; refine ⟨_, rfl, ?_⟩; replace BK701 := am (blk_below (mvK BK701.out) hb); replace HB := am (below_step (mb HB.out) hb); (try clear hb); (try clear hb2); (try clear hk); (try clear hi)))
  go_ret
  exact ⟨eqE, mb HB.out⟩
 ·rw [if_neg c3] at H
  have c3b0 := decide_eq_false c3
  clear c3
  replace H := bindA H; obtain ⟨⟨t703, t706⟩, A7, H⟩ := H; dsimp only at H
  replace H := bindA H; obtain ⟨⟨t709, t710⟩, A8, H⟩ := H; dsimp only at H
  replace H := bindA H; obtain ⟨⟨t711, t714⟩, A9, H⟩ := H; dsimp only at H
  replace H := bindA H; obtain ⟨⟨t718, t719⟩, A10, H⟩ := H; dsimp only at H
  have HC11 := Aside0.mk H
  clear H
  go_enter Try.func4, Try.ntmps4
  go_upto_region 8 with (first | ((with_reducible refine gate_dst (N := 1) rfl ?_); refine box_event ?hg (N := 1) ?hd (cs := #[.slice A0_0 l0_0.length c0_0, .slice A0_1 l0_1.length c0_1]) (t := 24) ?hr ?_; (case hd => rfl); (case hg => rfl); (case hr => first | (go_simp; done) | (go_simp; rfl)); intro gb701 hg w12 hbox hb; have BK701 := am (hbox); have GW701 := am ((by rw [hg]; exact (below_size (mb HB.out)) : w.heap.size ≤ gb701)); have GE701 := am ((by rw [hg]; exact (below_size (mb HB.out)) : w.heap.size ≤ gb701)); replace HB := am (below_step (mb HB.out) hb); clear hb hbox hg; have hcz13_0 := cell0 BK701.out; have hcz13_1 := cell1 BK701.out; have hfz13_0 := blk_frozen BK701.out 0; have hfz13_1 := blk_frozen BK701.out 1) | ((with_reducible refine gate_callee (f := 6) rfl ?_); refine goesL_ (some 11) rfl rfl Try.func6 (by kernel_rfl) rfl #[.agg #[.slice A0_0 l0_0.length c0_0, .slice A0_1 l0_1.length c0_1], .int .i64 1048576] rfl szE ?_; (with_reducible refine (laws_szGame.calls k _ _ l0_0 _ _ l0_1 1048576 t702 _ ?side1 ?side2 ?side3 ?side4 A2.out).mono ?_); (case side1 => exact mvC (Kd.C_below HR0_0.out HB.out)); (case side2 => exact HC0_0.out); (case side3 => exact mvC (Kd.C_below HR0_1.out HB.out)); (case side4 => exact HC0_1.out); rintro e w14 ⟨rfl, hb⟩; refine ⟨_, rfl, ?_⟩; replace BK701 := am (blk_below (mvK BK701.out) hb); replace HB := am (below_step (mb HB.out) hb); (try clear hb); (try clear hb2); (try clear hk); (try clear hi); have hcz15_0 := cell0 BK701.out; have hcz15_1 := cell1 BK701.out; have hfz15_0 := blk_frozen BK701.out 0; have hfz15_1 := blk_frozen BK701.out 1) | ((with_reducible refine gate_callee (f := 8) rfl ?_); refine goesL_ (some 16) rfl rfl Try.func8 (by kernel_rfl) rfl #[.agg #[.slice A0_0 l0_0.length c0_0, .slice A0_1 l0_1.length c0_1]] rfl szE ?_; (with_reducible refine (laws_toGame.calls k _ _ l0_0 _ _ l0_1 t703 t706 _ ?side1 ?side2 ?side3 ?side4 A7.out).mono ?_); (case side1 => exact mvC (Kd.C_below HR0_0.out HB.out)); (case side2 => exact HC0_0.out); (case side3 => exact mvC (Kd.C_below HR0_1.out HB.out)); (case side4 => exact HC0_1.out); rintro e w16 ⟨v704, v707, rfl, ho0, ho1, hb⟩; refine ⟨_, rfl, ?_⟩; have HO705 := am (Kd.S_lower ho0 (below_size (mb HB.out))); have HO708 := am (Kd.S_lower ho1 (below_size (mb HB.out))); replace BK701 := am (blk_below (mvK BK701.out) hb); replace HB := am (below_step (mb HB.out) hb); (try clear hb); (try clear hb2); (try clear hk); (try clear hi); (try clear ho0); (try clear ho1); obtain ⟨Ao17, co17, eo17⟩ := Kd.S_slice HO705.out; subst eo17; obtain ⟨Ao18, co18, eo18⟩ := Kd.S_slice HO708.out; subst eo18) | ((with_reducible refine gate_callee (f := 15) rfl ?_); refine goesL_ (some 17) rfl rfl Try.func15 (by kernel_rfl) rfl #[.agg #[.slice Ao17 t703.length co17, .slice Ao18 t706.length co18]] rfl szE ?_; (with_reducible refine (spec_IsRegularGame.calls k _ _ t703 _ _ t706 t709 t710 _ ?side1 ?side2 ?side3 ?side4 A8.out).mono ?_); (case side1 => repeat (first | exact (Kd.S_reads' HO705.out).2.2 | (with_reducible refine Kd.C_alloc ?_ _) | (with_reducible refine Kd.C_drewN ?_ _) | (with_reducible refine Kd.C_drew ?_))); (case side2 => exact (Kd.S_reads' HO705.out).2.1); (case side3 => repeat (first | exact (Kd.S_reads' HO708.out).2.2 | (with_reducible refine Kd.C_alloc ?_ _) | (with_reducible refine Kd.C_drewN ?_ _) | (with_reducible refine Kd.C_drew ?_))); (case side4 => exact (Kd.S_reads' HO708.out).2.1); rintro e w19 ⟨rfl, hb⟩; refine ⟨_, rfl, ?_⟩; replace HO705 := am (Kd.S_below (mvS HO705.out) hb); replace HO708 := am (Kd.S_below (mvS HO708.out) hb); replace BK701 := am (blk_below (mvK BK701.out) hb); replace HB := am (below_step (mb HB.out) hb); (try clear hb); (try clear hb2); (try clear hk); (try clear hi); have hcz20_0 := cell0 BK701.out; have hcz20_1 := cell1 BK701.out; have hfz20_0 := blk_frozen BK701.out 0; have hfz20_1 := blk_frozen BK701.out 1) | ((with_reducible refine gate_callee (f := 8) rfl ?_); refine goesL_ (some 21) rfl rfl Try.func8 (by kernel_rfl) rfl #[.agg #[.slice A0_0 l0_0.length c0_0, .slice A0_1 l0_1.length c0_1]] rfl szE ?_; (with_reducible refine (laws_toGame.calls k _ _ l0_0 _ _ l0_1 t711 t714 _ ?side1 ?side2 ?side3 ?side4 A9.out).mono ?_); (case side1 => exact mvC (Kd.C_below HR0_0.out HB.out)); (case side2 => exact HC0_0.out); (case side3 => exact mvC (Kd.C_below HR0_1.out HB.out)); (case side4 => exact HC0_1.out); rintro e w21 ⟨v712, v715, rfl, ho0, ho1, hb⟩; refine ⟨_, rfl, ?_⟩; have HO713 := am (Kd.S_lower (Kd.S_new' (Kd.S_new' ho0 (Kd.S_lt (mvS HO705.out))) (Kd.S_lt (mvS HO708.out))) (below_size (mb HB.out))); have HO716 := am (Kd.S_lower (Kd.S_new' (Kd.S_new' ho1 (Kd.S_lt (mvS HO705.out))) (Kd.S_lt (mvS HO708.out))) (below_size (mb HB.out))); replace HO705 := am (Kd.S_mono (Kd.S_told (Kd.S_told (Kd.S_old (mvS HO705.out) hb) (Kd.S_base ho0)) (Kd.S_base ho1)) (fun _ h_ => h_.1)); replace HO708 := am (Kd.S_mono (Kd.S_told (Kd.S_told (Kd.S_old (mvS HO708.out) hb) (Kd.S_base ho0)) (Kd.S_base ho1)) (fun _ h_ => h_.1)); replace BK701 := am (blk_below (mvK BK701.out) hb); replace HB := am (below_step (mb HB.out) hb); (try clear hb); (try clear hb2); (try clear hk); (try clear hi); (try clear ho0); (try clear ho1)) | ((with_reducible refine gate_dst (N := 6) rfl ?_); refine box_event ?hg (N := 6) ?hd (cs := #[.slice none 0 0, .slice none 0 0]) (t := 28) ?hr ?_; (case hd => rfl); (case hg => rfl); (case hr => first | (go_simp; done) | (go_simp; rfl)); intro gb717 hg w22 hbox hb; replace HO705 := am (Kd.S_below (mvS HO705.out) hb); replace HO708 := am (Kd.S_below (mvS HO708.out) hb); replace HO713 := am (Kd.S_below (mvS HO713.out) hb); replace HO716 := am (Kd.S_below (mvS HO716.out) hb); have BK717 := am (hbox); have GW717 := am ((by rw [hg]; exact (below_size (mb HB.out)) : w.heap.size ≤ gb717)); have GE717 := am ((by rw [hg]; exact (below_size (mb HB.out)) : w.heap.size ≤ gb717)); replace HB := am (below_step (mb HB.out) hb); have NB701_717 := am ((by rw [hg]; exact Nat.ne_of_lt (blk_lt (g := gb701) (o := .cells #[.slice A0_0 l0_0.length c0_0, .slice A0_1 l0_1.length c0_1] 24 (0, 0)) (mvK BK701.out)) : gb701 ≠ gb717)); have NB717_701 := am ((by rw [hg]; exact Nat.ne_of_gt (blk_lt (g := gb701) (o := .cells #[.slice A0_0 l0_0.length c0_0, .slice A0_1 l0_1.length c0_1] 24 (0, 0)) (mvK BK701.out)) : gb717 ≠ gb701)); replace BK701 := am (blk_below (mvK BK701.out) hb); clear hb hbox hg; obtain ⟨Ao23, co23, eo23⟩ := Kd.S_slice HO713.out; subst eo23; have hnb24 := NB717_701.out; have hnc24 := NB701_717.out; have hcz25_0 := cell0 BK717.out; have hcz25_1 := cell1 BK717.out; have hfz25_0 := blk_frozen BK717.out 0; have hfz25_1 := blk_frozen BK717.out 1; obtain ⟨Ao26, co26, eo26⟩ := Kd.S_slice HO716.out; subst eo26) | ((with_reducible refine gate_callee (f := 16) rfl ?_); refine goesL_ (some 24) rfl rfl Try.func16 (by kernel_rfl) rfl #[.agg #[.slice Ao23 t711.length co23, .slice Ao26 t714.length co26]] rfl szE ?_; (with_reducible refine (impl_IsRegularGame.calls k _ _ t711 _ _ t714 t718 t719 _ ?side1 ?side2 ?side3 ?side4 A10.out).mono ?_); (case side1 => refine (Kd.S_reads' (e := 38) (base := w.heap.size) (ok := fun k_ => ((some k_ ≠ (.slice Ao26 t714.length co26 : Value).ownBlock ∧ some k_ ≠ (.slice Ao17 t703.length co17 : Value).ownBlock) ∧ some k_ ≠ (.slice Ao18 t706.length co18 : Value).ownBlock)) (n := t711.length) (c := co23) ?_).2.2; exact (by (with_reducible repeat (first | apply Kd.S_alloc | apply Kd.S_drewN | apply Kd.S_drew)); exact (Kd.S_mono (Kd.S_far (p := ⟨gb717, 1, none⟩) (Kd.S_far (p := ⟨gb717, 0, none⟩) (Kd.S_types HO713.out BK717.out (by decide)) (fun _ hk => hk.2) (.slice Ao23 t711.length co23)) (fun _ hk => hk.2) (.slice Ao26 t714.length co26)) (fun _ h_ => h_.1)))); (case side2 => exact (Kd.S_reads' HO713.out).2.1); (case side3 => refine (Kd.S_reads' (e := 38) (base := w.heap.size) (ok := fun k_ => ((some k_ ≠ (.slice Ao23 t711.length co23 : Value).ownBlock ∧ some k_ ≠ (.slice Ao17 t703.length co17 : Value).ownBlock) ∧ some k_ ≠ (.slice Ao18 t706.length co18 : Value).ownBlock)) (n := t714.length) (c := co26) ?_).2.2; exact (by (with_reducible repeat (first | apply Kd.S_alloc | apply Kd.S_drewN | apply Kd.S_drew)); exact (Kd.S_mono (Kd.S_far (p := ⟨gb717, 1, none⟩) (Kd.S_far (p := ⟨gb717, 0, none⟩) (Kd.S_types HO716.out BK717.out (by decide)) (fun _ hk => hk.2) (.slice Ao23 t711.length co23)) (fun _ hk => hk.2) (.slice Ao26 t714.length co26)) (fun _ h_ => h_.1)))); (case side4 => exact (Kd.S_reads' HO716.out).2.1); rintro e w27 ⟨rfl, hb⟩; refine ⟨_, rfl, ?_⟩; replace HO705 := am (Kd.S_below (by (with_reducible repeat (first | apply Kd.S_alloc | apply Kd.S_drewN | apply Kd.S_drew)); exact (Kd.S_mono (Kd.S_far (p := ⟨gb717, 1, none⟩) (Kd.S_far (p := ⟨gb717, 0, none⟩) (Kd.S_types HO705.out BK717.out (by decide)) (fun _ hk => hk.2) (.slice Ao23 t711.length co23)) (fun _ hk => hk.2) (.slice Ao26 t714.length co26)) (fun _ h_ => h_.1))) hb); replace HO708 := am (Kd.S_below (by (with_reducible repeat (first | apply Kd.S_alloc | apply Kd.S_drewN | apply Kd.S_drew)); exact (Kd.S_mono (Kd.S_far (p := ⟨gb717, 1, none⟩) (Kd.S_far (p := ⟨gb717, 0, none⟩) (Kd.S_types HO708.out BK717.out (by decide)) (fun _ hk => hk.2) (.slice Ao23 t711.length co23)) (fun _ hk => hk.2) (.slice Ao26 t714.length co26)) (fun _ h_ => h_.1))) hb); replace HO713 := am (Kd.S_below (by (with_reducible repeat (first | apply Kd.S_alloc | apply Kd.S_drewN | apply Kd.S_drew)); exact (Kd.S_mono (Kd.S_far (p := ⟨gb717, 1, none⟩) (Kd.S_far (p := ⟨gb717, 0, none⟩) (Kd.S_types HO713.out BK717.out (by decide)) (fun _ hk => hk.2) (.slice Ao23 t711.length co23)) (fun _ hk => hk.2) (.slice Ao26 t714.length co26)) (fun _ h_ => h_.1))) hb); replace HO716 := am (Kd.S_below (by (with_reducible repeat (first | apply Kd.S_alloc | apply Kd.S_drewN | apply Kd.S_drew)); exact (Kd.S_mono (Kd.S_far (p := ⟨gb717, 1, none⟩) (Kd.S_far (p := ⟨gb717, 0, none⟩) (Kd.S_types HO716.out BK717.out (by decide)) (fun _ hk => hk.2) (.slice Ao23 t711.length co23)) (fun _ hk => hk.2) (.slice Ao26 t714.length co26)) (fun _ h_ => h_.1))) hb); replace BK701 := am (blk_below (g := gb701) (o := .cells #[.slice A0_0 l0_0.length c0_0, .slice A0_1 l0_1.length c0_1] 24 (0, 0)) (by (with_reducible repeat (first | refine blk_drewN ?_ _ | refine blk_drew ?_ | refine blk_alloc ?_ _)); refine blk_far ?_ NB701_717.out _; (with_reducible repeat (first | refine blk_drewN ?_ _ | refine blk_drew ?_ | refine blk_alloc ?_ _)); refine blk_far ?_ NB701_717.out _; (with_reducible repeat (first | refine blk_drewN ?_ _ | refine blk_drew ?_ | refine blk_alloc ?_ _)); exact BK701.out) hb); replace BK717 := am (blk_below (g := gb717) (o := .cells #[.slice Ao23 t711.length co23, .slice Ao26 t714.length co26] 28 (0, 0)) (by (with_reducible repeat (first | refine blk_drewN ?_ _ | refine blk_drew ?_ | refine blk_alloc ?_ _)); refine blk_put (cs := #[.slice Ao23 t711.length co23, .slice none 0 0]) ?_ 1 _ rfl; (with_reducible repeat (first | refine blk_drewN ?_ _ | refine blk_drew ?_ | refine blk_alloc ?_ _)); refine blk_put (cs := #[.slice none 0 0, .slice none 0 0]) ?_ 0 _ rfl; (with_reducible repeat (first | refine blk_drewN ?_ _ | refine blk_drew ?_ | refine blk_alloc ?_ _)); exact BK717.out) hb); replace HB := am (below_step (mb HB.out) hb); (try clear hb); (try clear hb2); (try clear hk); (try clear hi)))
  (try simp only [Act.put, List.setIfInBounds_toArray, List.set_cons_zero, List.set_cons_succ])
  go_cut [34] (fun v34 wc => ∃ (kq : Nat) (x34_10 : Bool), v34 = .bool x34_10 ∧ Aside0 (laws_FnExactIsRegularGame.j0 kq x34_10 l0_0 l0_1 t711 t714 = some r) ∧ Aside0 (kq ≤ k) ∧ Aside0 (Kd.S (Kd.slice 3 (Kd.int .i64)) 38 wc w.heap.size (fun k_ => some k_ ≠ ((.slice Ao26 t714.length co26) : Value).ownBlock) (.slice Ao23 t711.length co23) t711) ∧ Aside0 (Kd.S (Kd.slice 3 (Kd.int .i64)) 38 wc w.heap.size (fun k_ => some k_ ≠ ((.slice Ao23 t711.length co23) : Value).ownBlock) (.slice Ao26 t714.length co26) t714) ∧ Aside0 (wc.heap[gb701]? = some (.cells #[(.slice A0_0 l0_0.length c0_0), (.slice A0_1 l0_1.length c0_1)] 24 (0, 0))) ∧ Aside0 (wc.heap[gb717]? = some (.cells #[(.slice Ao23 t711.length co23), (.slice Ao26 t714.length co26)] 28 (0, 0))) ∧ Aside0 (Below w.heap.size w wc))
  case first =>
   have H := HC11.out
   clear HC11
   by_cases c28 : (t718 != t709) = true
   ·rw [if_pos c28] at H
    have c28b0 : (t718 != t709) = true := c28
    (try (have c28b1 : decide (t718 = t709) = false := by simpa using c28))
    (try (have c28b2 : (t718 == t709) = false := by simpa using c28))
    (try (have c28b3 : ¬ (t718 = t709) := by simpa using c28))
    clear c28
    (first | rw [c28b0] | (simp only [i64_w, i32_w]; rw [c28b0]) | skip)
    have H' := Aside0.mk H
    clear H
    go_wp2
    go_meet
    case rel => exact ⟨_, (true), eqF, H', ⟨by first | omega | exact Nat.le_refl _⟩, ⟨Kd.S_mono (mvS HO713.out) (fun _ hk => hk.1.1)⟩, ⟨Kd.S_mono (mvS HO716.out) (fun _ hk => hk.1.1)⟩, ⟨mvK BK701.out⟩, ⟨mvK BK717.out⟩, ⟨mb HB.out⟩⟩
   ·rw [if_neg c28] at H
    have c28b0 : (t718 != t709) = false := by simpa using c28
    (try (have c28b1 : decide (t718 = t709) = true := by simpa using c28))
    (try (have c28b2 : (t718 == t709) = true := by simpa using c28))
    clear c28
    (first | rw [c28b0] | (simp only [i64_w, i32_w]; rw [c28b0]) | skip)
    have H' := Aside0.mk H
    clear H
    go_wp2
    go_meet
    case rel => exact ⟨_, ((t719 != t710)), eqF, H', ⟨by first | omega | exact Nat.le_refl _⟩, ⟨Kd.S_mono (mvS HO713.out) (fun _ hk => hk.1.1)⟩, ⟨Kd.S_mono (mvS HO716.out) (fun _ hk => hk.1.1)⟩, ⟨mvK BK701.out⟩, ⟨mvK BK717.out⟩, ⟨mb HB.out⟩⟩
  case rest =>
   clear HC11
   obtain ⟨kq, x34_10, rfl, HA, HJ10, HO_718000, HO_718001, BK701, BK717, HB⟩ := hcut
   cases kq with
   | zero => exact absurd HA.out (by simp [laws_FnExactIsRegularGame.j0])
   | succ kj10 =>
    have H := HA.out
    clear HA
    simp only [laws_FnExactIsRegularGame.j0] at H
    by_cases c29 : x34_10 = true
    ·subst c29
     have H1 : (some false) = some r := by rw [if_pos rfl] at H; first | exact H | (rw [if_pos trivial] at H; rw [if_pos rfl]; exact H)
     clear H
     have H := H1
     clear H1
     obtain rfl := Option.some.inj H
     go_wp2
     go_ret
     exact ⟨eqE, mb HB.out⟩
    ·replace c29 := Bool.eq_false_iff.mpr c29
     subst c29
     replace H : ((laws_toGame.f kj10 l0_0 l0_1).bind fun bt720 => ((laws_eqGame.f kj10 t711 t714 bt720.1 bt720.2).bind fun t726 => (if t726 = true then (some true) else (some false)))) = some r := by rw [if_neg (show ¬ (false = true) by decide)] at H; exact H
     replace H := bindA H; obtain ⟨⟨t720, t723⟩, A30, H⟩ := H; dsimp only at H
     replace H := bindA H; obtain ⟨t726, A31, H⟩ := H
     by_cases c32 : t726 = true
     ·subst c32
      have H1 : (some true) = some r := by rw [if_pos rfl] at H; first | exact H | (rw [if_pos trivial] at H; rw [if_pos rfl]; exact H)
      clear H
      have H := H1
      clear H1
      obtain rfl := Option.some.inj H
      try go_wp2
      replace HO_718000 := am (Kd.S_drew HO_718000.out)
      replace HO_718001 := am (Kd.S_drew HO_718001.out)
      replace BK701 := am (blk_drew BK701.out)
      replace BK717 := am (blk_drew BK717.out)
      replace HB := am (below_drew1 HB.out)
      refine start_ (n := 5) (S := fun w' => w'.cell? ⟨gb717, 0, none⟩ = some (.slice Ao23 t711.length co23) ∧ w'.cell? ⟨gb717, 1, none⟩ = some (.slice Ao26 t714.length co26) ∧ w'.cell? ⟨gb701, 0, none⟩ = some (.slice A0_0 l0_0.length c0_0) ∧ w'.cell? ⟨gb701, 1, none⟩ = some (.slice A0_1 l0_1.length c0_1)) (ds := []) #[false, false, false, false, false] (by kernel_rfl) rfl rfl ⟨(blk_cell BK717.out 0).trans rfl, (blk_cell BK717.out 1).trans rfl, (blk_cell BK701.out 0).trans rfl, (blk_cell BK701.out 1).trans rfl⟩ (fun hHeld => ?_)
      generalize wc.drew = w33 at HO_718000 HO_718001 BK701 BK717 HB hHeld ⊢
      refine take_ (i := 0) (N := some 35) (v := ?_) (a' := ?_) #[true, false, false, false, false] rfl rfl (by kernel_rfl) (fun _ _ _ h => h) (Or.inl ⟨by rfl, ?_⟩) hHeld ?_ ?_; rotate_left; rintro w' ⟨s0, s1, s2, s3⟩; go_simp; with_reducible rfl; rotate_left; exact act_
      refine take_ (i := 1) (N := some 36) (v := ?_) (a' := ?_) #[true, true, false, false, false] rfl rfl (by kernel_rfl) (fun _ _ _ h => h) (Or.inl ⟨by rfl, ?_⟩) hHeld ?_ ?_; rotate_left; rintro w' ⟨s0, s1, s2, s3⟩; go_simp; with_reducible rfl; rotate_left; exact act_
      refine one_ (i := 2) (N := some 37) #[true, true, true, false, false] rfl rfl (by kernel_rfl) (by decide) (fun K hK => ?_)
      refine gY Try.func8 #[.agg #[.slice A0_0 l0_0.length c0_0, .slice A0_1 l0_1.length c0_1]] ?_
      with_reducible refine (laws_toGame.calls kj10 _ _ l0_0 _ _ l0_1 t720 t723 _ ?side1 ?side2 ?side3 ?side4 A30.out).mono ?_
      (case side1 => exact mvC (Kd.C_below HR0_0.out HB.out))
      (case side2 => exact HC0_0.out)
      (case side3 => exact mvC (Kd.C_below HR0_1.out HB.out))
      (case side4 => exact HC0_1.out)
      rintro e w34 ⟨v721, v724, rfl, ho0, ho1, hb⟩
      refine ⟨_, rfl, ?_⟩
      have HO722 := am (Kd.S_lower (Kd.S_new' (Kd.S_new' ho0 (Kd.S_lt (mvS HO_718000.out))) (Kd.S_lt (mvS HO_718001.out))) (below_size (mb HB.out)))
      have HO725 := am (Kd.S_lower (Kd.S_new' (Kd.S_new' ho1 (Kd.S_lt (mvS HO_718000.out))) (Kd.S_lt (mvS HO_718001.out))) (below_size (mb HB.out)))
      replace HO_718000 := am (Kd.S_mono (Kd.S_told (Kd.S_told (Kd.S_old (mvS HO_718000.out) hb) (Kd.S_base ho0)) (Kd.S_base ho1)) (fun _ h_ => h_.1))
      replace HO_718001 := am (Kd.S_mono (Kd.S_told (Kd.S_told (Kd.S_old (mvS HO_718001.out) hb) (Kd.S_base ho0)) (Kd.S_base ho1)) (fun _ h_ => h_.1))
      replace BK701 := am (blk_below (mvK BK701.out) hb)
      replace BK717 := am (blk_below (mvK BK717.out) hb)
      replace HB := am (below_step (mb HB.out) hb)
      (try clear hb)
      (try clear hb2)
      (try clear hk)
      (try clear hi)
      (try clear ho0)
      (try clear ho1)
      obtain ⟨Ao35, co35, eo35⟩ := Kd.S_slice HO722.out
      (first | subst eo35 | (injection eo35 with f1_ f2_ f3_; have f4_ := f1_.symm; have f5_ := f3_.symm; clear f1_ f2_ f3_; subst f4_; subst f5_))
      obtain ⟨Ao36, co36, eo36⟩ := Kd.S_slice HO725.out
      (first | subst eo36 | (injection eo36 with f1_ f2_ f3_; have f4_ := f1_.symm; have f5_ := f3_.symm; clear f1_ f2_ f3_; subst f4_; subst f5_))
      refine hK.out _ _ ⟨(blk_cell BK717.out 0).trans rfl, (blk_cell BK717.out 1).trans rfl, (blk_cell BK701.out 0).trans rfl, (blk_cell BK701.out 1).trans rfl⟩ (fun hHeld => ?_)
      clear hK K
      refine nY 37 ?_
      refine one_ (i := 3) (N := some 38) #[true, true, true, true, false] rfl rfl (by kernel_rfl) (by decide) (fun K hK => ?_)
      refine gY Try.func11 #[.agg #[.slice Ao23 t711.length co23, .slice Ao26 t714.length co26], .agg #[.slice Ao35 t720.length co35, .slice Ao36 t723.length co36]] ?_
      with_reducible refine (laws_eqGame.calls kj10 _ _ t711 _ _ t714 _ _ t720 _ _ t723 true _ ?side1 ?side2 ?side3 ?side4 ?side5 ?side6 ?side7 ?side8 A31.out).mono ?_
      (case side1 => repeat (first | exact (Kd.S_reads' HO_718000.out).2.2 | (with_reducible refine Kd.C_alloc ?_ _) | (with_reducible refine Kd.C_drewN ?_ _) | (with_reducible refine Kd.C_drew ?_)))
      (case side2 => exact (Kd.S_reads' HO_718000.out).2.1)
      (case side3 => repeat (first | exact (Kd.S_reads' HO_718001.out).2.2 | (with_reducible refine Kd.C_alloc ?_ _) | (with_reducible refine Kd.C_drewN ?_ _) | (with_reducible refine Kd.C_drew ?_)))
      (case side4 => exact (Kd.S_reads' HO_718001.out).2.1)
      (case side5 => repeat (first | exact (Kd.S_reads' HO722.out).2.2 | (with_reducible refine Kd.C_alloc ?_ _) | (with_reducible refine Kd.C_drewN ?_ _) | (with_reducible refine Kd.C_drew ?_)))
      (case side6 => exact (Kd.S_reads' HO722.out).2.1)
      (case side7 => repeat (first | exact (Kd.S_reads' HO725.out).2.2 | (with_reducible refine Kd.C_alloc ?_ _) | (with_reducible refine Kd.C_drewN ?_ _) | (with_reducible refine Kd.C_drew ?_)))
      (case side8 => exact (Kd.S_reads' HO725.out).2.1)
      rintro e w37 ⟨rfl, hb⟩
      refine ⟨_, rfl, ?_⟩
      replace HO_718000 := am (Kd.S_below (mvS HO_718000.out) hb)
      replace HO_718001 := am (Kd.S_below (mvS HO_718001.out) hb)
      replace HO722 := am (Kd.S_below (mvS HO722.out) hb)
      replace HO725 := am (Kd.S_below (mvS HO725.out) hb)
      replace BK701 := am (blk_below (mvK BK701.out) hb)
      replace BK717 := am (blk_below (mvK BK717.out) hb)
      replace HB := am (below_step (mb HB.out) hb)
      (try clear hb)
      (try clear hb2)
      (try clear hk)
      (try clear hi)
      refine hK.out _ _ ⟨(blk_cell BK717.out 0).trans rfl, (blk_cell BK717.out 1).trans rfl, (blk_cell BK701.out 0).trans rfl, (blk_cell BK701.out 1).trans rfl⟩ (fun hHeld => ?_)
      clear hK K
      refine nY 38 ?_
      refine pure_ (i := 4) (N := some 39) (v := ?_) (a' := ?_) #[true, true, true, true, true] rfl rfl (by kernel_rfl) (fun _ _ _ h => h) (Or.inl ⟨by rfl, ?_⟩) ?_ ?_; rotate_left; intro w'; go_simp; with_reducible rfl; rotate_left; exact act_
      refine done_ (by kernel_rfl) ?_
      try go_wp2
      go_ret
      exact ⟨eqE, mb HB.out⟩
     ·replace c32 := Bool.eq_false_iff.mpr c32
      subst c32
      replace H : (some false) = some r := by rw [if_neg (show ¬ (false = true) by decide)] at H; exact H
      obtain rfl := Option.some.inj H
      try go_wp2
      replace HO_718000 := am (Kd.S_drew HO_718000.out)
      replace HO_718001 := am (Kd.S_drew HO_718001.out)
      replace BK701 := am (blk_drew BK701.out)
      replace BK717 := am (blk_drew BK717.out)
      replace HB := am (below_drew1 HB.out)
      refine start_ (n := 5) (S := fun w' => w'.cell? ⟨gb717, 0, none⟩ = some (.slice Ao23 t711.length co23) ∧ w'.cell? ⟨gb717, 1, none⟩ = some (.slice Ao26 t714.length co26) ∧ w'.cell? ⟨gb701, 0, none⟩ = some (.slice A0_0 l0_0.length c0_0) ∧ w'.cell? ⟨gb701, 1, none⟩ = some (.slice A0_1 l0_1.length c0_1)) (ds := []) #[false, false, false, false, false] (by kernel_rfl) rfl rfl ⟨(blk_cell BK717.out 0).trans rfl, (blk_cell BK717.out 1).trans rfl, (blk_cell BK701.out 0).trans rfl, (blk_cell BK701.out 1).trans rfl⟩ (fun hHeld => ?_)
      generalize wc.drew = w38 at HO_718000 HO_718001 BK701 BK717 HB hHeld ⊢
      refine take_ (i := 0) (N := some 35) (v := ?_) (a' := ?_) #[true, false, false, false, false] rfl rfl (by kernel_rfl) (fun _ _ _ h => h) (Or.inl ⟨by rfl, ?_⟩) hHeld ?_ ?_; rotate_left; rintro w' ⟨s0, s1, s2, s3⟩; go_simp; with_reducible rfl; rotate_left; exact act_
      refine take_ (i := 1) (N := some 36) (v := ?_) (a' := ?_) #[true, true, false, false, false] rfl rfl (by kernel_rfl) (fun _ _ _ h => h) (Or.inl ⟨by rfl, ?_⟩) hHeld ?_ ?_; rotate_left; rintro w' ⟨s0, s1, s2, s3⟩; go_simp; with_reducible rfl; rotate_left; exact act_
      refine one_ (i := 2) (N := some 37) #[true, true, true, false, false] rfl rfl (by kernel_rfl) (by decide) (fun K hK => ?_)
      refine gY Try.func8 #[.agg #[.slice A0_0 l0_0.length c0_0, .slice A0_1 l0_1.length c0_1]] ?_
      with_reducible refine (laws_toGame.calls kj10 _ _ l0_0 _ _ l0_1 t720 t723 _ ?side1 ?side2 ?side3 ?side4 A30.out).mono ?_
      (case side1 => exact mvC (Kd.C_below HR0_0.out HB.out))
      (case side2 => exact HC0_0.out)
      (case side3 => exact mvC (Kd.C_below HR0_1.out HB.out))
      (case side4 => exact HC0_1.out)
      rintro e w39 ⟨v721, v724, rfl, ho0, ho1, hb⟩
      refine ⟨_, rfl, ?_⟩
      have HO722 := am (Kd.S_lower (Kd.S_new' (Kd.S_new' ho0 (Kd.S_lt (mvS HO_718000.out))) (Kd.S_lt (mvS HO_718001.out))) (below_size (mb HB.out)))
      have HO725 := am (Kd.S_lower (Kd.S_new' (Kd.S_new' ho1 (Kd.S_lt (mvS HO_718000.out))) (Kd.S_lt (mvS HO_718001.out))) (below_size (mb HB.out)))
      replace HO_718000 := am (Kd.S_mono (Kd.S_told (Kd.S_told (Kd.S_old (mvS HO_718000.out) hb) (Kd.S_base ho0)) (Kd.S_base ho1)) (fun _ h_ => h_.1))
      replace HO_718001 := am (Kd.S_mono (Kd.S_told (Kd.S_told (Kd.S_old (mvS HO_718001.out) hb) (Kd.S_base ho0)) (Kd.S_base ho1)) (fun _ h_ => h_.1))
      replace BK701 := am (blk_below (mvK BK701.out) hb)
      replace BK717 := am (blk_below (mvK BK717.out) hb)
      replace HB := am (below_step (mb HB.out) hb)
      (try clear hb)
      (try clear hb2)
      (try clear hk)
      (try clear hi)
      (try clear ho0)
      (try clear ho1)
      obtain ⟨Ao40, co40, eo40⟩ := Kd.S_slice HO722.out
      (first | subst eo40 | (injection eo40 with f1_ f2_ f3_; have f4_ := f1_.symm; have f5_ := f3_.symm; clear f1_ f2_ f3_; subst f4_; subst f5_))
      obtain ⟨Ao41, co41, eo41⟩ := Kd.S_slice HO725.out
      (first | subst eo41 | (injection eo41 with f1_ f2_ f3_; have f4_ := f1_.symm; have f5_ := f3_.symm; clear f1_ f2_ f3_; subst f4_; subst f5_))
      refine hK.out _ _ ⟨(blk_cell BK717.out 0).trans rfl, (blk_cell BK717.out 1).trans rfl, (blk_cell BK701.out 0).trans rfl, (blk_cell BK701.out 1).trans rfl⟩ (fun hHeld => ?_)
      clear hK K
      refine nY 37 ?_
      refine one_ (i := 3) (N := some 38) #[true, true, true, true, false] rfl rfl (by kernel_rfl) (by decide) (fun K hK => ?_)
      refine gY Try.func11 #[.agg #[.slice Ao23 t711.length co23, .slice Ao26 t714.length co26], .agg #[.slice Ao40 t720.length co40, .slice Ao41 t723.length co41]] ?_
      with_reducible refine (laws_eqGame.calls kj10 _ _ t711 _ _ t714 _ _ t720 _ _ t723 false _ ?side1 ?side2 ?side3 ?side4 ?side5 ?side6 ?side7 ?side8 A31.out).mono ?_
      (case side1 => repeat (first | exact (Kd.S_reads' HO_718000.out).2.2 | (with_reducible refine Kd.C_alloc ?_ _) | (with_reducible refine Kd.C_drewN ?_ _) | (with_reducible refine Kd.C_drew ?_)))
      (case side2 => exact (Kd.S_reads' HO_718000.out).2.1)
      (case side3 => repeat (first | exact (Kd.S_reads' HO_718001.out).2.2 | (with_reducible refine Kd.C_alloc ?_ _) | (with_reducible refine Kd.C_drewN ?_ _) | (with_reducible refine Kd.C_drew ?_)))
      (case side4 => exact (Kd.S_reads' HO_718001.out).2.1)
      (case side5 => repeat (first | exact (Kd.S_reads' HO722.out).2.2 | (with_reducible refine Kd.C_alloc ?_ _) | (with_reducible refine Kd.C_drewN ?_ _) | (with_reducible refine Kd.C_drew ?_)))
      (case side6 => exact (Kd.S_reads' HO722.out).2.1)
      (case side7 => repeat (first | exact (Kd.S_reads' HO725.out).2.2 | (with_reducible refine Kd.C_alloc ?_ _) | (with_reducible refine Kd.C_drewN ?_ _) | (with_reducible refine Kd.C_drew ?_)))
      (case side8 => exact (Kd.S_reads' HO725.out).2.1)
      rintro e w42 ⟨rfl, hb⟩
      refine ⟨_, rfl, ?_⟩
      replace HO_718000 := am (Kd.S_below (mvS HO_718000.out) hb)
      replace HO_718001 := am (Kd.S_below (mvS HO_718001.out) hb)
      replace HO722 := am (Kd.S_below (mvS HO722.out) hb)
      replace HO725 := am (Kd.S_below (mvS HO725.out) hb)
      replace BK701 := am (blk_below (mvK BK701.out) hb)
      replace BK717 := am (blk_below (mvK BK717.out) hb)
      replace HB := am (below_step (mb HB.out) hb)
      (try clear hb)
      (try clear hb2)
      (try clear hk)
      (try clear hi)
      refine hK.out _ _ ⟨(blk_cell BK717.out 0).trans rfl, (blk_cell BK717.out 1).trans rfl, (blk_cell BK701.out 0).trans rfl, (blk_cell BK701.out 1).trans rfl⟩ (fun hHeld => ?_)
      clear hK K
      refine nY 38 ?_
      refine pure_ (i := 4) (N := some 39) (v := ?_) (a' := ?_) #[true, true, true, true, true] rfl rfl (by kernel_rfl) (fun _ _ _ h => h) (Or.inl ⟨by rfl, ?_⟩) ?_ ?_; rotate_left; intro w'; go_simp; with_reducible rfl; rotate_left; exact act_
      refine done_ (by kernel_rfl) ?_
      try go_wp2
      go_ret
      exact ⟨eqE, mb HB.out⟩
end Go.Proofs.Ytggiicplcglalaa.All
end
section
namespace Go.Proofs.Ytggiicplcglalaa.Eqs
open Go.RowKit Go.Proofs.Ytggiicplcglalaa.All Go.Proofs.YtggiicplcglalaaW.PrintWords Go.Proofs.YtggiicplcglalaaW.PrintLast
theorem wrap_id {x : Int} (h0 : -9223372036854775808 ≤ x) (h1 : x < 9223372036854775808) : wrap64 x = x := by unfold wrap64; omega
theorem eqIntS_l0 (l : List Int) (hl : l.length < 1152921504606846976) (d : Nat) : ∀ (k : Nat) (i : Int), 0 ≤ i → i ≤ l.length → (l.length : Int) - i = d → d < k → laws_eqIntS.l0 k l l i = some true := by
 induction d with
 | zero =>
  intro k i h0 h1 hd hk
  obtain ⟨k, rfl⟩ : ∃ m, k = m + 1 := ⟨k - 1, by omega⟩
  simp only [laws_eqIntS.l0]; rw [if_neg (by omega)]
 | succ d ih =>
  intro k i h0 h1 hd hk
  obtain ⟨k, rfl⟩ : ∃ m, k = m + 1 := ⟨k - 1, by omega⟩
  simp only [laws_eqIntS.l0]
  rw [if_pos (by omega), if_pos h0, if_pos (by omega), if_pos trivial, wrap_id (by omega) (by omega)]
  exact ih k (i + 1) (by omega) (by omega) (by omega) (by omega)
theorem eqIntS_same (l : List Int) (hl : l.length < 1152921504606846976) (k : Nat) (hk : l.length < k) : laws_eqIntS.f k l l = some true := by
 unfold laws_eqIntS.f
 rw [if_pos rfl]
 exact eqIntS_l0 l hl l.length k 0 (by omega) (by omega) (by omega) hk
end Go.Proofs.Ytggiicplcglalaa.Eqs
end
section
namespace Go.Proofs.Ytggiicplcglalaa.L1
open Go.RowKit Go.Proofs.Ytggiicplcglalaa.All Go.Proofs.Ytggiicplcglalaa.Eqs Go.Proofs.YtggiicplcglalaaW.PrintWords Go.Proofs.YtggiicplcglalaaW.PrintLast
theorem l1In_is (x lo hi : Int) : spec_l1In.f x lo hi = some (inB lo hi x) := by
 unfold spec_l1In.f inB
 by_cases h : lo ≤ x <;> simp [h]
theorem range_any {α : Type} (p : α → Bool) (z : α) (l : List α) : ∀ i d, i + d = l.length → ((List.range' i d).any fun j => p (l.getD j z)) = (l.drop i).any p
 | i, 0, h => by rw [List.drop_of_length_le (by omega)]; rfl
 | i, d + 1, h => by
  have hi : i < l.length := by omega
  rw [List.range'_succ, List.any_cons, range_any p z l (i + 1) d (by omega), List.drop_eq_getElem_cons hi, List.any_cons]
  simp [List.getD, List.getElem?_eq_getElem hi]
theorem any_not_all {α : Type} (p : α → Bool) (l : List α) : (l.any fun x => !p x) = !(l.all p) := by
 induction l with
 | nil => rfl
 | cons a l ih => rw [List.any_cons, List.all_cons, ih]; cases p a <;> simp
theorem anyOut_is (lo hi : Int) (l : List Int) : anyOut lo hi l = !(l.all (inB lo hi)) := by
 unfold anyOut
 rw [range_any (fun x => !inB lo hi x) 0 l 0 l.length (by omega), List.drop_zero, any_not_all]
theorem all_l0 (lo hi : Int) (l : List Int) (hl : l.length < 1152921504606846976) (d : Nat) : ∀ (k i : Nat), i + d = l.length → d < k → spec_l1All.l0 k lo hi l (l.length : Int) i = some ((l.drop i).all (inB lo hi)) := by
 induction d with
 | zero =>
  intro k i hi' hk
  obtain ⟨k, rfl⟩ : ∃ m, k = m + 1 := ⟨k - 1, by omega⟩
  simp only [spec_l1All.l0]; rw [if_neg (by omega), List.drop_of_length_le (by omega)]; rfl
 | succ d ih =>
  intro k i hi' hk
  obtain ⟨k, rfl⟩ : ∃ m, k = m + 1 := ⟨k - 1, by omega⟩
  have hlt : i < l.length := by omega
  simp only [spec_l1All.l0]
  rw [if_pos (by omega), if_pos (by omega), if_pos (by omega), l1In_is, Option.bind_some, List.drop_eq_getElem_cons hlt, List.all_cons, show rd l (i : Int) = l[i] by simp [rd, List.getD, List.getElem?_eq_getElem hlt]]
  cases h : inB lo hi l[i] with
  | false => rw [if_neg (by decide)]; rfl
  | true => rw [if_pos rfl, wrap_id (by omega) (by omega)]; simpa using ih k (i + 1) (by omega) (by omega)
theorem l1All_is (lo hi : Int) (l : List Int) (hl : l.length < 1152921504606846976) (k : Nat) (hk : l.length < k) : spec_l1All.f k l lo hi = some (l.all (inB lo hi)) := by
 unfold spec_l1All.f
 have := all_l0 lo hi l hl l.length k 0 (by omega) hk
 simpa using this
end Go.Proofs.Ytggiicplcglalaa.L1
end
section
namespace Go.Proofs.Ytggiicplcglalaa.Eqs
open Go.RowKit Go.Proofs.Ytggiicplcglalaa.All Go.Proofs.YtggiicplcglalaaW.PrintWords Go.Proofs.YtggiicplcglalaaW.PrintLast
theorem copy_step (l : List Int) (i : Nat) (hi : i < l.length) : (l.take i ++ List.replicate (l.length - i) 0).set i (l.getD i 0) = l.take (i + 1) ++ List.replicate (l.length - (i + 1)) 0 := by
 have h1 : (l.take i).length = i := by simp; omega
 rw [List.set_append_right _ _ (by omega), h1, Nat.sub_self, show l.length - i = (l.length - (i + 1)) + 1 by omega, List.replicate_succ, List.set_cons_zero, List.take_succ_eq_append_getElem hi, List.append_assoc]
 simp [List.getD, List.getElem?_eq_getElem hi]
theorem toIntS_l0 (l : List Int) (hl : l.length ≤ 1048576) (d : Nat) : ∀ (k : Nat) (i : Nat), i ≤ l.length → l.length - i = d → d < k →
  laws_toIntS.l0 k l (l.take i ++ List.replicate (l.length - i) 0) i = some l := by
 induction d with
 | zero =>
  intro k i h1 hd hk
  obtain ⟨k, rfl⟩ : ∃ m, k = m + 1 := ⟨k - 1, by omega⟩
  obtain rfl : i = l.length := by omega
  simp only [laws_toIntS.l0]
  rw [if_neg (by omega)]
  simp
 | succ d ih =>
  intro k i h1 hd hk
  obtain ⟨k, rfl⟩ : ∃ m, k = m + 1 := ⟨k - 1, by omega⟩
  simp only [laws_toIntS.l0]
  have h2 : (l.take i ++ List.replicate (l.length - i) (0 : Int)).length = l.length := by simp; omega
  rw [if_pos (by omega), if_pos (by omega), if_pos (by rw [h2]; omega), wrap_id (by omega) (by omega), show ((i : Int)).toNat = i from rfl, show rd l (i : Int) = l.getD i 0 from rfl, copy_step l i (by omega)]
  exact ih k (i + 1) (by omega) (by omega) (by omega)
theorem toIntS_is (l : List Int) (hl : l.length ≤ 1048576) (k : Nat) (hk : l.length < k) : laws_toIntS.f k l = some l := by
 unfold laws_toIntS.f
 rw [if_pos (by omega), if_pos (by omega)]
 have := toIntS_l0 l hl l.length k 0 (by omega) (by omega) hk
 simpa using this
def Small (ls : List (List Int)) : Prop := ls.length ≤ 1048576 ∧ ∀ l ∈ ls, l.length ≤ 1048576
theorem getD_mem {ls : List (List Int)} {i : Nat} (hi : i < ls.length) : ls.getD i [] ∈ ls := by
 simp [List.getD, List.getElem?_eq_getElem hi]
theorem copyR_step (l : List (List Int)) (i : Nat) (hi : i < l.length) : (l.take i ++ List.replicate (l.length - i) []).set i (l.getD i []) = l.take (i + 1) ++ List.replicate (l.length - (i + 1)) [] := by
 have h1 : (l.take i).length = i := by simp; omega
 rw [List.set_append_right _ _ (by omega), h1, Nat.sub_self, show l.length - i = (l.length - (i + 1)) + 1 by omega, List.replicate_succ, List.set_cons_zero, List.take_succ_eq_append_getElem hi, List.append_assoc]
 simp [List.getD, List.getElem?_eq_getElem hi]
theorem toIntSS_l0 (l : List (List Int)) (hs : Small l) (d : Nat) : ∀ (k : Nat) (i : Nat), i ≤ l.length → l.length - i = d → d + 1048578 < k →
  laws_toIntSS.l0 k l (l.take i ++ List.replicate (l.length - i) []) i = some l := by
 have hl := hs.1
 induction d with
 | zero =>
  intro k i h1 hd hk
  obtain ⟨k, rfl⟩ : ∃ m, k = m + 1 := ⟨k - 1, by omega⟩
  obtain rfl : i = l.length := by omega
  simp only [laws_toIntSS.l0]
  rw [if_neg (by omega)]
  simp
 | succ d ih =>
  intro k i h1 hd hk
  obtain ⟨k, rfl⟩ : ∃ m, k = m + 1 := ⟨k - 1, by omega⟩
  simp only [laws_toIntSS.l0]
  have h2 : (l.take i ++ List.replicate (l.length - i) ([] : List Int)).length = l.length := by simp; omega
  have h3 := hs.2 _ (getD_mem (ls := l) (i := i) (by omega))
  rw [if_pos (by omega), if_pos (by omega), show rd_L1 l (i : Int) = l.getD i [] from rfl, toIntS_is _ h3 k (by omega), Option.bind_some, if_pos (by rw [h2]; omega), wrap_id (by omega) (by omega), show ((i : Int)).toNat = i from rfl, copyR_step l i (by omega)]
  exact ih k (i + 1) (by omega) (by omega) (by omega)
theorem toIntSS_is (l : List (List Int)) (hs : Small l) (k : Nat) (hk : 2097155 < k) : laws_toIntSS.f k l = some l := by
 have hl := hs.1
 unfold laws_toIntSS.f
 rw [if_pos (by omega), if_pos (by omega)]
 have := toIntSS_l0 l hs l.length k 0 (by omega) (by omega) (by omega)
 simpa using this
theorem eqIntSS_l0 (l : List (List Int)) (hs : Small l) (d : Nat) : ∀ (k i : Nat), i + d = l.length → d + 1048578 < k → laws_eqIntSS.l0 k l l i = some true := by
 have hl := hs.1
 induction d with
 | zero =>
  intro k i hi hk
  obtain ⟨k, rfl⟩ : ∃ m, k = m + 1 := ⟨k - 1, by omega⟩
  simp only [laws_eqIntSS.l0]; rw [if_neg (by omega)]
 | succ d ih =>
  intro k i hi hk
  obtain ⟨k, rfl⟩ : ∃ m, k = m + 1 := ⟨k - 1, by omega⟩
  simp only [laws_eqIntSS.l0]
  have h3 := hs.2 _ (getD_mem (ls := l) (i := i) (by omega))
  rw [if_pos (by omega), if_pos (by omega), if_pos (by omega), show rd_L1 l (i : Int) = l.getD i [] from rfl, eqIntS_same _ (by omega) k (by omega), Option.bind_some, if_pos rfl, wrap_id (by omega) (by omega)]
  exact ih k (i + 1) (by omega) (by omega)
theorem eqIntSS_same (l : List (List Int)) (hs : Small l) (k : Nat) (hk : 2097155 < k) : laws_eqIntSS.f k l l = some true := by
 have hl := hs.1
 unfold laws_eqIntSS.f
 rw [if_pos rfl]
 exact eqIntSS_l0 l hs l.length k 0 (by omega) (by omega)
end Go.Proofs.Ytggiicplcglalaa.Eqs
end
