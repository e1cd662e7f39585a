/- Part of the proof that the law FnExactIsRegularGame answers true for all arguments. -/
import Derived.Test.YtggiicplcglalaaQR13
import Derived.Test.YtggiicplcglalaaQR15
import Derived.Test.YtggiicplcglalaaQR23
import Derived.Test.YtggiicplcglalaaQR26
namespace Go.Proofs.Ytggiicplcglalaa.All
open Go.RowKit Go.Proofs.YtggiicplcglalaaW.PrintWords Go.Proofs.YtggiicplcglalaaW.PrintLast Go.Proofs.YtggiicplcglalaaW.PrintMore
attribute [local go_sem] max2_int min2_int max_two min_two max_three min_three max_four min_four
set_option linter.unusedVariables false
set_option linter.unusedSimpArgs false
def manyAt (k : Nat) (n : Int) (l : List S70) (cs : List (List Int)) (j : Nat) : Option (List Int) := impl_figure_labelsAt.f k n l (cs.getD j [])
def impl_figure_isRegular.f (k : Nat) (n : Int) (l : List S70) : Option Bool := (impl_figure_corners.f k n l).bind fun cs => if ((List.range' 0 cs.length).all fun j => (manyAt k n l cs j).isSome) = true then some (!((List.range' 0 cs.length).any fun j => decide (n < (((manyAt k n l cs j).getD []).length : Int)))) else none
theorem all_any_sameL (t : List Int → Bool) (F G : Nat → Option (List Int)) : ∀ L : List Nat, (∀ j ∈ L, (F j).isSome = true → G j = F j) → (L.all fun j => (F j).isSome) = true → (L.all fun j => (G j).isSome) = true ∧ (L.any fun j => t ((G j).getD [])) = (L.any fun j => t ((F j).getD []))
 | [], _, _ => ⟨rfl, rfl⟩
 | a :: L, h, ha => by
  simp only [List.all_cons, Bool.and_eq_true] at ha ⊢
  have e := h a (by simp) ha.1
  have ih := all_any_sameL t F G L (fun j hj => h j (by simp [hj])) ha.2
  simp only [List.any_cons, e, ih.2]
  exact ⟨⟨ha.1, ih.1⟩, trivial⟩
theorem impl_figure_isRegular.mono : ∀ n l k, LeO (impl_figure_isRegular.f k n l) (impl_figure_isRegular.f (k + 1) n l) := by
 intro n l k r h
 unfold impl_figure_isRegular.f at h ⊢
 obtain ⟨cs, hcs, h⟩ := Option.bind_eq_some_iff.mp h
 rw [impl_figure_corners.mono _ _ k _ hcs, Option.bind_some]
 by_cases c : ((List.range' 0 cs.length).all fun j => (manyAt k n l cs j).isSome) = true
 ·rw [if_pos c] at h
  obtain ⟨a, b⟩ := all_any_sameL (fun z => decide (n < (z.length : Int))) (manyAt k n l cs) (manyAt (k + 1) n l cs) _ (fun j _ hs => by
   obtain ⟨v, hv⟩ := Option.isSome_iff_exists.mp hs
   rw [hv]
   exact impl_figure_labelsAt.mono _ _ _ k _ hv) c
  rw [if_pos a, b]
  exact h
 ·rw [if_neg c] at h
  cases h
def isReg1.T : Bool × List (List Nat × List Nat) := (true, [([], []), ([], []), ([0, 1], [0, 1]), ([2], [2]), ([], []), ([4], [4]), ([3, 5], [3, 5]), ([6, 2, 0, 1, 2, 3, 4, 5, 6], [6])])
def isReg1.B : List Nat := [0, 0, 3, 7, 0, 16, 63, 127]
theorem isReg1.tab : rtab .any (opsOf Try.f88 1) = isReg1.T := by kernel_rfl
theorem isReg1.bits : waitsOk isReg1.T.2 isReg1.B = true := by kernel_rfl
set_option maxHeartbeats 8000000 in
set_option maxRecDepth 100000 in
theorem isReg1_calls (k : Nat) (A : Option Addr) (c : Nat) (x : List Int) (G : Nat) (n : Int) (A1 : Option Addr) (c1 : Nat) (l : List S70) (v : List Int) (w W : World) (hb : Below w.heap.size w W) (hG : w.heap[G]? = some (.cells #[.int .i64 n, .slice A1 l.length c1] 51 (0, 0))) (hC : Kd.C k70 w A1 l.length l) (hl : l.length ≤ c1) (hx : Kd.C (Kd.int .i64) w A x.length x) (hc : x.length ≤ c) (h : impl_figure_labelsAt.f k n l x = some v) :
  Calls Try.prog 88 #[.slice A x.length c, .pointer (some ⟨G, 0, none⟩)] W fun e w' => e = .returned (.bool (decide (n < (v.length : Int)))) ∧ Below w.heap.size w w' := by
 have hu := Try.underlying51
 have BK := Aside0.mk (blk_below hG hb)
 have HB := Aside0.mk hb
 have hcon := fun (W1 : World) (hb1 : Below w.heap.size w W1) => impl_figure_labelsAt.calls k n A1 c1 l A c x v W1 (Kd.C_below hC hb1) hl (Kd.C_below hx hb1) hc h
 have HK := Aside0.mk hcon
 clear hG hC hl hx hc h hb hcon
 have hz0 := cell0 BK.out
 have hz1 := cell1 BK.out
 have hf0 := blk_frozen BK.out 0
 have hf1 := blk_frozen BK.out 1
 go_enter Try.func88, Try.ntmps88
 go_wp2
 refine start_ (n := 8) (S := fun w' => w'.cell? ⟨G, 0, none⟩ = some (.int .i64 n) ∧ w'.cell? ⟨G, 1, none⟩ = some (.slice A1 l.length c1)) (ds := []) #[false, false, false, false, false, false, false, false] (by kernel_rfl) rfl rfl ⟨hz0, hz1⟩ (fun hHeld => ?_); refine with_tabW isReg1.tab isReg1.bits (fun HT_ HW_ => ?_)
 have HB1 := Aside0.mk (below_drew HB.out)
 have BK1 := Aside0.mk (blk_drew BK.out)
 clear HB BK hz0 hz1 hf0 hf1
 generalize W.drew = W1 at HB1 BK1 hHeld ⊢
 refine tY 0 4 HT_ HW_ hHeld ?_
 refine pY 1 5 HT_ ?_
 refine pY 4 8 HT_ ?_
 refine tY 5 9 HT_ HW_ hHeld ?_
 refine oY 2 6 HT_ (fun K hK => ?_)
 refine gY Try.func40 #[.agg #[.int .i64 n, .slice A1 l.length c1], .slice A x.length c] ?_
 refine (HK.out _ HB1.out).mono ?_
 rintro e w' ⟨v0, rfl, ho, hb'⟩
 refine ⟨_, rfl, ?_⟩
 have BK2 := Aside0.mk (blk_below BK1.out hb')
 have HB2 := Aside0.mk (HB1.out.trans (hb'.mono HB1.out.size))
 obtain ⟨Ao, co, eo⟩ := Kd.R_slice ho
 subst eo
 clear ho hb'
 refine hK.out _ _ ⟨(blk_cell BK2.out 0).trans rfl, (blk_cell BK2.out 1).trans rfl⟩ (fun hHeld => ?_)
 clear hK K
 refine nY 6 ?_
 refine pY 3 7 HT_ ?_
 refine pY 6 10 HT_ ?_
 refine pY 7 3 HT_ ?_
 refine dY HT_ ?_
 try go_wp2
 go_ret
 exact ⟨rfl, HB2.out⟩
set_option maxHeartbeats 8000000 in
set_option maxRecDepth 100000 in
theorem impl_figure_isRegular.calls (k : Nat) (a0_0 : Int) (A0_1 : Option Addr) (c0_1 : Nat) (l0_1 : List S70) (r : Bool) (w : World) (hr0_1 : Kd.C k70 w A0_1 l0_1.length l0_1) (hc0_1 : l0_1.length ≤ c0_1) (h : impl_figure_isRegular.f k a0_0 l0_1 = some r) :
  Calls Try.prog 70 #[.agg #[.int .i64 a0_0, .slice A0_1 l0_1.length c0_1]] w fun e w' => e = .returned (.bool r) ∧ Below w.heap.size w w' := by
 have hu := Try.underlying51
 unfold impl_figure_isRegular.f at h
 obtain ⟨cs, hcs, h⟩ := Option.bind_eq_some_iff.mp h
 by_cases ca : ((List.range' 0 cs.length).all fun j => (manyAt k a0_0 l0_1 cs j).isSome) = true
 ·rw [if_pos ca] at h
  obtain rfl := Option.some.inj h
  have HCS := Aside0.mk hcs
  have HR := Aside0.mk hr0_1
  have HCL := Aside0.mk hc0_1
  have HB0 := Aside0.mk (Below.refl w.heap.size w)
  have key : ∀ (G : Nat) (W : World) (A : Option Addr) (c : Nat), Below w.heap.size w W → W.heap[G]? = some (.cells #[.int .i64 a0_0, .slice A0_1 l0_1.length c0_1] 51 (0, 0)) → Kd.C (Kd.slice 3 (Kd.int .i64)) W A cs.length cs →
    Calls Try.prog 37 #[.slice A cs.length c, .func (.func 88) #[] #[.pointer (some ⟨G, 0, none⟩)]] W fun e w' => e = .returned (.bool ((List.range' 0 cs.length).any fun j => decide (a0_0 < (((manyAt k a0_0 l0_1 cs j).getD []).length : Int)))) ∧ Below W.heap.size W w' := by
   intro G W A c hbW hG hcW
   obtain ⟨q1, q2⟩ := rows_at hcW
   refine containsFuncR 88 #[.pointer (some ⟨G, 0, none⟩)] (enters_of Try.func88 (by kernel_rfl) rfl) _ _ A cs.length c W ?_ hcW.2.1 q1
   intro j hj W2 hb2
   obtain ⟨A', c', e1, l1, r1⟩ := q2 j hj
   have hs : (manyAt k a0_0 l0_1 cs j).isSome = true := List.all_eq_true.mp ca j (by rw [List.mem_range']; exact ⟨j, hj, by omega⟩)
   obtain ⟨v, hv⟩ := Option.isSome_iff_exists.mp hs
   have := isReg1_calls k A' c' (cs.getD j []) G a0_0 A0_1 c0_1 l0_1 v W W2 hb2 hG (Kd.C_below HR.out hbW) HCL.out r1 l1 hv
   rw [e1]
   refine this.mono ?_
   rintro e w' ⟨rfl, hb'⟩
   exact ⟨by simp only [hv, Option.getD_some], hb'⟩
  have KEY := Aside0.mk key
  clear key hcs hr0_1 hc0_1 h ca
  go_enter Try.func70, Try.ntmps70
  go_wp2_with (first
   | ((with_reducible refine gate_dst (N := 1) rfl ?_); refine box_event ?hg (N := 1) ?hd (cs := #[.int .i64 a0_0, .slice A0_1 l0_1.length c0_1]) (t := 51) ?hr ?_; (case hd => rfl); (case hg => rfl); (case hr => first | (go_simp; done) | (go_simp; rfl)); intro gb hg w8 hbox hb; have BK := Aside0.mk hbox; have HB := Aside0.mk (HB0.out.trans hb); have hz0 := cell0 BK.out; have hz1 := cell1 BK.out; have hf0 := blk_frozen BK.out 0; have hf1 := blk_frozen BK.out 1; clear hb hbox hg)
   | (go_at_call 32; refine (impl_figure_corners.callsS k a0_0 (fun k_ => True) A0_1 c0_1 l0_1 cs _ ?hv HCS.out).mono ?_; (case hv => exact Kd.V_mk HCL.out (Kd.F_mono (Kd.C_F k70_heap (Kd.C_below HR.out (mb HB.out))) (fun _ _ => trivial))); rintro e w9 ⟨vc, rfl, hs, hb⟩; have BK9 := Aside0.mk (blk_below (mvK BK.out) hb); have HB9 := Aside0.mk (below_step (mb HB.out) hb); obtain ⟨Ac, cc, ec⟩ := Kd.S_slice hs; subst ec; have HS := Aside0.mk (Kd.S_reads' hs).2.2; clear hs hb)
   | (go_at_call 37; refine (KEY.out gb _ Ac cc (mb HB9.out) (mvK BK9.out) (by repeat (first | exact HS.out | (with_reducible refine Kd.C_drewN ?_ _) | (with_reducible refine Kd.C_drew ?_)))).mono ?_; rintro e w10 ⟨rfl, hb⟩; have HB10 := Aside0.mk (below_step (mb HB9.out) hb); clear hb))
  go_ret
  exact ⟨rfl, mb HB10.out⟩
 ·rw [if_neg ca] at h
  cases h
def impl_Game_isRegular.f (k : Nat) (l0_0 : List (List Int)) (l0_1 : List (List Int)) : Option (Bool) := (impl_Game_figureOf.f k l0_0 l0_1 1).bind fun bt688 => ((impl_figure_isRegular.f k bt688.1 bt688.2).bind fun t692 => (if t692 = true then ((impl_Game_figureOf.f k l0_0 l0_1 2).bind fun bt693 => ((impl_figure_isRegular.f k bt693.1 bt693.2).bind fun t697 => (some t697))) else (some false)))
theorem impl_Game_isRegular.mono : ∀ a0 a1 k, LeO (impl_Game_isRegular.f k a0 a1) (impl_Game_isRegular.f (k + 1) a0 a1) := by
 intro a0 a1 k
 unfold impl_Game_isRegular.f
 repeat' first
   | (with_reducible exact impl_Game_figureOf.mono ..)
   | (with_reducible exact impl_figure_isRegular.mono ..)
   | (with_reducible exact LeO.refl _)
   | (with_reducible exact LeO.none _)
   | (with_reducible refine LeO.ite ?_ ?_)
   | (with_reducible refine LeO.bind ?_ (fun _ => ?_))
   | exact impl_Game_figureOf.mono ..
   | exact impl_figure_isRegular.mono ..
   | exact LeO.none _
   | refine LeO.ite ?_ ?_
   | refine LeO.bind ?_ (fun _ => ?_)
set_option maxHeartbeats 8000000 in
set_option maxRecDepth 100000 in
theorem impl_Game_isRegular.calls (k : Nat) (A0_0 : Option Addr) (c0_0 : Nat) (l0_0 : List (List Int)) (A0_1 : Option Addr) (c0_1 : Nat) (l0_1 : List (List Int)) (r : Bool) (w : World) (hr0_0 : Kd.C (Kd.slice 3 (Kd.int .i64)) w A0_0 l0_0.length l0_0) (hc0_0 : l0_0.length ≤ c0_0) (hr0_1 : Kd.C (Kd.slice 3 (Kd.int .i64)) w A0_1 l0_1.length l0_1) (hc0_1 : l0_1.length ≤ c0_1) (h : impl_Game_isRegular.f k l0_0 l0_1 = some r) :
  Calls Try.prog 34 #[.agg #[.slice A0_0 l0_0.length c0_0, .slice A0_1 l0_1.length c0_1]] w fun e w' => e = .returned (.bool r) ∧ Below w.heap.size w w' := by
 have hu28 := Try.underlying28
 have HR0_0 := Aside0.mk hr0_0
 have HC0_0 := Aside0.mk hc0_0
 clear hr0_0 hc0_0
 have HR0_1 := Aside0.mk hr0_1
 have HC0_1 := Aside0.mk hc0_1
 clear hr0_1 hc0_1
 have HB := Aside0.mk (Below.refl w.heap.size w)
 have H : ((impl_Game_figureOf.f k l0_0 l0_1 1).bind fun bt688 => ((impl_figure_isRegular.f k bt688.1 bt688.2).bind fun t692 => (if t692 = true then ((impl_Game_figureOf.f k l0_0 l0_1 2).bind fun bt693 => ((impl_figure_isRegular.f k bt693.1 bt693.2).bind fun t697 => (some t697))) else (some false)))) = some r := h
 clear h
 replace H := bindA H; obtain ⟨⟨t688, t689⟩, A2, H⟩ := H; dsimp only at H
 replace H := bindA H; obtain ⟨t692, A3, H⟩ := H
 by_cases c4 : t692 = true
 ·subst c4
  have H1 : ((impl_Game_figureOf.f k l0_0 l0_1 2).bind fun bt693 => ((impl_figure_isRegular.f k bt693.1 bt693.2).bind fun t697 => (some t697))) = some r := by rw [if_pos rfl] at H; first | exact H | (rw [if_pos trivial] at H; rw [if_pos rfl]; exact H)
  clear H
  have H := H1
  clear H1
  replace H := bindA H; obtain ⟨⟨t693, t694⟩, A5, H⟩ := H; dsimp only at H
  replace H := bindA H; obtain ⟨t697, A6, H⟩ := H
  obtain rfl := Option.some.inj H
  go_enter Try.func34, Try.ntmps34
  go_wp2_with (first | ((with_reducible refine gate_dst (N := 1) rfl ?_); refine box_event ?hg (N := 1) ?hd (cs := #[.slice A0_0 l0_0.length c0_0, .slice A0_1 l0_1.length c0_1]) (t := 28) ?hr ?_; (case hd => rfl); (case hg => rfl); (case hr => first | (go_simp; done) | (go_simp; rfl)); intro gb687 hg w7 hbox hb; have BK687 := am (hbox); have GW687 := am ((by rw [hg]; exact (below_size (mb HB.out)) : w.heap.size ≤ gb687)); have GE687 := am ((by rw [hg]; exact (below_size (mb HB.out)) : w.heap.size ≤ gb687)); replace HB := am (below_step (mb HB.out) hb); clear hb hbox hg; have hcz8_0 := cell0 BK687.out; have hcz8_1 := cell1 BK687.out; have hfz8_0 := blk_frozen BK687.out 0; have hfz8_1 := blk_frozen BK687.out 1) | ((with_reducible refine gate_callee (f := 31) rfl ?_); refine goesL_ (some 4) rfl rfl Try.func31 (by kernel_rfl) rfl #[.agg #[.slice A0_0 l0_0.length c0_0, .slice A0_1 l0_1.length c0_1], .int .i64 1] rfl szE ?_; (with_reducible refine (impl_Game_figureOf.calls k _ _ l0_0 _ _ l0_1 1 t688 t689 _ ?side1 ?side2 ?side3 ?side4 A2.out).mono ?_); (case side1 => exact mvC (Kd.C_below HR0_0.out HB.out)); (case side2 => exact HC0_0.out); (case side3 => exact mvC (Kd.C_below HR0_1.out HB.out)); (case side4 => exact HC0_1.out); rintro e w9 ⟨v690, rfl, ho0, hb⟩; refine ⟨_, rfl, ?_⟩; have HO691 := am (Kd.N_lower (Kd.N_mono (ok' := fun k_ => k_ ≠ gb687) ho0 (fun k_ hk_ => (Kd.freshB (g := gb687) (o := .cells #[.slice A0_0 l0_0.length c0_0, .slice A0_1 l0_1.length c0_1] 28 (0, 0)) (mvK BK687.out) k_ hk_))) (below_size (mb HB.out))); replace BK687 := am (blk_below (mvK BK687.out) hb); replace HB := am (below_step (mb HB.out) hb); (try clear hb); (try clear hb2); (try clear hk); (try clear hi); (try clear ho0); obtain ⟨Ao10, co10, eo10⟩ := Kd.N_slice HO691.out; subst eo10) | ((with_reducible refine gate_callee (f := 70) rfl ?_); refine goesL_ (some 5) rfl rfl Try.func70 (by kernel_rfl) rfl #[.agg #[.int .i64 t688, .slice Ao10 t689.length co10]] rfl szE ?_; (with_reducible refine (impl_figure_isRegular.calls k t688 _ _ t689 true _ ?side1 ?side2 A3.out).mono ?_); (case side1 => repeat (first | exact (Kd.N_reads' HO691.out).2.2 | (with_reducible refine Kd.C_alloc ?_ _) | (with_reducible refine Kd.C_drewN ?_ _) | (with_reducible refine Kd.C_drew ?_))); (case side2 => exact (Kd.N_reads' HO691.out).2.1); rintro e w11 ⟨rfl, hb⟩; refine ⟨_, rfl, ?_⟩; replace HO691 := am (Kd.N_below (mvN HO691.out) hb); replace BK687 := am (blk_below (mvK BK687.out) hb); replace HB := am (below_step (mb HB.out) hb); (try clear hb); (try clear hb2); (try clear hk); (try clear hi); have hcz12_0 := cell0 BK687.out; have hcz12_1 := cell1 BK687.out; have hfz12_0 := blk_frozen BK687.out 0; have hfz12_1 := blk_frozen BK687.out 1) | (go_at_call 31; (with_reducible refine (impl_Game_figureOf.calls k _ _ l0_0 _ _ l0_1 2 t693 t694 _ ?side1 ?side2 ?side3 ?side4 A5.out).mono ?_); (case side1 => exact mvC (Kd.C_below HR0_0.out HB.out)); (case side2 => exact HC0_0.out); (case side3 => exact mvC (Kd.C_below HR0_1.out HB.out)); (case side4 => exact HC0_1.out); rintro e w13 ⟨v695, rfl, ho0, hb⟩; have HO696 := am (Kd.N_lower (Kd.N_mono (ok' := fun k_ => some k_ ≠ (.slice Ao10 t689.length co10 : Value).ownBlock ∧ k_ ≠ gb687) ho0 (fun k_ hk_ => ⟨(Kd.fresh' (Kd.N_lt (mvN HO691.out)) k_ hk_), (Kd.freshB (g := gb687) (o := .cells #[.slice A0_0 l0_0.length c0_0, .slice A0_1 l0_1.length c0_1] 28 (0, 0)) (mvK BK687.out) k_ hk_)⟩)) (below_size (mb HB.out))); replace HO691 := am (Kd.N_elder' (mvN HO691.out) (Kd.N_base ho0) hb); replace BK687 := am (blk_below (mvK BK687.out) hb); replace HB := am (below_step (mb HB.out) hb); (try clear hb); (try clear hb2); (try clear hk); (try clear hi); (try clear ho0); obtain ⟨Ao14, co14, eo14⟩ := Kd.N_slice HO696.out; subst eo14) | (go_at_call 70; (with_reducible refine (impl_figure_isRegular.calls k t693 _ _ t694 t697 _ ?side1 ?side2 A6.out).mono ?_); (case side1 => repeat (first | exact (Kd.N_reads' HO696.out).2.2 | (with_reducible refine Kd.C_alloc ?_ _) | (with_reducible refine Kd.C_drewN ?_ _) | (with_reducible refine Kd.C_drew ?_))); (case side2 => exact (Kd.N_reads' HO696.out).2.1); rintro e w15 ⟨rfl, hb⟩; replace HO691 := am (Kd.N_below (mvN HO691.out) hb); replace HO696 := am (Kd.N_below (mvN HO696.out) hb); replace BK687 := am (blk_below (mvK BK687.out) hb); replace HB := am (below_step (mb HB.out) hb); (try clear hb); (try clear hb2); (try clear hk); (try clear hi)))
  go_ret
  exact ⟨eqE, mb HB.out⟩
 ·replace c4 := Bool.eq_false_iff.mpr c4
  subst c4
  replace H : (some false) = some r := by rw [if_neg (show ¬ (false = true) by decide)] at H; exact H
  obtain rfl := Option.some.inj H
  go_enter Try.func34, Try.ntmps34
  go_wp2_with (first | ((with_reducible refine gate_dst (N := 1) rfl ?_); refine box_event ?hg (N := 1) ?hd (cs := #[.slice A0_0 l0_0.length c0_0, .slice A0_1 l0_1.length c0_1]) (t := 28) ?hr ?_; (case hd => rfl); (case hg => rfl); (case hr => first | (go_simp; done) | (go_simp; rfl)); intro gb687 hg w16 hbox hb; have BK687 := am (hbox); have GW687 := am ((by rw [hg]; exact (below_size (mb HB.out)) : w.heap.size ≤ gb687)); have GE687 := am ((by rw [hg]; exact (below_size (mb HB.out)) : w.heap.size ≤ gb687)); replace HB := am (below_step (mb HB.out) hb); clear hb hbox hg; have hcz17_0 := cell0 BK687.out; have hcz17_1 := cell1 BK687.out; have hfz17_0 := blk_frozen BK687.out 0; have hfz17_1 := blk_frozen BK687.out 1) | ((with_reducible refine gate_callee (f := 31) rfl ?_); refine goesL_ (some 4) rfl rfl Try.func31 (by kernel_rfl) rfl #[.agg #[.slice A0_0 l0_0.length c0_0, .slice A0_1 l0_1.length c0_1], .int .i64 1] rfl szE ?_; (with_reducible refine (impl_Game_figureOf.calls k _ _ l0_0 _ _ l0_1 1 t688 t689 _ ?side1 ?side2 ?side3 ?side4 A2.out).mono ?_); (case side1 => exact mvC (Kd.C_below HR0_0.out HB.out)); (case side2 => exact HC0_0.out); (case side3 => exact mvC (Kd.C_below HR0_1.out HB.out)); (case side4 => exact HC0_1.out); rintro e w18 ⟨v690, rfl, ho0, hb⟩; refine ⟨_, rfl, ?_⟩; have HO691 := am (Kd.N_lower (Kd.N_mono (ok' := fun k_ => k_ ≠ gb687) ho0 (fun k_ hk_ => (Kd.freshB (g := gb687) (o := .cells #[.slice A0_0 l0_0.length c0_0, .slice A0_1 l0_1.length c0_1] 28 (0, 0)) (mvK BK687.out) k_ hk_))) (below_size (mb HB.out))); replace BK687 := am (blk_below (mvK BK687.out) hb); replace HB := am (below_step (mb HB.out) hb); (try clear hb); (try clear hb2); (try clear hk); (try clear hi); (try clear ho0); obtain ⟨Ao19, co19, eo19⟩ := Kd.N_slice HO691.out; subst eo19) | ((with_reducible refine gate_callee (f := 70) rfl ?_); refine goesL_ (some 5) rfl rfl Try.func70 (by kernel_rfl) rfl #[.agg #[.int .i64 t688, .slice Ao19 t689.length co19]] rfl szE ?_; (with_reducible refine (impl_figure_isRegular.calls k t688 _ _ t689 false _ ?side1 ?side2 A3.out).mono ?_); (case side1 => repeat (first | exact (Kd.N_reads' HO691.out).2.2 | (with_reducible refine Kd.C_alloc ?_ _) | (with_reducible refine Kd.C_drewN ?_ _) | (with_reducible refine Kd.C_drew ?_))); (case side2 => exact (Kd.N_reads' HO691.out).2.1); rintro e w20 ⟨rfl, hb⟩; refine ⟨_, rfl, ?_⟩; replace HO691 := am (Kd.N_below (mvN HO691.out) hb); replace BK687 := am (blk_below (mvK BK687.out) hb); replace HB := am (below_step (mb HB.out) hb); (try clear hb); (try clear hb2); (try clear hk); (try clear hi)))
  go_ret
  exact ⟨eqE, mb HB.out⟩
def impl_IsRegularGame.f (k : Nat) (l0_0 : List (List Int)) (l0_1 : List (List Int)) : Option (Bool × Bool) := (impl_IsGame.f l0_0 l0_1).bind fun t699 => (if t699 = true then ((impl_Game_isRegular.f k l0_0 l0_1).bind fun t700 => (some (t700, true))) else (some (false, false)))
theorem impl_IsRegularGame.mono : ∀ a0 a1 k, LeO (impl_IsRegularGame.f k a0 a1) (impl_IsRegularGame.f (k + 1) a0 a1) := by
 intro a0 a1 k
 unfold impl_IsRegularGame.f
 repeat' first
   | (with_reducible exact impl_Game_isRegular.mono ..)
   | (with_reducible exact LeO.refl _)
   | (with_reducible exact LeO.none _)
   | (with_reducible refine LeO.ite ?_ ?_)
   | (with_reducible refine LeO.bind ?_ (fun _ => ?_))
   | exact impl_Game_isRegular.mono ..
   | exact LeO.none _
   | refine LeO.ite ?_ ?_
   | refine LeO.bind ?_ (fun _ => ?_)
set_option maxHeartbeats 8000000 in
set_option maxRecDepth 100000 in
theorem impl_IsRegularGame.calls (k : Nat) (A0_0 : Option Addr) (c0_0 : Nat) (l0_0 : List (List Int)) (A0_1 : Option Addr) (c0_1 : Nat) (l0_1 : List (List Int)) (r1 : Bool) (r2 : Bool) (w : World) (hr0_0 : Kd.C (Kd.slice 3 (Kd.int .i64)) w A0_0 l0_0.length l0_0) (hc0_0 : l0_0.length ≤ c0_0) (hr0_1 : Kd.C (Kd.slice 3 (Kd.int .i64)) w A0_1 l0_1.length l0_1) (hc0_1 : l0_1.length ≤ c0_1) (h : impl_IsRegularGame.f k l0_0 l0_1 = some (r1, r2)) :
  Calls Try.prog 16 #[.agg #[.slice A0_0 l0_0.length c0_0, .slice A0_1 l0_1.length c0_1]] w fun e w' => e = .returned (.tuple #[.bool r1, .bool r2]) ∧ Below w.heap.size w w' := by
 have hu28 := Try.underlying28
 have HR0_0 := Aside0.mk hr0_0
 have HC0_0 := Aside0.mk hc0_0
 clear hr0_0 hc0_0
 have HR0_1 := Aside0.mk hr0_1
 have HC0_1 := Aside0.mk hc0_1
 clear hr0_1 hc0_1
 have HB := Aside0.mk (Below.refl w.heap.size w)
 have H : ((impl_IsGame.f l0_0 l0_1).bind fun t699 => (if t699 = true then ((impl_Game_isRegular.f k l0_0 l0_1).bind fun t700 => (some (t700, true))) else (some (false, false)))) = some (r1, r2) := h
 clear h
 replace H := bindA H; obtain ⟨t699, A2, H⟩ := H
 by_cases c3 : t699 = true
 ·subst c3
  have H1 : ((impl_Game_isRegular.f k l0_0 l0_1).bind fun t700 => (some (t700, true))) = some (r1, r2) := by rw [if_pos rfl] at H; first | exact H | (rw [if_pos trivial] at H; rw [if_pos rfl]; exact H)
  clear H
  have H := H1
  clear H1
  replace H := bindA H; obtain ⟨t700, A4, H⟩ := H
  simp only [Option.some.injEq, Prod.mk.injEq] at H
  obtain ⟨rfl, rfl⟩ := H
  go_enter Try.func16, Try.ntmps16
  go_wp2_with (first | ((with_reducible refine gate_dst (N := 1) rfl ?_); refine box_event ?hg (N := 1) ?hd (cs := #[.slice A0_0 l0_0.length c0_0, .slice A0_1 l0_1.length c0_1]) (t := 28) ?hr ?_; (case hd => rfl); (case hg => rfl); (case hr => first | (go_simp; done) | (go_simp; rfl)); intro gb698 hg w5 hbox hb; have BK698 := am (hbox); have GW698 := am ((by rw [hg]; exact (below_size (mb HB.out)) : w.heap.size ≤ gb698)); have GE698 := am ((by rw [hg]; exact (below_size (mb HB.out)) : w.heap.size ≤ gb698)); replace HB := am (below_step (mb HB.out) hb); clear hb hbox hg; have hcz6_0 := cell0 BK698.out; have hcz6_1 := cell1 BK698.out; have hfz6_0 := blk_frozen BK698.out 0; have hfz6_1 := blk_frozen BK698.out 1) | ((with_reducible refine gate_callee (f := 29) rfl ?_); refine goesL_ (some 5) rfl rfl Try.func29 (by kernel_rfl) rfl #[.agg #[.slice A0_0 l0_0.length c0_0, .slice A0_1 l0_1.length c0_1]] rfl szE ?_; (with_reducible refine (impl_IsGame.calls _ _ l0_0 _ _ l0_1 true _ ?side1 ?side2 ?side3 ?side4 A2.out).mono ?_); (case side1 => exact mvC (Kd.C_below HR0_0.out HB.out)); (case side2 => exact HC0_0.out); (case side3 => exact mvC (Kd.C_below HR0_1.out HB.out)); (case side4 => exact HC0_1.out); rintro e w7 ⟨rfl, hb⟩; refine ⟨_, rfl, ?_⟩; replace BK698 := am (blk_below (mvK BK698.out) hb); replace HB := am (below_step (mb HB.out) hb); (try clear hb); (try clear hb2); (try clear hk); (try clear hi); have hcz8_0 := cell0 BK698.out; have hcz8_1 := cell1 BK698.out; have hfz8_0 := blk_frozen BK698.out 0; have hfz8_1 := blk_frozen BK698.out 1) | ((with_reducible refine gate_callee (f := 34) rfl ?_); refine goesL_ (some 8) rfl rfl Try.func34 (by kernel_rfl) rfl #[.agg #[.slice A0_0 l0_0.length c0_0, .slice A0_1 l0_1.length c0_1]] rfl szE ?_; (with_reducible refine (impl_Game_isRegular.calls k _ _ l0_0 _ _ l0_1 t700 _ ?side1 ?side2 ?side3 ?side4 A4.out).mono ?_); (case side1 => exact mvC (Kd.C_below HR0_0.out HB.out)); (case side2 => exact HC0_0.out); (case side3 => exact mvC (Kd.C_below HR0_1.out HB.out)); (case side4 => exact HC0_1.out); rintro e w9 ⟨rfl, hb⟩; refine ⟨_, rfl, ?_⟩; replace BK698 := am (blk_below (mvK BK698.out) hb); replace HB := am (below_step (mb HB.out) hb); (try clear hb); (try clear hb2); (try clear hk); (try clear hi)))
  go_ret2
  exact ⟨eqE, mb HB.out⟩
 ·replace c3 := Bool.eq_false_iff.mpr c3
  subst c3
  replace H : (some (false, false)) = some (r1, r2) := by rw [if_neg (show ¬ (false = true) by decide)] at H; exact H
  simp only [Option.some.injEq, Prod.mk.injEq] at H
  obtain ⟨rfl, rfl⟩ := H
  go_enter Try.func16, Try.ntmps16
  go_wp2_with (first | ((with_reducible refine gate_dst (N := 1) rfl ?_); refine box_event ?hg (N := 1) ?hd (cs := #[.slice A0_0 l0_0.length c0_0, .slice A0_1 l0_1.length c0_1]) (t := 28) ?hr ?_; (case hd => rfl); (case hg => rfl); (case hr => first | (go_simp; done) | (go_simp; rfl)); intro gb698 hg w10 hbox hb; have BK698 := am (hbox); have GW698 := am ((by rw [hg]; exact (below_size (mb HB.out)) : w.heap.size ≤ gb698)); have GE698 := am ((by rw [hg]; exact (below_size (mb HB.out)) : w.heap.size ≤ gb698)); replace HB := am (below_step (mb HB.out) hb); clear hb hbox hg; have hcz11_0 := cell0 BK698.out; have hcz11_1 := cell1 BK698.out; have hfz11_0 := blk_frozen BK698.out 0; have hfz11_1 := blk_frozen BK698.out 1) | ((with_reducible refine gate_callee (f := 29) rfl ?_); refine goesL_ (some 5) rfl rfl Try.func29 (by kernel_rfl) rfl #[.agg #[.slice A0_0 l0_0.length c0_0, .slice A0_1 l0_1.length c0_1]] rfl szE ?_; (with_reducible refine (impl_IsGame.calls _ _ l0_0 _ _ l0_1 false _ ?side1 ?side2 ?side3 ?side4 A2.out).mono ?_); (case side1 => exact mvC (Kd.C_below HR0_0.out HB.out)); (case side2 => exact HC0_0.out); (case side3 => exact mvC (Kd.C_below HR0_1.out HB.out)); (case side4 => exact HC0_1.out); rintro e w12 ⟨rfl, hb⟩; refine ⟨_, rfl, ?_⟩; replace BK698 := am (blk_below (mvK BK698.out) hb); replace HB := am (below_step (mb HB.out) hb); (try clear hb); (try clear hb2); (try clear hk); (try clear hi)))
  go_ret2
  exact ⟨eqE, mb HB.out⟩
end Go.Proofs.Ytggiicplcglalaa.All
