/- Part of the proof that the law FnExactCornersOf answers true for all arguments. -/
import Derived.Test.YtggiicplcglalaaQC5
namespace Go.Proofs.Ytggiicplcglalaa.All
open Go.RowKit Go.Proofs.YtggiicplcglalaaW.PrintWords Go.Proofs.YtggiicplcglalaaW.PrintLast Go.Proofs.YtggiicplcglalaaW.PrintMore
attribute [local go_sem] max2_int min2_int max_two min_two max_three min_three max_four min_four
set_option linter.unusedVariables false
set_option linter.unusedSimpArgs false
set_option maxHeartbeats 8000000
set_option maxRecDepth 100000
def AnswersC (g : Nat) (lb : Array Value) (l : List S70) (q : Nat → Bool) (w : World) : Prop :=
 ∀ j, j < l.length → ∀ W : World, Below w.heap.size w W → ∀ (A : Option Addr) (cc : Nat), (rd_T70 l (j : Int)).f0.length ≤ cc → Kd.C (Kd.int .i64) w A (rd_T70 l (j : Int)).f0.length (rd_T70 l (j : Int)).f0 →
  Calls Try.prog g (#[.agg #[.slice A (rd_T70 l (j : Int)).f0.length cc, .int .i64 (rd_T70 l (j : Int)).f1, .bool (rd_T70 l (j : Int)).f2]] ++ lb) W fun e w' => e = .returned (.bool (q j)) ∧ Below w.heap.size w w'
set_option maxHeartbeats 4000000 in
set_option maxRecDepth 100000 in
theorem indexFuncC (g : Nat) (lb : Array Value) (eg : ∀ args w, (callFunc g args).run Try.prog w = .ok (.enter g args) w) (q : Nat → Bool) (A0 : Option Addr) (n c : Nat) (l : List S70) (hln : l.length = n) (w : World)
  (hp : AnswersC g lb l q w) (hc : Kd.C k70 w A0 n l) :
  Calls Try.prog 82 #[.slice A0 n c, .func (.func g) #[] lb] w fun e w' => e = .returned (.int .i64 (firstAt q n 0)) ∧ Below w.heap.size w w' := by
 have hu := Try.underlying70
 have hn : n ≤ 9223372036854775807 := hc.2.1
 have HP := Aside0.mk hp
 have HC := Aside0.mk hc
 have HN := Aside0.mk hn
 have HL := Aside0.mk hln
 clear hc hp hn hln
 go_enter Try.func82, Try.ntmps82
 go_wp2
 go_loopg [5, 8] n (fun gg _ s8 wr => ∃ kk : Nat, kk ≤ n ∧ n - kk ≤ gg ∧ s8 = .int .i64 kk ∧ Aside0 (Below w.heap.size w wr) ∧ Aside0 (∀ j, j < kk → q j = false))
 case atStart => exact ⟨0, Nat.zero_le _, by omega, rfl, ⟨Below.refl _ w⟩, ⟨fun j hj => absurd hj (Nat.not_lt_zero _)⟩⟩
 case round =>
  obtain ⟨kk, hkk, hg, rfl, BW, A⟩ := hrel
  have hn' := HN.out
  by_cases hlt : kk < n
  rotate_left
  ·have hltz : ¬ (kk : Int) < (n : Int) := by omega
   have : kk = n := by omega
   subst this
   go_wp2
   go_ret
   refine ⟨?_, BW.out⟩
   rw [firstAt_miss q kk 0 (fun m _ h => A.out m (by omega))]
   rfl
  have hltz : (kk : Int) < (n : Int) := by omega
  have hln' := HL.out
  obtain ⟨ad, A1, c1, ea, hx0, hx1, hx2, hl0, hi0⟩ := at_T70 HC.out (kk : Int) (by omega) hltz
  cases ea
  have hcall := HP.out kk (by rw [hln']; exact hlt) wr BW.out A1 c1 hl0 hi0
  simp only [Int.toNat_natCast] at hx0 hx1 hx2
  generalize rd_T70 l (kk : Int) = x at hx0 hx1 hx2 hl0 hi0 hcall
  replace hx0 := (BW.out.cell (World.block_lt_of_cell? w _ hx0)).trans hx0
  replace hx1 := (BW.out.cell (World.block_lt_of_cell? w _ hx1)).trans hx1
  replace hx2 := (BW.out.cell (World.block_lt_of_cell? w _ hx2)).trans hx2
  clear hl0 hi0 hln'
  cases hq : q kk with
  | true =>
   rw [hq] at hcall
   have HQ := Aside0.mk hq
   clear hq
   go_wp2_with (go_at_fn g; refine hcall.mono ?_; rintro e w' ⟨rfl, hb'⟩)
   go_ret
   refine ⟨?_, hb'⟩
   rw [firstAt_hit q kk HQ.out n 0 (Nat.zero_le _) (by omega) (fun m _ h => A.out m h)]
   rfl
  | false =>
   rw [hq] at hcall
   have HQ := Aside0.mk hq
   clear hq
   go_wp2_with (go_at_fn g; refine hcall.mono ?_; rintro e w' ⟨rfl, hb'⟩)
   go_roundg (n - (kk + 1))
   case measure => omega
   case rel =>
    refine ⟨kk + 1, by omega, by omega, by go_num, ⟨hb'⟩, ⟨fun j hj => ?_⟩⟩
    by_cases e : j = kk
    ·subst e; exact HQ.out
    exact A.out j (by omega)
theorem firstAt_geC (q : Nat → Bool) : ∀ d i, decide (0 ≤ firstAt q d i) = (List.range' i d).any q
 | 0, i => by simp [firstAt]
 | d + 1, i => by
  unfold firstAt
  rw [List.range'_succ, List.any_cons]
  cases h : q i with
  | true => simp
  | false => simp [firstAt_geC q d (i + 1)]
set_option maxHeartbeats 4000000 in
set_option maxRecDepth 100000 in
theorem containsFuncC (g : Nat) (lb : Array Value) (eg : ∀ args w, (callFunc g args).run Try.prog w = .ok (.enter g args) w) (q : Nat → Bool) (A0 : Option Addr) (c : Nat) (l : List S70) (w : World)
  (hp : AnswersC g lb l q w) (hc : Kd.C k70 w A0 l.length l) :
  Calls Try.prog 63 #[.slice A0 l.length c, .func (.func g) #[] lb] w fun e w' => e = .returned (.bool ((List.range' 0 l.length).any q)) ∧ Below w.heap.size w w' := by
 have h1 := indexFuncC g lb eg q A0 l.length c l rfl w hp hc
 have HE := Aside0.mk (firstAt_geC q l.length 0)
 clear hp hc
 go_enter Try.func63, Try.ntmps63
 go_wp2_with (go_at_call 82; refine h1.mono ?_; rintro e w' ⟨rfl, hb'⟩)
 go_ret
 refine ⟨?_, hb'⟩
 rw [← HE.out]
 rfl
def impl_dot.l0 : Nat → List Int → Int → List Int → Int → Int → Option (Int)
 | 0, _, _, _, _, _ => none
 | k + 1, x1, x5, x8, x9, x10 => if x10 < x9 then (if 0 ≤ x10 then (if x10 < (x8.length : Int) then (if x10 < (x1.length : Int) then (impl_dot.l0 k x1 (wrap64 (x5 + (wrap64 ((rd x8 x10) * (rd x1 x10))))) x8 x9 (wrap64 (x10 + 1))) else (none)) else (none)) else (none)) else (some x5)
def impl_dot.f (k : Nat) (l0 : List Int) (l1 : List Int) : Option (Int) := impl_dot.l0 k l1 0 l0 (l0.length : Int) 0
theorem impl_dot.mono_l : ∀ k, (∀ y0 y1 y2 y3 y4, LeO (impl_dot.l0 k y0 y1 y2 y3 y4) (impl_dot.l0 (k + 1) y0 y1 y2 y3 y4))
 | 0 => fun _ _ _ _ _ r h => by simp [impl_dot.l0] at h
 | k + 1 => by
  have ih0 := impl_dot.mono_l k
  ·intro y0 y1 y2 y3 y4
   unfold impl_dot.l0
   repeat' first
   | (with_reducible exact ih0 ..)
   | (with_reducible exact LeO.refl _)
   | (with_reducible exact LeO.none _)
   | (with_reducible refine LeO.ite ?_ ?_)
   | (with_reducible refine LeO.bind ?_ (fun _ => ?_))
theorem impl_dot.mono : ∀ a0 a1 k, LeO (impl_dot.f k a0 a1) (impl_dot.f (k + 1) a0 a1) := by
 intro a0 a1 k
 have ih0 := impl_dot.mono_l k
 unfold impl_dot.f
 repeat' first
   | (with_reducible exact ih0 ..)
   | (with_reducible exact LeO.refl _)
   | (with_reducible exact LeO.none _)
   | (with_reducible refine LeO.ite ?_ ?_)
   | (with_reducible refine LeO.bind ?_ (fun _ => ?_))
theorem impl_dot.calls (k : Nat) (A0 : Option Addr) (c0 : Nat) (l0 : List Int) (A1 : Option Addr) (c1 : Nat) (l1 : List Int) (r : Int) (w : World) (hr0 : Kd.C (Kd.int .i64) w A0 l0.length l0) (hc0 : l0.length ≤ c0) (hr1 : Kd.C (Kd.int .i64) w A1 l1.length l1) (hc1 : l1.length ≤ c1) (h : impl_dot.f k l0 l1 = some r) :
  Calls Try.prog 83 #[.slice A0 l0.length c0, .slice A1 l1.length c1] w fun e w' => e = .returned (.int .i64 r) ∧ Drawn0 w w' := by
 have HR0 := Aside0.mk hr0
 have HC0 := Aside0.mk hc0
 clear hr0 hc0
 have HR1 := Aside0.mk hr1
 have HC1 := Aside0.mk hc1
 clear hr1 hc1
 have H : (impl_dot.l0 k l1 0 l0 (l0.length : Int) 0) = some r := h
 clear h
 have H' := Aside0.mk H
 clear H
 go_enter Try.func83, Try.ntmps83
 go_wp2
 go_loopg [5, 10] k (fun kq v5 v10 w' => ∃ (x5_1 : Int) (x10_1 : Int), v5 = .int .i64 x5_1 ∧ v10 = .int .i64 x10_1 ∧ Aside0 (impl_dot.l0 kq l1 x5_1 l0 (l0.length : Int) x10_1 = some r) ∧ Aside0 (kq ≤ k) ∧ Drawn0 w w')
 case atStart => exact ⟨(0), (0), eqF, eqF, H', ⟨Nat.le_refl _⟩, by repeat (first | exact Drawn0.refl _ | apply Drawn0.step)⟩
 case round =>
  clear H'
  obtain ⟨x5_1, x10_1, rfl, rfl, HA, HK1, ⟨m1, rfl⟩⟩ := hrel
  cases gk with
  | zero => exact absurd HA.out (by simp [impl_dot.l0])
  | succ k1 =>
   have H := HA.out
   clear HA
   simp only [impl_dot.l0] at H
   by_cases c3 : x10_1 < (l0.length : Int)
   rotate_left
   ·rw [if_neg c3] at H
    have c3b0 := decide_eq_false c3
    clear c3
    obtain rfl := Option.some.inj H
    go_wp2
    go_ret
    exact ⟨eqD, drE⟩
   rw [if_pos c3] at H
   have c3b0 := decide_eq_true c3
   clear c3
   replace H := ifD H; obtain ⟨c4b0, H⟩ := H
   replace H := ifD H; obtain ⟨c5b0, H⟩ := H
   replace H := ifD H; obtain ⟨c6b0, H⟩ := H
   have H' := Aside0.mk H
   clear H
   have p499 : 0 ≤ (x10_1 : Int) := odE
   have q499 : x10_1 < (l0.length : Int) := odE
   obtain ⟨ad499, e499, hx499_0⟩ := Kd.at_int HR0.out x10_1 p499 q499
   cases e499
   replace p499 := eq_true p499
   replace q499 := eq_true q499
   have p500 : 0 ≤ (x10_1 : Int) := odE
   have q500 : x10_1 < (l1.length : Int) := odE
   obtain ⟨ad500, e500, hx500_0⟩ := Kd.at_int HR1.out x10_1 p500 q500
   cases e500
   replace p500 := eq_true p500
   replace q500 := eq_true q500
   go_wp2
   go_roundg k1
   case measure => have := HK1.out; omega
   case rel => exact ⟨(wrap64 (x5_1 + (wrap64 ((rd l0 x10_1) * (rd l1 x10_1))))), (wrap64 (x10_1 + 1)), eqF, eqF, H', ⟨by have := HK1.out; omega⟩, by repeat (first | exact Drawn0.refl _ | apply Drawn0.step)⟩
def impl_condition_meets.f (k : Nat) (l0_0 : List Int) (a0_1 : Int) (a0_2 : Bool) (l1 : List Int) : Option (Int) := if 0 ≤ (l0_0.length : Int) then (if (l0_0.length : Int) ≤ (l1.length : Int) then ((impl_dot.f k l0_0 (l1.take ((l0_0.length : Int) : Int).toNat)).bind fun t503 => (if (l0_0.length : Int) < (l1.length : Int) then (if (wrap64 (t503 - (wrap64 (a0_1 * (rd l1 (l0_0.length : Int)))))) = 0 then (some 0) else (if ((decide ((wrap64 (t503 - (wrap64 (a0_1 * (rd l1 (l0_0.length : Int)))))) > 0)) == a0_2) = true then (some 1) else (some (-1)))) else (none))) else (none)) else (none)
theorem impl_condition_meets.mono : ∀ a0 a1 a2 a3 k, LeO (impl_condition_meets.f k a0 a1 a2 a3) (impl_condition_meets.f (k + 1) a0 a1 a2 a3) := by
 intro a0 a1 a2 a3 k
 unfold impl_condition_meets.f
 repeat' first
   | (with_reducible exact impl_dot.mono ..)
   | (with_reducible exact LeO.refl _)
   | (with_reducible exact LeO.none _)
   | (with_reducible refine LeO.ite ?_ ?_)
   | (with_reducible refine LeO.bind ?_ (fun _ => ?_))
theorem impl_condition_meets.calls (k : Nat) (A0_0 : Option Addr) (c0_0 : Nat) (l0_0 : List Int) (a0_1 : Int) (a0_2 : Bool) (A1 : Option Addr) (c1 : Nat) (l1 : List Int) (r : Int) (w : World) (hr0_0 : Kd.C (Kd.int .i64) w A0_0 l0_0.length l0_0) (hc0_0 : l0_0.length ≤ c0_0) (hr1 : Kd.C (Kd.int .i64) w A1 l1.length l1) (hc1 : l1.length ≤ c1) (h : impl_condition_meets.f k l0_0 a0_1 a0_2 l1 = some r) :
  Calls Try.prog 65 #[.agg #[.slice A0_0 l0_0.length c0_0, .int .i64 a0_1, .bool a0_2], .slice A1 l1.length c1] w fun e w' => e = .returned (.int .i64 r) ∧ Below w.heap.size w w' := by
 have hu70 := Try.underlying70
 have HR0_0 := Aside0.mk hr0_0
 have HC0_0 := Aside0.mk hc0_0
 clear hr0_0 hc0_0
 have HR1 := Aside0.mk hr1
 have HC1 := Aside0.mk hc1
 clear hr1 hc1
 have HB := Aside0.mk (Below.refl w.heap.size w)
 have H : (if 0 ≤ (l0_0.length : Int) then (if (l0_0.length : Int) ≤ (l1.length : Int) then ((impl_dot.f k l0_0 (l1.take ((l0_0.length : Int) : Int).toNat)).bind fun t503 => (if (l0_0.length : Int) < (l1.length : Int) then (if (wrap64 (t503 - (wrap64 (a0_1 * (rd l1 (l0_0.length : Int)))))) = 0 then (some 0) else (if ((decide ((wrap64 (t503 - (wrap64 (a0_1 * (rd l1 (l0_0.length : Int)))))) > 0)) == a0_2) = true then (some 1) else (some (-1)))) else (none))) else (none)) else (none)) = some r := h
 clear h
 by_cases c3 : 0 ≤ (l0_0.length : Int)
 rotate_left
 ·rw [if_neg c3] at H
  exact absurd H (by simp)
 rw [if_pos c3] at H
 have c3b0 := eq_true c3
 have c3b1 := decide_eq_true c3
 clear c3
 replace H := ifP H; obtain ⟨c4, H⟩ := H
 have c4b0 := eq_true c4
 have c4b1 := decide_eq_true c4
 clear c4
 replace H := bindA H; obtain ⟨t503, A5, H⟩ := H
 replace H := ifP H; obtain ⟨c6, H⟩ := H
 have c6b0 := decide_eq_true c6
 have c6b1 : decide (l0_0.length < l1.length) = true := decide_eq_true (Int.ofNat_lt.mp c6)
 clear c6
 by_cases c7 : (wrap64 (t503 - (wrap64 (a0_1 * (rd l1 (l0_0.length : Int)))))) = 0
 ·rw [if_pos c7] at H
  have c7b0 := eqb1 c7
  have c7b1 := eqb2 c7
  clear c7
  obtain rfl := Option.some.inj H
  go_enter Try.func65, Try.ntmps65
  go_wp2_with (first | ((with_reducible refine gate_dst (N := 2) rfl ?_); refine bE 2 #[.slice A0_0 l0_0.length c0_0, .int .i64 a0_1, .bool a0_2] 70 ?_; intro gb501 hg w8 hbox hb; have BK501 := am (hbox); have GW501 := am ((by rw [hg]; exact (below_size (mb HB.out)) : w.heap.size ≤ gb501)); have GE501 := GW501; replace HB := am (below_step (mb HB.out) hb); clear hb hbox hg; have hcz9_0 := cell0 BK501.out; have hcz9_1 := cell1 BK501.out; have hcz9_2 := cell2 BK501.out; have hfz9_0 := blk_frozen BK501.out 0; have hfz9_1 := blk_frozen BK501.out 1; have hfz9_2 := blk_frozen BK501.out 2; obtain ⟨i010, hi010, _, hsz10, _⟩ := info_parts info3; obtain ⟨hcut10, hA10, hC10⟩ := print_take_of (P := Try.prog) (Value.int .i64) 0 38 3 .i64 Try.underlying38 hi010 hsz10 A1 c1 l1 (l0_0.length : Int) (odE) (odE) HC1.out; have HR502 := Aside0.mk (Kd.C_of_reads (h1 := fun _ => rfl) (hA10 _ (Kd.reads_of_C HR1.out))); have HC502 := Aside0.mk hC10; clear hA10 hC10 hi010 hsz10; have p504 : 0 ≤ ((l0_0.length : Int) : Int) := odE; have q504 : (l0_0.length : Int) < (l1.length : Int) := odE; obtain ⟨ad504, e504, hx504_0⟩ := Kd.at_int HR1.out (l0_0.length : Int) p504 q504; cases e504; replace hx504_0 := (HB.out.cell (World.block_lt_of_cell? w _ hx504_0)).trans hx504_0; (try simp only [Go.IntWalk.toNatUp] at hx504_0); replace p504 := eq_true p504; replace q504 := eq_true q504) | (go_at_call 83; (try rw [show min l0_0.length l1.length = (l1.take ((l0_0.length : Int) : Int).toNat).length from by rw [List.length_take]; rfl]); (with_reducible refine (impl_dot.calls k _ _ l0_0 _ _ (l1.take ((l0_0.length : Int) : Int).toNat) t503 _ ?side1 ?side2 ?side3 ?side4 A5.out).mono ?_); (case side1 => exact mvC (Kd.C_below HR0_0.out HB.out)); (case side2 => exact HC0_0.out); (case side3 => exact mvC (Kd.C_below HR502.out HB.out)); (case side4 => exact HC502.out); rintro e w' ⟨rfl, ⟨nd, rfl⟩⟩; (try first | exact ⟨rfl, _, World.drewN_drewN _ _ _⟩ | exact ⟨rfl, _, Eq.trans (World.drewN_drewN _ _ _) (congrArg (World.drewN _) (Nat.add_assoc _ _ _))⟩)))
  repeat (go_quiet (first | ((with_reducible refine gate_dst (N := 2) rfl ?_); refine bE 2 #[.slice A0_0 l0_0.length c0_0, .int .i64 a0_1, .bool a0_2] 70 ?_; intro gb501 hg w8 hbox hb; have BK501 := am (hbox); have GW501 := am ((by rw [hg]; exact (below_size (mb HB.out)) : w.heap.size ≤ gb501)); have GE501 := GW501; replace HB := am (below_step (mb HB.out) hb); clear hb hbox hg; have hcz9_0 := cell0 BK501.out; have hcz9_1 := cell1 BK501.out; have hcz9_2 := cell2 BK501.out; have hfz9_0 := blk_frozen BK501.out 0; have hfz9_1 := blk_frozen BK501.out 1; have hfz9_2 := blk_frozen BK501.out 2; obtain ⟨i010, hi010, _, hsz10, _⟩ := info_parts info3; obtain ⟨hcut10, hA10, hC10⟩ := print_take_of (P := Try.prog) (Value.int .i64) 0 38 3 .i64 Try.underlying38 hi010 hsz10 A1 c1 l1 (l0_0.length : Int) (odE) (odE) HC1.out; have HR502 := Aside0.mk (Kd.C_of_reads (h1 := fun _ => rfl) (hA10 _ (Kd.reads_of_C HR1.out))); have HC502 := Aside0.mk hC10; clear hA10 hC10 hi010 hsz10; have p504 : 0 ≤ ((l0_0.length : Int) : Int) := odE; have q504 : (l0_0.length : Int) < (l1.length : Int) := odE; obtain ⟨ad504, e504, hx504_0⟩ := Kd.at_int HR1.out (l0_0.length : Int) p504 q504; cases e504; replace hx504_0 := (HB.out.cell (World.block_lt_of_cell? w _ hx504_0)).trans hx504_0; (try simp only [Go.IntWalk.toNatUp] at hx504_0); replace p504 := eq_true p504; replace q504 := eq_true q504) | (go_at_call 83; (try rw [show min l0_0.length l1.length = (l1.take ((l0_0.length : Int) : Int).toNat).length from by rw [List.length_take]; rfl]); (with_reducible refine (impl_dot.calls k _ _ l0_0 _ _ (l1.take ((l0_0.length : Int) : Int).toNat) t503 _ ?side1 ?side2 ?side3 ?side4 A5.out).mono ?_); (case side1 => exact mvC (Kd.C_below HR0_0.out HB.out)); (case side2 => exact HC0_0.out); (case side3 => exact mvC (Kd.C_below HR502.out HB.out)); (case side4 => exact HC502.out); rintro e w' ⟨rfl, ⟨nd, rfl⟩⟩; (try first | exact ⟨rfl, _, World.drewN_drewN _ _ _⟩ | exact ⟨rfl, _, Eq.trans (World.drewN_drewN _ _ _) (congrArg (World.drewN _) (Nat.add_assoc _ _ _))⟩))); try go_wp2_with (first | ((with_reducible refine gate_dst (N := 2) rfl ?_); refine bE 2 #[.slice A0_0 l0_0.length c0_0, .int .i64 a0_1, .bool a0_2] 70 ?_; intro gb501 hg w8 hbox hb; have BK501 := am (hbox); have GW501 := am ((by rw [hg]; exact (below_size (mb HB.out)) : w.heap.size ≤ gb501)); have GE501 := GW501; replace HB := am (below_step (mb HB.out) hb); clear hb hbox hg; have hcz9_0 := cell0 BK501.out; have hcz9_1 := cell1 BK501.out; have hcz9_2 := cell2 BK501.out; have hfz9_0 := blk_frozen BK501.out 0; have hfz9_1 := blk_frozen BK501.out 1; have hfz9_2 := blk_frozen BK501.out 2; obtain ⟨i010, hi010, _, hsz10, _⟩ := info_parts info3; obtain ⟨hcut10, hA10, hC10⟩ := print_take_of (P := Try.prog) (Value.int .i64) 0 38 3 .i64 Try.underlying38 hi010 hsz10 A1 c1 l1 (l0_0.length : Int) (odE) (odE) HC1.out; have HR502 := Aside0.mk (Kd.C_of_reads (h1 := fun _ => rfl) (hA10 _ (Kd.reads_of_C HR1.out))); have HC502 := Aside0.mk hC10; clear hA10 hC10 hi010 hsz10; have p504 : 0 ≤ ((l0_0.length : Int) : Int) := odE; have q504 : (l0_0.length : Int) < (l1.length : Int) := odE; obtain ⟨ad504, e504, hx504_0⟩ := Kd.at_int HR1.out (l0_0.length : Int) p504 q504; cases e504; replace hx504_0 := (HB.out.cell (World.block_lt_of_cell? w _ hx504_0)).trans hx504_0; (try simp only [Go.IntWalk.toNatUp] at hx504_0); replace p504 := eq_true p504; replace q504 := eq_true q504) | (go_at_call 83; (try rw [show min l0_0.length l1.length = (l1.take ((l0_0.length : Int) : Int).toNat).length from by rw [List.length_take]; rfl]); (with_reducible refine (impl_dot.calls k _ _ l0_0 _ _ (l1.take ((l0_0.length : Int) : Int).toNat) t503 _ ?side1 ?side2 ?side3 ?side4 A5.out).mono ?_); (case side1 => exact mvC (Kd.C_below HR0_0.out HB.out)); (case side2 => exact HC0_0.out); (case side3 => exact mvC (Kd.C_below HR502.out HB.out)); (case side4 => exact HC502.out); rintro e w' ⟨rfl, ⟨nd, rfl⟩⟩; (try first | exact ⟨rfl, _, World.drewN_drewN _ _ _⟩ | exact ⟨rfl, _, Eq.trans (World.drewN_drewN _ _ _) (congrArg (World.drewN _) (Nat.add_assoc _ _ _))⟩))))
  go_ret
  exact ⟨eqE, mb HB.out⟩
 rw [if_neg c7] at H
 have c7b0 := neb1 c7
 have c7b1 := neb2 c7
 by_cases c11 : ((decide ((wrap64 (t503 - (wrap64 (a0_1 * (rd l1 (l0_0.length : Int)))))) > 0)) == a0_2) = true
 ·rw [if_pos c11] at H
  have c11b0 : ((decide ((wrap64 (t503 - (wrap64 (a0_1 * (rd l1 (l0_0.length : Int)))))) > 0)) == a0_2) = true := c11
  (try (have c11b1 : decide ((decide ((wrap64 (t503 - (wrap64 (a0_1 * (rd l1 (l0_0.length : Int)))))) > 0)) = a0_2) = true := by simpa using c11))
  (try (have c11b2 : ((decide ((wrap64 (t503 - (wrap64 (a0_1 * (rd l1 (l0_0.length : Int)))))) > 0)) == a0_2) = true := by simpa using c11))
  clear c11
  obtain rfl := Option.some.inj H
  go_enter Try.func65, Try.ntmps65
  go_wp2_with (first | ((with_reducible refine gate_dst (N := 2) rfl ?_); refine bE 2 #[.slice A0_0 l0_0.length c0_0, .int .i64 a0_1, .bool a0_2] 70 ?_; intro gb501 hg w12 hbox hb; have BK501 := am (hbox); have GW501 := am ((by rw [hg]; exact (below_size (mb HB.out)) : w.heap.size ≤ gb501)); have GE501 := GW501; replace HB := am (below_step (mb HB.out) hb); clear hb hbox hg; have hcz13_0 := cell0 BK501.out; have hcz13_1 := cell1 BK501.out; have hcz13_2 := cell2 BK501.out; have hfz13_0 := blk_frozen BK501.out 0; have hfz13_1 := blk_frozen BK501.out 1; have hfz13_2 := blk_frozen BK501.out 2; obtain ⟨i014, hi014, _, hsz14, _⟩ := info_parts info3; obtain ⟨hcut14, hA14, hC14⟩ := print_take_of (P := Try.prog) (Value.int .i64) 0 38 3 .i64 Try.underlying38 hi014 hsz14 A1 c1 l1 (l0_0.length : Int) (odE) (odE) HC1.out; have HR502 := Aside0.mk (Kd.C_of_reads (h1 := fun _ => rfl) (hA14 _ (Kd.reads_of_C HR1.out))); have HC502 := Aside0.mk hC14; clear hA14 hC14 hi014 hsz14; have p504 : 0 ≤ ((l0_0.length : Int) : Int) := odE; have q504 : (l0_0.length : Int) < (l1.length : Int) := odE; obtain ⟨ad504, e504, hx504_0⟩ := Kd.at_int HR1.out (l0_0.length : Int) p504 q504; cases e504; replace hx504_0 := (HB.out.cell (World.block_lt_of_cell? w _ hx504_0)).trans hx504_0; (try simp only [Go.IntWalk.toNatUp] at hx504_0); replace p504 := eq_true p504; replace q504 := eq_true q504) | (go_at_call 83; (try rw [show min l0_0.length l1.length = (l1.take ((l0_0.length : Int) : Int).toNat).length from by rw [List.length_take]; rfl]); (with_reducible refine (impl_dot.calls k _ _ l0_0 _ _ (l1.take ((l0_0.length : Int) : Int).toNat) t503 _ ?side1 ?side2 ?side3 ?side4 A5.out).mono ?_); (case side1 => exact mvC (Kd.C_below HR0_0.out HB.out)); (case side2 => exact HC0_0.out); (case side3 => exact mvC (Kd.C_below HR502.out HB.out)); (case side4 => exact HC502.out); rintro e w' ⟨rfl, ⟨nd, rfl⟩⟩; (try first | exact ⟨rfl, _, World.drewN_drewN _ _ _⟩ | exact ⟨rfl, _, Eq.trans (World.drewN_drewN _ _ _) (congrArg (World.drewN _) (Nat.add_assoc _ _ _))⟩)))
  repeat (go_quiet (first | ((with_reducible refine gate_dst (N := 2) rfl ?_); refine bE 2 #[.slice A0_0 l0_0.length c0_0, .int .i64 a0_1, .bool a0_2] 70 ?_; intro gb501 hg w12 hbox hb; have BK501 := am (hbox); have GW501 := am ((by rw [hg]; exact (below_size (mb HB.out)) : w.heap.size ≤ gb501)); have GE501 := GW501; replace HB := am (below_step (mb HB.out) hb); clear hb hbox hg; have hcz13_0 := cell0 BK501.out; have hcz13_1 := cell1 BK501.out; have hcz13_2 := cell2 BK501.out; have hfz13_0 := blk_frozen BK501.out 0; have hfz13_1 := blk_frozen BK501.out 1; have hfz13_2 := blk_frozen BK501.out 2; obtain ⟨i014, hi014, _, hsz14, _⟩ := info_parts info3; obtain ⟨hcut14, hA14, hC14⟩ := print_take_of (P := Try.prog) (Value.int .i64) 0 38 3 .i64 Try.underlying38 hi014 hsz14 A1 c1 l1 (l0_0.length : Int) (odE) (odE) HC1.out; have HR502 := Aside0.mk (Kd.C_of_reads (h1 := fun _ => rfl) (hA14 _ (Kd.reads_of_C HR1.out))); have HC502 := Aside0.mk hC14; clear hA14 hC14 hi014 hsz14; have p504 : 0 ≤ ((l0_0.length : Int) : Int) := odE; have q504 : (l0_0.length : Int) < (l1.length : Int) := odE; obtain ⟨ad504, e504, hx504_0⟩ := Kd.at_int HR1.out (l0_0.length : Int) p504 q504; cases e504; replace hx504_0 := (HB.out.cell (World.block_lt_of_cell? w _ hx504_0)).trans hx504_0; (try simp only [Go.IntWalk.toNatUp] at hx504_0); replace p504 := eq_true p504; replace q504 := eq_true q504) | (go_at_call 83; (try rw [show min l0_0.length l1.length = (l1.take ((l0_0.length : Int) : Int).toNat).length from by rw [List.length_take]; rfl]); (with_reducible refine (impl_dot.calls k _ _ l0_0 _ _ (l1.take ((l0_0.length : Int) : Int).toNat) t503 _ ?side1 ?side2 ?side3 ?side4 A5.out).mono ?_); (case side1 => exact mvC (Kd.C_below HR0_0.out HB.out)); (case side2 => exact HC0_0.out); (case side3 => exact mvC (Kd.C_below HR502.out HB.out)); (case side4 => exact HC502.out); rintro e w' ⟨rfl, ⟨nd, rfl⟩⟩; (try first | exact ⟨rfl, _, World.drewN_drewN _ _ _⟩ | exact ⟨rfl, _, Eq.trans (World.drewN_drewN _ _ _) (congrArg (World.drewN _) (Nat.add_assoc _ _ _))⟩))); try go_wp2_with (first | ((with_reducible refine gate_dst (N := 2) rfl ?_); refine bE 2 #[.slice A0_0 l0_0.length c0_0, .int .i64 a0_1, .bool a0_2] 70 ?_; intro gb501 hg w12 hbox hb; have BK501 := am (hbox); have GW501 := am ((by rw [hg]; exact (below_size (mb HB.out)) : w.heap.size ≤ gb501)); have GE501 := GW501; replace HB := am (below_step (mb HB.out) hb); clear hb hbox hg; have hcz13_0 := cell0 BK501.out; have hcz13_1 := cell1 BK501.out; have hcz13_2 := cell2 BK501.out; have hfz13_0 := blk_frozen BK501.out 0; have hfz13_1 := blk_frozen BK501.out 1; have hfz13_2 := blk_frozen BK501.out 2; obtain ⟨i014, hi014, _, hsz14, _⟩ := info_parts info3; obtain ⟨hcut14, hA14, hC14⟩ := print_take_of (P := Try.prog) (Value.int .i64) 0 38 3 .i64 Try.underlying38 hi014 hsz14 A1 c1 l1 (l0_0.length : Int) (odE) (odE) HC1.out; have HR502 := Aside0.mk (Kd.C_of_reads (h1 := fun _ => rfl) (hA14 _ (Kd.reads_of_C HR1.out))); have HC502 := Aside0.mk hC14; clear hA14 hC14 hi014 hsz14; have p504 : 0 ≤ ((l0_0.length : Int) : Int) := odE; have q504 : (l0_0.length : Int) < (l1.length : Int) := odE; obtain ⟨ad504, e504, hx504_0⟩ := Kd.at_int HR1.out (l0_0.length : Int) p504 q504; cases e504; replace hx504_0 := (HB.out.cell (World.block_lt_of_cell? w _ hx504_0)).trans hx504_0; (try simp only [Go.IntWalk.toNatUp] at hx504_0); replace p504 := eq_true p504; replace q504 := eq_true q504) | (go_at_call 83; (try rw [show min l0_0.length l1.length = (l1.take ((l0_0.length : Int) : Int).toNat).length from by rw [List.length_take]; rfl]); (with_reducible refine (impl_dot.calls k _ _ l0_0 _ _ (l1.take ((l0_0.length : Int) : Int).toNat) t503 _ ?side1 ?side2 ?side3 ?side4 A5.out).mono ?_); (case side1 => exact mvC (Kd.C_below HR0_0.out HB.out)); (case side2 => exact HC0_0.out); (case side3 => exact mvC (Kd.C_below HR502.out HB.out)); (case side4 => exact HC502.out); rintro e w' ⟨rfl, ⟨nd, rfl⟩⟩; (try first | exact ⟨rfl, _, World.drewN_drewN _ _ _⟩ | exact ⟨rfl, _, Eq.trans (World.drewN_drewN _ _ _) (congrArg (World.drewN _) (Nat.add_assoc _ _ _))⟩))))
  go_ret
  exact ⟨eqE, mb HB.out⟩
 rw [if_neg c11] at H
 have c11b0 : ((decide ((wrap64 (t503 - (wrap64 (a0_1 * (rd l1 (l0_0.length : Int)))))) > 0)) == a0_2) = false := by simpa using c11
 (try (have c11b1 : decide ((decide ((wrap64 (t503 - (wrap64 (a0_1 * (rd l1 (l0_0.length : Int)))))) > 0)) = a0_2) = false := by simpa using c11))
 (try (have c11b2 : ((decide ((wrap64 (t503 - (wrap64 (a0_1 * (rd l1 (l0_0.length : Int)))))) > 0)) == a0_2) = false := by simpa using c11))
 (try (have c11b3 : ¬ ((decide ((wrap64 (t503 - (wrap64 (a0_1 * (rd l1 (l0_0.length : Int)))))) > 0)) = a0_2) := by simpa using c11))
 clear c11
 obtain rfl := Option.some.inj H
 go_enter Try.func65, Try.ntmps65
 go_wp2_with (first | ((with_reducible refine gate_dst (N := 2) rfl ?_); refine bE 2 #[.slice A0_0 l0_0.length c0_0, .int .i64 a0_1, .bool a0_2] 70 ?_; intro gb501 hg w15 hbox hb; have BK501 := am (hbox); have GW501 := am ((by rw [hg]; exact (below_size (mb HB.out)) : w.heap.size ≤ gb501)); have GE501 := GW501; replace HB := am (below_step (mb HB.out) hb); clear hb hbox hg; have hcz16_0 := cell0 BK501.out; have hcz16_1 := cell1 BK501.out; have hcz16_2 := cell2 BK501.out; have hfz16_0 := blk_frozen BK501.out 0; have hfz16_1 := blk_frozen BK501.out 1; have hfz16_2 := blk_frozen BK501.out 2; obtain ⟨i017, hi017, _, hsz17, _⟩ := info_parts info3; obtain ⟨hcut17, hA17, hC17⟩ := print_take_of (P := Try.prog) (Value.int .i64) 0 38 3 .i64 Try.underlying38 hi017 hsz17 A1 c1 l1 (l0_0.length : Int) (odE) (odE) HC1.out; have HR502 := Aside0.mk (Kd.C_of_reads (h1 := fun _ => rfl) (hA17 _ (Kd.reads_of_C HR1.out))); have HC502 := Aside0.mk hC17; clear hA17 hC17 hi017 hsz17; have p504 : 0 ≤ ((l0_0.length : Int) : Int) := odE; have q504 : (l0_0.length : Int) < (l1.length : Int) := odE; obtain ⟨ad504, e504, hx504_0⟩ := Kd.at_int HR1.out (l0_0.length : Int) p504 q504; cases e504; replace hx504_0 := (HB.out.cell (World.block_lt_of_cell? w _ hx504_0)).trans hx504_0; (try simp only [Go.IntWalk.toNatUp] at hx504_0); replace p504 := eq_true p504; replace q504 := eq_true q504) | (go_at_call 83; (try rw [show min l0_0.length l1.length = (l1.take ((l0_0.length : Int) : Int).toNat).length from by rw [List.length_take]; rfl]); (with_reducible refine (impl_dot.calls k _ _ l0_0 _ _ (l1.take ((l0_0.length : Int) : Int).toNat) t503 _ ?side1 ?side2 ?side3 ?side4 A5.out).mono ?_); (case side1 => exact mvC (Kd.C_below HR0_0.out HB.out)); (case side2 => exact HC0_0.out); (case side3 => exact mvC (Kd.C_below HR502.out HB.out)); (case side4 => exact HC502.out); rintro e w' ⟨rfl, ⟨nd, rfl⟩⟩; (try first | exact ⟨rfl, _, World.drewN_drewN _ _ _⟩ | exact ⟨rfl, _, Eq.trans (World.drewN_drewN _ _ _) (congrArg (World.drewN _) (Nat.add_assoc _ _ _))⟩)))
 repeat (go_quiet (first | ((with_reducible refine gate_dst (N := 2) rfl ?_); refine bE 2 #[.slice A0_0 l0_0.length c0_0, .int .i64 a0_1, .bool a0_2] 70 ?_; intro gb501 hg w15 hbox hb; have BK501 := am (hbox); have GW501 := am ((by rw [hg]; exact (below_size (mb HB.out)) : w.heap.size ≤ gb501)); have GE501 := GW501; replace HB := am (below_step (mb HB.out) hb); clear hb hbox hg; have hcz16_0 := cell0 BK501.out; have hcz16_1 := cell1 BK501.out; have hcz16_2 := cell2 BK501.out; have hfz16_0 := blk_frozen BK501.out 0; have hfz16_1 := blk_frozen BK501.out 1; have hfz16_2 := blk_frozen BK501.out 2; obtain ⟨i017, hi017, _, hsz17, _⟩ := info_parts info3; obtain ⟨hcut17, hA17, hC17⟩ := print_take_of (P := Try.prog) (Value.int .i64) 0 38 3 .i64 Try.underlying38 hi017 hsz17 A1 c1 l1 (l0_0.length : Int) (odE) (odE) HC1.out; have HR502 := Aside0.mk (Kd.C_of_reads (h1 := fun _ => rfl) (hA17 _ (Kd.reads_of_C HR1.out))); have HC502 := Aside0.mk hC17; clear hA17 hC17 hi017 hsz17; have p504 : 0 ≤ ((l0_0.length : Int) : Int) := odE; have q504 : (l0_0.length : Int) < (l1.length : Int) := odE; obtain ⟨ad504, e504, hx504_0⟩ := Kd.at_int HR1.out (l0_0.length : Int) p504 q504; cases e504; replace hx504_0 := (HB.out.cell (World.block_lt_of_cell? w _ hx504_0)).trans hx504_0; (try simp only [Go.IntWalk.toNatUp] at hx504_0); replace p504 := eq_true p504; replace q504 := eq_true q504) | (go_at_call 83; (try rw [show min l0_0.length l1.length = (l1.take ((l0_0.length : Int) : Int).toNat).length from by rw [List.length_take]; rfl]); (with_reducible refine (impl_dot.calls k _ _ l0_0 _ _ (l1.take ((l0_0.length : Int) : Int).toNat) t503 _ ?side1 ?side2 ?side3 ?side4 A5.out).mono ?_); (case side1 => exact mvC (Kd.C_below HR0_0.out HB.out)); (case side2 => exact HC0_0.out); (case side3 => exact mvC (Kd.C_below HR502.out HB.out)); (case side4 => exact HC502.out); rintro e w' ⟨rfl, ⟨nd, rfl⟩⟩; (try first | exact ⟨rfl, _, World.drewN_drewN _ _ _⟩ | exact ⟨rfl, _, Eq.trans (World.drewN_drewN _ _ _) (congrArg (World.drewN _) (Nat.add_assoc _ _ _))⟩))); try go_wp2_with (first | ((with_reducible refine gate_dst (N := 2) rfl ?_); refine bE 2 #[.slice A0_0 l0_0.length c0_0, .int .i64 a0_1, .bool a0_2] 70 ?_; intro gb501 hg w15 hbox hb; have BK501 := am (hbox); have GW501 := am ((by rw [hg]; exact (below_size (mb HB.out)) : w.heap.size ≤ gb501)); have GE501 := GW501; replace HB := am (below_step (mb HB.out) hb); clear hb hbox hg; have hcz16_0 := cell0 BK501.out; have hcz16_1 := cell1 BK501.out; have hcz16_2 := cell2 BK501.out; have hfz16_0 := blk_frozen BK501.out 0; have hfz16_1 := blk_frozen BK501.out 1; have hfz16_2 := blk_frozen BK501.out 2; obtain ⟨i017, hi017, _, hsz17, _⟩ := info_parts info3; obtain ⟨hcut17, hA17, hC17⟩ := print_take_of (P := Try.prog) (Value.int .i64) 0 38 3 .i64 Try.underlying38 hi017 hsz17 A1 c1 l1 (l0_0.length : Int) (odE) (odE) HC1.out; have HR502 := Aside0.mk (Kd.C_of_reads (h1 := fun _ => rfl) (hA17 _ (Kd.reads_of_C HR1.out))); have HC502 := Aside0.mk hC17; clear hA17 hC17 hi017 hsz17; have p504 : 0 ≤ ((l0_0.length : Int) : Int) := odE; have q504 : (l0_0.length : Int) < (l1.length : Int) := odE; obtain ⟨ad504, e504, hx504_0⟩ := Kd.at_int HR1.out (l0_0.length : Int) p504 q504; cases e504; replace hx504_0 := (HB.out.cell (World.block_lt_of_cell? w _ hx504_0)).trans hx504_0; (try simp only [Go.IntWalk.toNatUp] at hx504_0); replace p504 := eq_true p504; replace q504 := eq_true q504) | (go_at_call 83; (try rw [show min l0_0.length l1.length = (l1.take ((l0_0.length : Int) : Int).toNat).length from by rw [List.length_take]; rfl]); (with_reducible refine (impl_dot.calls k _ _ l0_0 _ _ (l1.take ((l0_0.length : Int) : Int).toNat) t503 _ ?side1 ?side2 ?side3 ?side4 A5.out).mono ?_); (case side1 => exact mvC (Kd.C_below HR0_0.out HB.out)); (case side2 => exact HC0_0.out); (case side3 => exact mvC (Kd.C_below HR502.out HB.out)); (case side4 => exact HC502.out); rintro e w' ⟨rfl, ⟨nd, rfl⟩⟩; (try first | exact ⟨rfl, _, World.drewN_drewN _ _ _⟩ | exact ⟨rfl, _, Eq.trans (World.drewN_drewN _ _ _) (congrArg (World.drewN _) (Nat.add_assoc _ _ _))⟩))))
 go_ret
 exact ⟨eqE, mb HB.out⟩
def outAt (k : Nat) (l : List S70) (p : List Int) (j : Nat) : Option Int := impl_condition_meets.f k (rd_T70 l (j : Int)).f0 (rd_T70 l (j : Int)).f1 (rd_T70 l (j : Int)).f2 p
def impl_someOut.f (k : Nat) (l : List S70) (p : List Int) : Option Bool := if ((List.range' 0 l.length).all fun j => (outAt k l p j).isSome) = true then some ((List.range' 0 l.length).any fun j => decide ((outAt k l p j).getD 0 < 0)) else none
theorem outAt_mono (k : Nat) (l : List S70) (p : List Int) (j : Nat) (h : (outAt k l p j).isSome = true) : outAt (k + 1) l p j = outAt k l p j := by
 obtain ⟨v, hv⟩ := Option.isSome_iff_exists.mp h
 rw [hv]
 exact impl_condition_meets.mono _ _ _ _ k _ hv
theorem all_any_same (F G : Nat → Option Int) : ∀ L : List Nat, (∀ j ∈ L, (F j).isSome = true → G j = F j) → (L.all fun j => (F j).isSome) = true → (L.all fun j => (G j).isSome) = true ∧ (L.any fun j => decide ((G j).getD 0 < 0)) = (L.any fun j => decide ((F j).getD 0 < 0))
 | [], _, _ => ⟨rfl, rfl⟩
 | a :: L, h, ha => by
  simp only [List.all_cons, Bool.and_eq_true] at ha ⊢
  have e := h a (by simp) ha.1
  have ih := all_any_same F G L (fun j hj => h j (by simp [hj])) ha.2
  simp only [List.any_cons, e, ih.2]
  exact ⟨⟨ha.1, ih.1⟩, trivial⟩
theorem impl_someOut.mono : ∀ l p k, LeO (impl_someOut.f k l p) (impl_someOut.f (k + 1) l p) := by
 intro l p k r h
 unfold impl_someOut.f at h ⊢
 by_cases c : ((List.range' 0 l.length).all fun j => (outAt k l p j).isSome) = true
 rotate_left
 ·rw [if_neg c] at h
  cases h
 rw [if_pos c] at h
 obtain ⟨a, b⟩ := all_any_same (outAt k l p) (outAt (k + 1) l p) _ (fun j _ hs => outAt_mono k l p j hs) c
 rw [if_pos a, b]
 exact h
theorem corners1_calls (k : Nat) (x : S70) (A : Option Addr) (cc : Nat) (G : Nat) (A1 : Option Addr) (c1 : Nat) (p : List Int) (v : Int) (w W : World) (hb : Below w.heap.size w W) (hx : w.cell? ⟨G, 0, none⟩ = some (.slice A1 p.length c1)) (hp : Kd.C (Kd.int .i64) w A1 p.length p) (hc : p.length ≤ c1) (hl : x.f0.length ≤ cc) (hr : Kd.C (Kd.int .i64) w A x.f0.length x.f0) (h : impl_condition_meets.f k x.f0 x.f1 x.f2 p = some v) :
  Calls Try.prog 64 #[.agg #[.slice A x.f0.length cc, .int .i64 x.f1, .bool x.f2], .pointer (some ⟨G, 0, none⟩)] W fun e w' => e = .returned (.bool (decide (v < 0))) ∧ Below w.heap.size w w' := by
 have hu := Try.underlying70
 have hx' := (hb.cell (World.block_lt_of_cell? w _ hx)).trans hx
 have HX := Aside0.mk hx'
 have HB := Aside0.mk hb
 have HW := Aside0.mk hb.size
 have hcon := fun (W1 : World) (hb1 : Below w.heap.size w W1) => impl_condition_meets.calls k A cc x.f0 x.f1 x.f2 A1 c1 p v W1 (Kd.C_below hr hb1) hl (Kd.C_below hp hb1) hc h
 have HK := Aside0.mk hcon
 clear hx hp hc hl hr h hb hx' hcon
 go_enter Try.func64, Try.ntmps64
 go_wp2_with (first
  | ((with_reducible refine gate_dst (N := 2) rfl ?_); refine bE 2 #[.slice A x.f0.length cc, .int .i64 x.f1, .bool x.f2] 70 ?_; intro gb hg w8 hbox hb; have HB8 := Aside0.mk (HB.out.trans (hb.mono HW.out)); have hx8 := (hb.cell (World.block_lt_of_cell? W _ HX.out)).trans HX.out; have hz0 : w8.cell? ⟨gb, 0, none⟩ = some (.slice A x.f0.length cc) := (blk_cell hbox 0).trans rfl; have hz1 : w8.cell? ⟨gb, 1, none⟩ = some (.int .i64 x.f1) := (blk_cell hbox 1).trans rfl; have hz2 : w8.cell? ⟨gb, 2, none⟩ = some (.bool x.f2) := (blk_cell hbox 2).trans rfl; clear hb hbox hg)
  | (go_at_call 65; refine (HK.out _ HB8.out).mono ?_; rintro e w' ⟨rfl, hb'⟩; have HB9 := Aside0.mk (HB8.out.trans (hb'.mono HB8.out.size)); clear hb'))
 go_ret
 exact ⟨rfl, HB9.out⟩
theorem impl_someOut.calls (k : Nat) (A0 : Option Addr) (c0 : Nat) (l0 : List S70) (G : Nat) (A1 : Option Addr) (c1 : Nat) (p : List Int) (r : Bool) (w : World) (hr0 : Kd.C k70 w A0 l0.length l0) (hc0 : l0.length ≤ c0) (hx : w.cell? ⟨G, 0, none⟩ = some (.slice A1 p.length c1)) (hp : Kd.C (Kd.int .i64) w A1 p.length p) (hc : p.length ≤ c1) (h : impl_someOut.f k l0 p = some r) :
  Calls Try.prog 63 #[.slice A0 l0.length c0, .func (.func 64) #[] #[.pointer (some ⟨G, 0, none⟩)]] w fun e w' => e = .returned (.bool r) ∧ Below w.heap.size w w' := by
 unfold impl_someOut.f at h
 by_cases ca : ((List.range' 0 l0.length).all fun j => (outAt k l0 p j).isSome) = true
 rotate_left
 ·rw [if_neg ca] at h
  cases h
 rw [if_pos ca] at h
 obtain rfl := Option.some.inj h
 refine containsFuncC 64 _ (enters_of Try.func64 (by kernel_rfl) rfl) (fun j => decide ((outAt k l0 p j).getD 0 < 0)) A0 c0 l0 w ?_ hr0
 intro j hj W hb A cc hl hr
 have hs : (outAt k l0 p j).isSome = true := List.all_eq_true.mp ca j (by rw [List.mem_range']; exact ⟨j, hj, by omega⟩)
 obtain ⟨v, hv⟩ := Option.isSome_iff_exists.mp hs
 have := corners1_calls k (rd_T70 l0 (j : Int)) A cc G A1 c1 p v w W hb hx hp hc hl hr hv
 refine this.mono ?_
 rintro e w' ⟨rfl, hb'⟩
 exact ⟨by simp only [hv, Option.getD_some], hb'⟩
def impl_gcd.l0 : Nat → Int → Int → Option (Int)
 | 0, _, _ => none
 | k + 1, x0, x1 => if x1 = 0 then (some x0) else (impl_gcd.l0 k x1 (Int.tmod x0 x1))
def impl_gcd.f (k : Nat) (a0 : Int) (a1 : Int) : Option (Int) := impl_gcd.l0 k a0 a1
theorem impl_gcd.mono_l : ∀ k, (∀ y0 y1, LeO (impl_gcd.l0 k y0 y1) (impl_gcd.l0 (k + 1) y0 y1))
 | 0 => fun _ _ r h => by simp [impl_gcd.l0] at h
 | k + 1 => by
  have ih0 := impl_gcd.mono_l k
  ·intro y0 y1
   unfold impl_gcd.l0
   repeat' first
   | (with_reducible exact ih0 ..)
   | (with_reducible exact LeO.refl _)
   | (with_reducible exact LeO.none _)
   | (with_reducible refine LeO.ite ?_ ?_)
   | (with_reducible refine LeO.bind ?_ (fun _ => ?_))
theorem impl_gcd.mono : ∀ a0 a1 k, LeO (impl_gcd.f k a0 a1) (impl_gcd.f (k + 1) a0 a1) := by
 intro a0 a1 k
 have ih0 := impl_gcd.mono_l k
 unfold impl_gcd.f
 repeat' first
   | (with_reducible exact ih0 ..)
   | (with_reducible exact LeO.refl _)
   | (with_reducible exact LeO.none _)
   | (with_reducible refine LeO.ite ?_ ?_)
   | (with_reducible refine LeO.bind ?_ (fun _ => ?_))
theorem impl_gcd.calls (k : Nat) (a0 : Int) (a1 : Int) (r : Int) (w : World) (h : impl_gcd.f k a0 a1 = some r) :
  Calls Try.prog 84 #[.int .i64 a0, .int .i64 a1] w fun e w' => e = .returned (.int .i64 r) ∧ Drawn0 w w' := by
 have H : (impl_gcd.l0 k a0 a1) = some r := h
 clear h
 have H' := Aside0.mk H
 clear H
 go_enter Try.func84, Try.ntmps84
 go_wp2
 repeat (go_quiet (fail); try go_wp2)
 go_loopg [0, 1] k (fun kq v0 v1 w' => ∃ (x0_1 : Int) (x1_1 : Int), v0 = .int .i64 x0_1 ∧ v1 = .int .i64 x1_1 ∧ Aside0 (impl_gcd.l0 kq x0_1 x1_1 = some r) ∧ Aside0 (kq ≤ k) ∧ Drawn0 w w')
 case atStart => exact ⟨(a0), (a1), eqF, eqF, H', ⟨Nat.le_refl _⟩, by repeat (first | exact Drawn0.refl _ | apply Drawn0.step)⟩
 case round =>
  clear H'
  obtain ⟨x0_1, x1_1, rfl, rfl, HA, HK1, ⟨m1, rfl⟩⟩ := hrel
  cases gk with
  | zero => exact absurd HA.out (by simp [impl_gcd.l0])
  | succ k1 =>
   have H := HA.out
   clear HA
   simp only [impl_gcd.l0] at H
   by_cases c3 : x1_1 = 0
   ·rw [if_pos c3] at H
    have c3b0 := eqb1 c3
    have c3b1 := eqb2 c3
    clear c3
    obtain rfl := Option.some.inj H
    go_wp2
    repeat (go_quiet (fail); try go_wp2)
    go_ret
    exact ⟨eqD, drE⟩
   rw [if_neg c3] at H
   have c3b0 := neb1 c3
   have c3b1 := neb2 c3
   have H' := Aside0.mk H
   clear H
   go_wp2
   repeat (go_quiet (fail); try go_wp2)
   go_roundg k1
   case measure => have := HK1.out; omega
   case rel => exact ⟨(x1_1), (Int.tmod x0_1 x1_1), eqF, eqF, H', ⟨by have := HK1.out; omega⟩, by repeat (first | exact Drawn0.refl _ | apply Drawn0.step)⟩
end Go.Proofs.Ytggiicplcglalaa.All
