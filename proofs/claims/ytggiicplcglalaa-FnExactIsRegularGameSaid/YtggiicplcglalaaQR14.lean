/- Part of the proof that the law FnExactIsRegularGame answers true for all arguments. -/
import Derived.Test.YtggiicplcglalaaQR5
section
namespace Go.Proofs.Ytggiicplcglalaa.All
open Go.RowKit Go.Proofs.YtggiicplcglalaaW.PrintWords Go.Proofs.YtggiicplcglalaaW.PrintLast Go.Proofs.YtggiicplcglalaaW.PrintMore
attribute [local go_sem] max2_int min2_int max_two min_two max_three min_three max_four min_four
set_option linter.unusedVariables false
set_option linter.unusedSimpArgs false
def impl_isPlayer.f (a0 : Int) : Option (Bool) := if a0 = 1 then (some true) else (some (a0 == 2))
def impl_Game_m.f (l0_0 : List (List Int)) (l0_1 : List (List Int)) : Option (Int) := some (l0_0.length : Int)
set_option maxHeartbeats 8000000 in
set_option maxRecDepth 100000 in
theorem impl_Game_m.calls (A0_0 : Option Addr) (c0_0 : Nat) (l0_0 : List (List Int)) (A0_1 : Option Addr) (c0_1 : Nat) (l0_1 : List (List Int)) (r : Int) (w : World) (hr0_0 : Kd.C (Kd.slice 3 (Kd.int .i64)) w A0_0 l0_0.length l0_0) (hc0_0 : l0_0.length ≤ c0_0) (hr0_1 : Kd.C (Kd.slice 3 (Kd.int .i64)) w A0_1 l0_1.length l0_1) (hc0_1 : l0_1.length ≤ c0_1) (h : impl_Game_m.f l0_0 l0_1 = some r) :
  Calls Try.prog 53 #[.agg #[.slice A0_0 l0_0.length c0_0, .slice A0_1 l0_1.length c0_1]] w fun e w' => e = .returned (.int .i64 r) ∧ Below w.heap.size w w' := by
 have hu28 := Try.underlying28
 have HR0_0 := Aside0.mk hr0_0
 have HC0_0 := Aside0.mk hc0_0
 clear hr0_0 hc0_0
 have HR0_1 := Aside0.mk hr0_1
 have HC0_1 := Aside0.mk hc0_1
 clear hr0_1 hc0_1
 have HB := Aside0.mk (Below.refl w.heap.size w)
 have H : (some (l0_0.length : Int)) = some r := h
 clear h
 obtain rfl := Option.some.inj H
 go_enter Try.func53, Try.ntmps53
 go_wp2_with (first | ((with_reducible refine gate_dst (N := 1) rfl ?_); refine box_event ?hg (N := 1) ?hd (cs := #[.slice A0_0 l0_0.length c0_0, .slice A0_1 l0_1.length c0_1]) (t := 28) ?hr ?_; (case hd => rfl); (case hg => rfl); (case hr => first | (go_simp; done) | (go_simp; rfl)); intro gb327 hg w2 hbox hb; have BK327 := am (hbox); have GW327 := am ((by rw [hg]; exact (below_size (mb HB.out)) : w.heap.size ≤ gb327)); have GE327 := am ((by rw [hg]; exact (below_size (mb HB.out)) : w.heap.size ≤ gb327)); replace HB := am (below_step (mb HB.out) hb); clear hb hbox hg; have hcz3_0 := cell0 BK327.out; have hcz3_1 := cell1 BK327.out; have hfz3_0 := blk_frozen BK327.out 0; have hfz3_1 := blk_frozen BK327.out 1))
 go_ret
 exact ⟨eqE, mb HB.out⟩
def impl_Game_n.f (l0_0 : List (List Int)) (l0_1 : List (List Int)) : Option (Int) := if 0 < (l0_0.length : Int) then (some ((rd_L1 l0_0 0).length : Int)) else (none)
set_option maxHeartbeats 8000000 in
set_option maxRecDepth 100000 in
theorem impl_Game_n.calls (A0_0 : Option Addr) (c0_0 : Nat) (l0_0 : List (List Int)) (A0_1 : Option Addr) (c0_1 : Nat) (l0_1 : List (List Int)) (r : Int) (w : World) (hr0_0 : Kd.C (Kd.slice 3 (Kd.int .i64)) w A0_0 l0_0.length l0_0) (hc0_0 : l0_0.length ≤ c0_0) (hr0_1 : Kd.C (Kd.slice 3 (Kd.int .i64)) w A0_1 l0_1.length l0_1) (hc0_1 : l0_1.length ≤ c0_1) (h : impl_Game_n.f l0_0 l0_1 = some r) :
  Calls Try.prog 54 #[.agg #[.slice A0_0 l0_0.length c0_0, .slice A0_1 l0_1.length c0_1]] w fun e w' => e = .returned (.int .i64 r) ∧ Below w.heap.size w w' := by
 have hu28 := Try.underlying28
 have HR0_0 := Aside0.mk hr0_0
 have HC0_0 := Aside0.mk hc0_0
 clear hr0_0 hc0_0
 have HR0_1 := Aside0.mk hr0_1
 have HC0_1 := Aside0.mk hc0_1
 clear hr0_1 hc0_1
 have HB := Aside0.mk (Below.refl w.heap.size w)
 have H : (if 0 < (l0_0.length : Int) then (some ((rd_L1 l0_0 0).length : Int)) else (none)) = some r := h
 clear h
 by_cases c2 : 0 < (l0_0.length : Int)
 ·rw [if_pos c2] at H
  have c2b0 := decide_eq_true c2
  have c2b1 : decide (0 < l0_0.length) = true := decide_eq_true (by omega)
  clear c2
  obtain rfl := Option.some.inj H
  go_enter Try.func54, Try.ntmps54
  go_wp2_with (first | ((with_reducible refine gate_dst (N := 1) rfl ?_); refine box_event ?hg (N := 1) ?hd (cs := #[.slice A0_0 l0_0.length c0_0, .slice A0_1 l0_1.length c0_1]) (t := 28) ?hr ?_; (case hd => rfl); (case hg => rfl); (case hr => first | (go_simp; done) | (go_simp; rfl)); intro gb328 hg w3 hbox hb; have BK328 := am (hbox); have GW328 := am ((by rw [hg]; exact (below_size (mb HB.out)) : w.heap.size ≤ gb328)); have GE328 := am ((by rw [hg]; exact (below_size (mb HB.out)) : w.heap.size ≤ gb328)); replace HB := am (below_step (mb HB.out) hb); clear hb hbox hg; have hcz4_0 := cell0 BK328.out; have hcz4_1 := cell1 BK328.out; have hfz4_0 := blk_frozen BK328.out 0; have hfz4_1 := blk_frozen BK328.out 1; have p329 : 0 ≤ (0 : Int) := (by omega); have q329 : 0 < (l0_0.length : Int) := odE; obtain ⟨ad329, A329_0, c329_0, e329, hx329_0, hl329_0, hi329_0⟩ := at_L1 HR0_0.out 0 p329 q329; cases e329; have qi329 : (0 < l0_0.length) = True := eq_true (by omega); (try rw [show ((0 : Int)).toNat = 0 from rfl] at hx329_0); (try rw [Addr.add_zero'] at hx329_0); replace hx329_0 := (HB.out.cell (World.block_lt_of_cell? w _ hx329_0)).trans hx329_0; have HR329_0 := Aside0.mk hi329_0; have HC329_0 := Aside0.mk hl329_0; clear hi329_0 hl329_0; replace p329 := eq_true p329; replace q329 := eq_true q329))
  go_ret
  exact ⟨eqE, mb HB.out⟩
 ·rw [if_neg c2] at H
  exact absurd H (by simp)
def impl_column.l0 : Nat → Int → List Int → List (List Int) → Int → Int → Option (List Int)
 | 0, _, _, _, _, _ => none
 | k + 1, x1, x5, x9, x10, x11 => if x11 < x10 then (if 0 ≤ x11 then (if x11 < (x9.length : Int) then (if 0 ≤ x1 then (if x1 < ((rd_L1 x9 x11).length : Int) then (if x5.length < 17592186044416 then (impl_column.l0 k x1 (x5 ++ [rd (rd_L1 x9 x11) x1]) x9 x10 (wrap64 (x11 + 1))) else (none)) else (none)) else (none)) else (none)) else (none)) else (some x5)
def impl_column.f (k : Nat) (l0 : List (List Int)) (a1 : Int) : Option (List Int) := impl_column.l0 k a1 (([] : List Int)) l0 (l0.length : Int) 0
theorem impl_column.mono_l : ∀ k, (∀ y0 y1 y2 y3 y4, LeO (impl_column.l0 k y0 y1 y2 y3 y4) (impl_column.l0 (k + 1) y0 y1 y2 y3 y4))
 | 0 => fun _ _ _ _ _ r h => by simp [impl_column.l0] at h
 | k + 1 => by
  have ih0 := impl_column.mono_l k
  ·intro y0 y1 y2 y3 y4
   unfold impl_column.l0
   repeat' first
   | (with_reducible exact ih0 ..)
   | (with_reducible exact LeO.refl _)
   | (with_reducible exact LeO.none _)
   | (with_reducible refine LeO.ite ?_ ?_)
   | (with_reducible refine LeO.bind ?_ (fun _ => ?_))
   | exact ih0 ..
   | exact LeO.none _
   | refine LeO.ite ?_ ?_
   | refine LeO.bind ?_ (fun _ => ?_)
theorem impl_column.mono : ∀ a0 a1 k, LeO (impl_column.f k a0 a1) (impl_column.f (k + 1) a0 a1) := by
 intro a0 a1 k
 have ih0 := impl_column.mono_l k
 unfold impl_column.f
 repeat' first
   | (with_reducible exact ih0 ..)
   | (with_reducible exact LeO.refl _)
   | (with_reducible exact LeO.none _)
   | (with_reducible refine LeO.ite ?_ ?_)
   | (with_reducible refine LeO.bind ?_ (fun _ => ?_))
   | exact ih0 ..
   | exact LeO.none _
   | refine LeO.ite ?_ ?_
   | refine LeO.bind ?_ (fun _ => ?_)
set_option maxHeartbeats 8000000 in
set_option maxRecDepth 100000 in
theorem impl_column.calls (k : Nat) (A0 : Option Addr) (c0 : Nat) (l0 : List (List Int)) (a1 : Int) (r : List Int) (w : World) (hr0 : Kd.C (Kd.slice 3 (Kd.int .i64)) w A0 l0.length l0) (hc0 : l0.length ≤ c0) (h : impl_column.f k l0 a1 = some r) :
  Calls Try.prog 56 #[.slice A0 l0.length c0, .int .i64 a1] w fun e w' => ∃ v0_ : Value, e = .returned (v0_) ∧ Kd.R (Kd.int .i64) 3 w' w.heap.size (fun _ => True) v0_ r ∧ Below w.heap.size w w' := by
 have HR0 := Aside0.mk hr0
 have HC0 := Aside0.mk hc0
 clear hr0 hc0
 have HB := Aside0.mk (Below.refl w.heap.size w)
 have H : (impl_column.l0 k a1 (([] : List Int)) l0 (l0.length : Int) 0) = some r := h
 clear h
 replace H := nameA (([] : List Int)) (fun y330 => (impl_column.l0 k a1 y330 l0 (l0.length : Int) 0) = some r) H; obtain ⟨y330, Ny330, H⟩ := H
 have H' := Aside0.mk H
 clear H
 go_enter Try.func56, Try.ntmps56
 go_wp2_with (first | ((with_reducible refine gate_dst (N := 8) rfl ?_); refine Kd.R_lit (Kd.int .i64) _ 3 ?hg (N := 8) ?hd (xs := ([] : List Int)) (inner := []) (ok := fun _ => True) (okp := fun _ => True) ?hr ?hp (fun _ hk => hk) trivial (Below.refl _ _) (Nat.le_refl _) (by simp) ?_; (case hd => rfl); (case hg => rfl); (case hr => first | (go_simp; done) | (go_simp; rfl)); (case hp => exact (Reps.none _ _)); intro v331 w3 ho4 hb hg_ hnew_; clear hg_ hnew_; (first | rw [← Ny330.out] at ho4 | (simp only [Int.reduceToNat] at ho4; rw [← Ny330.out] at ho4)); have HO332 := am (Kd.R_lower ho4 (below_size (mb HB.out))); replace HB := am (below_step (mb HB.out) hb); clear hb ho4))
 go_loopg [5, 11] k (fun kq v5 v11 w' => ∃ (x5_1 : List Int) (x11_1 : Int), v11 = .int .i64 x11_1 ∧ Aside0 (impl_column.l0 kq a1 x5_1 l0 (l0.length : Int) x11_1 = some r) ∧ Aside0 (kq ≤ k) ∧ Aside0 (Kd.R (Kd.int .i64) 3 w' w.heap.size (fun _ => True) v5 x5_1) ∧ Aside0 (Below w.heap.size w w'))
 case atStart => exact ⟨(y330), (0), eqF, H', ⟨Nat.le_refl _⟩, ⟨mvR HO332.out⟩, ⟨mb HB.out⟩⟩
 case round =>
  clear H'
  obtain ⟨x5_1, x11_1, rfl, HA, HK1, HO_5, HB⟩ := hrel
  cases gk with
  | zero => exact absurd HA.out (by simp [impl_column.l0])
  | succ k1 =>
   have H := HA.out
   clear HA
   simp only [impl_column.l0] at H
   by_cases c5 : x11_1 < (l0.length : Int)
   ·rw [if_pos c5] at H
    have c5b0 := decide_eq_true c5
    clear c5
    replace H := ifD H; obtain ⟨c6b0, H⟩ := H
    replace H := ifD H; obtain ⟨c7b0, H⟩ := H
    replace H := ifD H; obtain ⟨c8b0, H⟩ := H
    replace H := ifD H; obtain ⟨c9b0, H⟩ := H
    replace H := ifA H; obtain ⟨LMc10, H⟩ := H
    replace H := nameA (x5_1 ++ [rd (rd_L1 l0 x11_1) a1]) (fun y335 => (impl_column.l0 k1 a1 y335 l0 (l0.length : Int) (wrap64 (x11_1 + 1))) = some r) H; obtain ⟨y335, Ny335, H⟩ := H
    have H' := Aside0.mk H
    clear H
    have p333 : 0 ≤ (x11_1 : Int) := odE
    have q333 : x11_1 < (l0.length : Int) := odE
    obtain ⟨ad333, A333_0, c333_0, e333, hx333_0, hl333_0, hi333_0⟩ := at_L1 HR0.out x11_1 p333 q333
    cases e333
    replace hx333_0 := (HB.out.cell (World.block_lt_of_cell? w _ hx333_0)).trans hx333_0
    have HR333_0 := Aside0.mk hi333_0
    have HC333_0 := Aside0.mk hl333_0
    clear hi333_0 hl333_0
    replace p333 := eq_true p333
    replace q333 := eq_true q333
    have p334 : 0 ≤ (a1 : Int) := odE
    have q334 : a1 < ((rd_L1 l0 x11_1).length : Int) := odE
    obtain ⟨ad334, e334, hx334_0⟩ := Kd.at_int HR333_0.out a1 p334 q334
    cases e334
    replace hx334_0 := (HB.out.cell (World.block_lt_of_cell? w _ hx334_0)).trans hx334_0
    replace p334 := eq_true p334
    replace q334 := eq_true q334
    go_wp2_with (first | ((with_reducible refine gate_builtin (b := .append) (xs := #[.tmp 15, .tmp 20]) rfl ?_); at_builtin; refine Kd.R_append (Kd.int .i64) (w0 := w) w.heap.size rfl (.tmp 15) (.tmp 20) 38 3 (.int .i64 0) 8 rfl Try.underlying38 info3 rfl (by decide) (by omega) u5 x5_1 (rd (rd_L1 l0 x11_1) a1) [.int .i64 (rd (rd_L1 l0 x11_1) a1)] (fun _ => True) (fun _ => False) rfl rfl ?aP (fun _ hk => hk.elim) ?aF ?aO ?aB ?aS ?aL ?_; (case aP => exact rfl); (case aB => exact (mb HB.out)); (case aF => exact (fun _ _ => trivial)); (case aO => exact (mvR HO_5.out)); (case aS => exact (below_size (mb HB.out))); (case aL => have := LMc10.out; omega); intro v336 w11 ho hb hg hat; rw [← Ny335.out] at ho; replace HB := am (hb); have HO337 := am (ho); clear HO_5; clear ho hb hg hat))
    go_roundg k1
    case measure => have := HK1.out; omega
    case rel => exact ⟨(y335), (wrap64 (x11_1 + 1)), eqF, H', ⟨by have := HK1.out; omega⟩, ⟨mvR HO337.out⟩, ⟨mb HB.out⟩⟩
   ·rw [if_neg c5] at H
    have c5b0 := decide_eq_false c5
    clear c5
    obtain rfl := Option.some.inj H
    go_wp2
    go_ret
    exact ⟨_, eqE, mvR HO_5.out, mb HB.out⟩
def impl_payC.f (k : Nat) (j : Int) (l0 l1 : List (List Int)) : Option (List Int) := impl_column.f k l1 j
theorem impl_payC.mono : ∀ j l0 l1 k, LeO (impl_payC.f k j l0 l1) (impl_payC.f (k + 1) j l0 l1) := fun j l0 l1 k => impl_column.mono _ _ _
set_option maxHeartbeats 8000000 in
set_option maxRecDepth 100000 in
theorem impl_payC.calls (k : Nat) (a0 : Int) (G : Nat) (A0 : Option Addr) (c0 : Nat) (l0 : List (List Int)) (A1 : Option Addr) (c1 : Nat) (l1 : List (List Int)) (r : List Int) (w : World) (hx0 : w.cell? ⟨G, 0, none⟩ = some (.slice A0 l0.length c0)) (hr0 : Kd.C (Kd.slice 3 (Kd.int .i64)) w A0 l0.length l0) (hc0 : l0.length ≤ c0) (hx1 : w.cell? ⟨G, 1, none⟩ = some (.slice A1 l1.length c1)) (hr1 : Kd.C (Kd.slice 3 (Kd.int .i64)) w A1 l1.length l1) (hc1 : l1.length ≤ c1) (h : impl_payC.f k a0 l0 l1 = some r) :
  Calls Try.prog 55 #[.int .i64 a0, .pointer (some ⟨G, 0, none⟩)] w fun e w' => ∃ v0_ : Value, e = .returned (v0_) ∧ Kd.R (Kd.int .i64) 3 w' w.heap.size (fun _ => True) v0_ r ∧ Below w.heap.size w w' := by
 have hcon := impl_column.calls k A1 c1 l1 a0 r w hr1 hc1 h
 have hg : Try.prog.underlying 28 = _ := Try.underlying28
 clear hx0 hr0 hc0 hr1 hc1 h
 go_enter Try.func55, Try.ntmps55
 go_wp2_with (go_at_call 56; refine hcon.mono ?_; rintro e w' ⟨v0, rfl, ho, hb⟩)
 go_ret
 exact ⟨_, rfl, ho, hb⟩
def slices_Clone_int_int.f (l0 : List Int) : Option (List Int) := if l0.length < 17592186044416 then some l0 else none
@[go_sem] theorem clone_eql (A : Option Addr) (n c : Nat) (w : World) : (binOp .eql 38 (.slice A n c) (.slice none 0 0)).run Try.prog w = .ok (.bool A.isNone) w := by
 have h : ∀ d : Nat, (Op.equalIn (d + 1) 38 (.slice A n c) (.slice none 0 0)).run Try.prog w = .ok A.isNone w := fun d => by
  cases A <;> simp [Op.equalIn, run_underlying Try.underlying38]
 simp only [binOp]
 simp [Op.equal, Op.maxDepth, h 9999]
set_option maxHeartbeats 4000000 in
theorem slices_Clone_int_int.calls (A0 : Option Addr) (c0 : Nat) (l0 : List Int) (r : List Int) (w : World) (hr0 : Kd.C (Kd.int .i64) w A0 l0.length l0) (hc0 : l0.length ≤ c0) (h : slices_Clone_int_int.f l0 = some r) :
  Calls Try.prog 58 #[.slice A0 l0.length c0] w fun e w' => ∃ v0_ : Value, e = .returned (v0_) ∧ Kd.R (Kd.int .i64) 3 w' w.heap.size (fun _ => True) v0_ r ∧ Below w.heap.size w w' := by
 unfold slices_Clone_int_int.f at h
 by_cases hlim : l0.length < 17592186044416
 ·rw [if_pos hlim] at h
  obtain rfl := Option.some.inj h
  clear h
  rcases A0 with _ | a
  ·have hz : l0 = [] := by
    rcases Nat.eq_zero_or_pos l0.length with h0 | h0
    ·exact List.eq_nil_of_length_eq_zero h0
    ·obtain ⟨ad, e, -⟩ := hr0.2.2 h0
     cases e
   subst hz
   have HB := Aside0.mk (Below.refl w.heap.size w)
   clear hr0
   go_enter Try.func58, Try.ntmps58
   go_wp2
   go_ret
   exact ⟨_, rfl, Kd.R_nil _ _ _ _ _, HB.out⟩
  ·have HR0 := Aside0.mk hr0
   have HL := Aside0.mk hlim
   have HC0 := Aside0.mk hc0
   clear hr0 hc0 hlim
   have HB := Aside0.mk (Below.refl w.heap.size w)
   go_enter Try.func58, Try.ntmps58
   go_wp2_with (first
    | ((with_reducible refine gate_dst (N := 5) rfl ?_); refine Kd.R_lit (Kd.int .i64) _ 3 ?hg (N := 5) ?hd (xs := ([] : List Int)) (inner := []) (ok := fun _ => True) (okp := fun _ => True) ?hr ?hp (fun _ hk => hk) trivial (Below.refl _ _) (Nat.le_refl _) (by simp) ?_; (case hd => rfl); (case hg => rfl); (case hr => first | (go_simp; done) | (go_simp; rfl)); (case hp => exact (Reps.none _ _)); intro v252 w3 ho4 hb hg_ hnew_; clear hg_ hnew_; (try simp only [Int.reduceToNat] at ho4); have HO253 := am (Kd.R_lower ho4 (below_size (mb HB.out))); replace HB := am (below_step (mb HB.out) hb); clear hb ho4)
    | ((with_reducible refine gate_builtin (b := .append) (xs := #[.tmp 5, .tmp 6]) rfl ?_); at_builtin; refine Kd.R_append_rows (Kd.int .i64) (w0 := w) w.heap.size rfl (.tmp 5) (.tmp 6) 38 3 (.int .i64 0) 8 rfl Try.underlying38 info3 rfl (by decide) (by omega) v252 ([] : List Int) l0 _ _ _ (fun _ => True) (fun _ => False) rfl rfl ?aO ?aR (fun _ _ h => h) (fun _ h => h.elim) ?aF ?aB ?aS ?aL ?_; (case aR => repeat (first | exact (Kd.C_below HR0.out HB.out) | (with_reducible refine Kd.C_alloc ?_ _) | (with_reducible refine Kd.C_drewN ?_ _) | (with_reducible refine Kd.C_drew ?_))); (case aB => exact (mb HB.out)); (case aF => exact (fun _ _ => trivial)); (case aO => exact (mvR HO253.out)); (case aS => exact (below_size (mb HB.out))); (case aL => have := HL.out; simp only [List.length_nil]; omega); intro v255 w5 ho hb hg hat; rw [List.nil_append] at ho; replace HB := am (hb); have HO256 := am (ho); clear HO253; clear ho hb hg hat))
   go_ret
   exact ⟨_, by first | rfl | (simp [errW_none, errW_some] <;> rfl), mvR HO256.out, mb HB.out⟩
 ·rw [if_neg hlim] at h
  exact absurd h (by simp)
def impl_payR.f (j : Int) (l0 l1 : List (List Int)) : Option (List Int) := if 0 ≤ j ∧ j < (l0.length : Int) then slices_Clone_int_int.f (l0.getD j.toNat []) else none
set_option maxHeartbeats 8000000 in
set_option maxRecDepth 100000 in
theorem impl_payR.calls (a0 : Int) (G : Nat) (A0 : Option Addr) (c0 : Nat) (l0 : List (List Int)) (A1 : Option Addr) (c1 : Nat) (l1 : List (List Int)) (r : List Int) (w : World) (hx0 : w.cell? ⟨G, 0, none⟩ = some (.slice A0 l0.length c0)) (hr0 : Kd.C (Kd.slice 3 (Kd.int .i64)) w A0 l0.length l0) (hc0 : l0.length ≤ c0) (hx1 : w.cell? ⟨G, 1, none⟩ = some (.slice A1 l1.length c1)) (hr1 : Kd.C (Kd.slice 3 (Kd.int .i64)) w A1 l1.length l1) (hc1 : l1.length ≤ c1) (h : impl_payR.f a0 l0 l1 = some r) :
  Calls Try.prog 57 #[.int .i64 a0, .pointer (some ⟨G, 0, none⟩)] w fun e w' => ∃ v0_ : Value, e = .returned (v0_) ∧ Kd.R (Kd.int .i64) 3 w' w.heap.size (fun _ => True) v0_ r ∧ Below w.heap.size w w' := by
 unfold impl_payR.f at h
 by_cases hc : 0 ≤ a0 ∧ a0 < (l0.length : Int)
 ·rw [if_pos hc] at h
  obtain ⟨h0, h1⟩ := hc
  obtain ⟨ad, cs, e2, _, hK, hx2⟩ := Kd.C_get hr0 ([] : List Int) a0 h0 h1
  cases e2
  obtain ⟨A2, c2, rfl, hl2, hi2⟩ := hK
  replace hx2 := hx2 0 _ rfl
  rw [show (Kd.slice 3 (Kd.int .i64)).sz = 1 from rfl, Nat.mul_one, Nat.add_zero] at hx2
  have hcon := slices_Clone_int_int.calls A2 c2 (l0.getD a0.toNat []) r w hi2 hl2 h
  generalize l0.getD a0.toNat [] = row_ at hx2 hcon
  have q := eq_true h0
  have q2 := eq_true h1
  clear hr0 hc0 hr1 hc1 h hl2 hi2 h0 h1
  go_enter Try.func57, Try.ntmps57
  go_wp2_with (go_at_call 58; refine hcon.mono ?_; rintro e w' ⟨v0, rfl, ho, hb⟩)
  go_ret
  exact ⟨_, rfl, ho, hb⟩
 ·rw [if_neg hc] at h
  cases h
def impl_sure.f (a0 : Int) (a1 : Int) : Option (List Int) := if 0 ≤ a1 then (if (a1 : Int).toNat ≤ 35184372088832 then ((some (List.replicate (a1 : Int).toNat 0 : List Int)).bind fun y338 => (if 0 ≤ a0 then (if a0 < (y338.length : Int) then (some (y338.set (a0 : Int).toNat 1)) else (none)) else (none))) else (none)) else (none)
set_option maxHeartbeats 8000000 in
set_option maxRecDepth 100000 in
theorem impl_sure.calls (a0 : Int) (a1 : Int) (r : List Int) (w : World) (h : impl_sure.f a0 a1 = some r) :
  Calls Try.prog 59 #[.int .i64 a0, .int .i64 a1] w fun e w' => ∃ v0_ : Value, e = .returned (v0_) ∧ Kd.R (Kd.int .i64) 3 w' w.heap.size (fun _ => True) v0_ r ∧ Below w.heap.size w w' := by
 have HB := Aside0.mk (Below.refl w.heap.size w)
 have H : (if 0 ≤ a1 then (if (a1 : Int).toNat ≤ 35184372088832 then ((some (List.replicate (a1 : Int).toNat 0 : List Int)).bind fun y338 => (if 0 ≤ a0 then (if a0 < (y338.length : Int) then (some (y338.set (a0 : Int).toNat 1)) else (none)) else (none))) else (none)) else (none)) = some r := h
 clear h
 by_cases c3 : 0 ≤ a1
 ·rw [if_pos c3] at H
  have c3b0 := eq_true c3
  have c3b1 := decide_eq_true c3
  clear c3
  replace H := ifP H; obtain ⟨c4, H⟩ := H
  have c4b0 := eq_true c4
  have c4b1 := decide_eq_true c4
  clear c4
  replace H := nameA (List.replicate (a1 : Int).toNat 0) (fun y338 => (if 0 ≤ a0 then (if a0 < (y338.length : Int) then (some (y338.set (a0 : Int).toNat 1)) else (none)) else (none)) = some r) H; obtain ⟨y338, Ny338, H⟩ := H
  replace H := ifD H; obtain ⟨c5b0, H⟩ := H
  replace H := ifD H; obtain ⟨c6b0, H⟩ := H
  replace H := nameA (y338.set (a0 : Int).toNat 1) (fun y341 => (some y341) = some r) H; obtain ⟨y341, Ny341, H⟩ := H
  obtain rfl := Option.some.inj H
  go_enter Try.func59, Try.ntmps59
  go_wp2_with (first | ((with_reducible refine gate_dst (N := 7) rfl ?_); refine Kd.R_make (Kd.int .i64) _ 3 rfl (N := 7) rfl 38 _ _ rfl a1 rfl rfl Try.underlying38 (.int .i64 0) 8 info3 rfl (by decide) (by omega) 0 (ok := fun _ => True) (okp := fun _ => True) rfl (fun _ hk => hk) trivial (odE) (Nat.le_trans (Nat.mul_le_mul_right _ (odE : a1.toNat ≤ 35184372088832)) (by omega)) (Below.refl _ _) (Nat.le_refl _) ?_; intro v339 w8 ho9 hb hg_ hnew_; clear hg_ hnew_; (first | rw [← Ny338.out] at ho9 | (simp only [Int.reduceToNat] at ho9; rw [← Ny338.out] at ho9)); have HO340 := am (Kd.R_lower ho9 (below_size (mb HB.out))); replace HB := am (below_step (mb HB.out) hb); clear hb ho9; have p7 : 0 ≤ (a0 : Int) := odE; have q7 : (a0 : Int) < ((y338.length : Int) : Int) := odE; obtain ⟨go7, co7, eo7, gb7, gl7, cl7, HG7⟩ := Kd.R_form HO340.out (by omega); (first | cases eo7 | (injection eo7 with ea_ en_ ec_; (first | subst ea_ | (injection ea_ with ea_; subst ea_)); subst ec_; clear en_)); have GB7 := Aside0.mk gb7; have GG7 := Aside0.mk HG7; clear gb7 gl7 HG7; obtain ⟨hx7_0, hf7_0⟩ := Kd.R_celln 0 HO340.out (a0 : Int) p7 q7; replace p7 := eq_true p7; replace q7 := eq_true q7; obtain ⟨hy10_, hz10_⟩ := Kd.R_celln 0 HO340.out (a0 : Int) (odE) (odE); have HP10 := Kd.R_putg HO340.out (a0 : Int) 1) | ((with_reducible refine gate_store (t := 3) (p := 10) rfl ?_); refine store_event (t := 3) (p := 10) (v := ?vo_w11) (w1 := (w8.setCell ⟨go7, (a0 : Int).toNat, none⟩ (.int .i64 1))) ?hg ?ho ?hn ?hr ?_; (case ho => rfl); (case hg => rfl); (case hn => rfl); (case hr => first | (go_simp; done) | (go_simp; rfl)); intro w11 hw; have hg : w8.grownBy w11 (some go7) := (by rw [hw]; exact HP10.2); have hp_ : Kd.R (Kd.int .i64) 3 w11 w.heap.size (fun _ => True) (.slice (some ⟨go7, 0, none⟩) y338.length co7) y341 := (by rw [hw, Ny341.out]; exact HP10.1); clear HP10; replace HO340 := am (hp_); replace HB := am ((by rw [hw]; exact below_set (HB.out) GB7.out : Below w.heap.size w w11)); clear hg hw hp_))
  go_ret
  exact ⟨_, eqE, mvR HO340.out, mb HB.out⟩
 ·rw [if_neg c3] at H
  exact absurd H (by simp)
mutual
def impl_condition_60.l0 : Nat → List (List (S70)) → Int → List (List (S70)) → Int → Int → Option ((List (S70)))
 | 0, _, _, _, _, _ => none
 | k + 1, x0, x3, x9, x10, x11 => if x11 < x10 then (if 0 ≤ x11 then (if x11 < (x9.length : Int) then (if (wrap64 (x3 + ((rd_L5 x9 x11).length : Int))) < 0 then (none) else (impl_condition_60.l0 k x0 (wrap64 (x3 + ((rd_L5 x9 x11).length : Int))) x9 x10 (wrap64 (x11 + 1)))) else (none)) else (none)) else (if 0 ≤ x3 ∧ x3 < 3518437208883 then (impl_condition_60.l1 k ([] : List (S70)) x0 (x0.length : Int) 0) else none)
def impl_condition_60.l1 : Nat → List (S70) → List (List (S70)) → Int → Int → Option ((List (S70)))
 | 0, _, _, _, _ => none
 | k + 1, x6, x25, x26, x27 => if x27 < x26 then (if 0 ≤ x27 then (if x27 < (x25.length : Int) then (if x6.length + (rd_L5 x25 x27).length < 3518437208883 then (impl_condition_60.l1 k (x6 ++ (rd_L5 x25 x27)) x25 x26 (wrap64 (x27 + 1))) else (none)) else (none)) else (none)) else (some x6)
end
def impl_condition_60.f (k : Nat) (l0 : List (List (S70))) : Option ((List (S70))) := impl_condition_60.l0 k l0 0 l0 (l0.length : Int) 0
theorem impl_condition_60.mono_l : ∀ k, (∀ y0 y1 y2 y3 y4, LeO (impl_condition_60.l0 k y0 y1 y2 y3 y4) (impl_condition_60.l0 (k + 1) y0 y1 y2 y3 y4)) ∧ (∀ y0 y1 y2 y3, LeO (impl_condition_60.l1 k y0 y1 y2 y3) (impl_condition_60.l1 (k + 1) y0 y1 y2 y3))
 | 0 => ⟨fun _ _ _ _ _ r h => by simp [impl_condition_60.l0] at h, fun _ _ _ _ r h => by simp [impl_condition_60.l1] at h⟩
 | k + 1 => by
  obtain ⟨ih0, ih1⟩ := impl_condition_60.mono_l k
  refine ⟨?_, ?_⟩ <;> intros <;> (first | unfold impl_condition_60.l0 | unfold impl_condition_60.l1)
  all_goals repeat' first
  | (with_reducible exact ih0 ..)
  | (with_reducible exact ih1 ..)
  | (with_reducible exact LeO.refl _)
  | (with_reducible exact LeO.none _)
  | (with_reducible refine LeO.ite ?_ ?_)
  | (with_reducible refine LeO.bind ?_ (fun _ => ?_))
  | exact ih0 ..
  | exact ih1 ..
  | exact LeO.none _
  | refine LeO.ite ?_ ?_
  | refine LeO.bind ?_ (fun _ => ?_)
theorem impl_condition_60.mono : ∀ a0 k, LeO (impl_condition_60.f k a0) (impl_condition_60.f (k + 1) a0) := by
 intro a0 k
 obtain ⟨ih0, ih1⟩ := impl_condition_60.mono_l k
 unfold impl_condition_60.f
 repeat' first
   | (with_reducible exact ih0 ..)
   | (with_reducible exact ih1 ..)
   | (with_reducible exact LeO.refl _)
   | (with_reducible exact LeO.none _)
   | (with_reducible refine LeO.ite ?_ ?_)
   | (with_reducible refine LeO.bind ?_ (fun _ => ?_))
   | exact ih0 ..
   | exact ih1 ..
   | exact LeO.none _
   | refine LeO.ite ?_ ?_
   | refine LeO.bind ?_ (fun _ => ?_)
set_option maxHeartbeats 8000000 in
set_option maxRecDepth 100000 in
theorem grow_nilC (n : Int) (h0 : 0 ≤ n) (hl : n < 3518437208883) (w : World) :
  Calls Try.prog 80 #[.slice none 0 0, .int .i64 n] w fun e w' => ∃ v0_ : Value, e = .returned (v0_) ∧ Kd.R k70 70 w' w.heap.size (fun _ => True) v0_ ([] : List S70) ∧ Below w.heap.size w w' := by
 have hu := Try.underlying70
 by_cases hz : n = 0
 ·subst hz
  go_enter Try.func80, Try.ntmps80
  go_wp2
  go_ret
  exact ⟨_, rfl, Kd.R_nil _ _ _ _ _, Below.refl _ _⟩
 ·have hn : wrap64 n = n := by unfold wrap64; omega
  have d0 : decide (n < 0) = false := decide_eq_false (by omega)
  have d1 : decide (0 < n) = true := decide_eq_true (by omega)
  have d2 : decide (n > 0) = true := decide_eq_true (by omega)
  have HN := Aside0.mk (show 0 ≤ wrap64 n by rw [hn]; exact h0)
  have HL := Aside0.mk (show (([] : List S70).length + (wrap64 n).toNat) * 40 ≤ 140737488355328 by rw [hn, List.length_nil]; omega)
  have HZ := Aside0.mk (show k70.M w w.heap.size (fun _ => False) z70 [.slice none 0 0, .int .i64 0, .bool false] from ⟨[.slice none 0 0], [.int .i64 0, .bool false], rfl, ⟨_, rfl, Kd.R_nil _ _ _ _ _⟩, ⟨[.int .i64 0], [.bool false], rfl, rfl, rfl⟩⟩)
  clear h0 hl hz
  go_enter Try.func80, Try.ntmps80
  go_wp2_with (first
   | ((with_reducible refine gate_builtin (b := .append) (xs := #[.tmp 20, .tmp 21]) rfl ?_); at_builtin; refine Kd.R_append_zeros k70 (w0 := w) w.heap.size rfl (.tmp 20) (.tmp 21) 49 3 70 (.agg #[(.slice none 0 0), (.int .i64 0), (.bool false)]) 40 rfl Try.underlying49 Try.underlying3 info70 rfl (by decide) (by omega) (.slice none 0 0) ([] : List S70) z70 (wrap64 n) (fun _ => True) rfl rfl HZ.out (fun _ _ => trivial) (Kd.R_nil _ _ _ _ _) HN.out (Below.refl _ _) (Nat.le_refl _) ?aL ?_; (case aL => exact HL.out); intro v1 w1 ho hb hg hat; obtain ⟨A1, c1, ev⟩ := Kd.R_slice ho; subst ev; have HO := Aside0.mk ho; have HB := Aside0.mk hb; have z0 : (0 : Int) ≤ 0 := Int.le_refl _; clear ho hb hg hat))
  go_ret
  exact ⟨_, rfl, Kd.R_take HO.out (Nat.zero_le _), HB.out⟩
set_option maxHeartbeats 8000000 in
set_option maxRecDepth 100000 in
theorem impl_condition_60.calls (k : Nat) (P0_ : Nat → Prop) (A0 : Option Addr) (c0 : Nat) (l0 : List (List (S70))) (r : List (S70)) (w : World) (hs0 : Kd.V (Kd.slice 70 k70) 49 w w.heap.size (fun k_ => P0_ k_) (.slice A0 l0.length c0) l0) (h : impl_condition_60.f k l0 = some r) :
  Calls Try.prog 60 #[.slice A0 l0.length c0] w fun e w' => ∃ v0_ : Value, e = .returned (v0_) ∧ Kd.N k70 70 w' w.heap.size (fun k_ => (P0_ k_ ∨ w.heap.size ≤ k_)) v0_ r ∧ Below w.heap.size w w' := by
 have HO0 := Aside0.mk (show Kd.V (Kd.slice 70 k70) 49 w w.heap.size (fun k_ => (P0_ k_ ∨ w.heap.size ≤ k_)) (.slice A0 l0.length c0) l0 from Kd.V_mono hs0 (fun k_ hk => .inl hk))
 have HB := Aside0.mk (Below.refl w.heap.size w)
 have H : (impl_condition_60.l0 k l0 0 l0 (l0.length : Int) 0) = some r := h
 clear h
 have H' := Aside0.mk H
 clear H
 go_enter Try.func60, Try.ntmps60
 go_wp2
 go_loopg [3, 11] k (fun kq v3 v11 w' => ∃ (x3_1 : Int) (x11_1 : Int), v3 = .int .i64 x3_1 ∧ v11 = .int .i64 x11_1 ∧ Aside0 (impl_condition_60.l0 kq l0 x3_1 l0 (l0.length : Int) x11_1 = some r) ∧ Aside0 (kq ≤ k) ∧ Aside0 (Kd.V (Kd.slice 70 k70) 49 w' w.heap.size (fun k_ => (P0_ k_ ∨ w.heap.size ≤ k_)) (.slice A0 l0.length c0) l0) ∧ Aside0 (Kd.V (Kd.slice 70 k70) 49 w' w.heap.size (fun k_ => (P0_ k_ ∨ w.heap.size ≤ k_)) (.slice A0 l0.length c0) l0) ∧ Aside0 (Below w.heap.size w w'))
 case atStart => exact ⟨(0), (0), eqF, eqF, H', ⟨Nat.le_refl _⟩, ⟨mvV HO0.out⟩, ⟨mvV HO0.out⟩, ⟨mb HB.out⟩⟩
 case round =>
  clear H'
  obtain ⟨x3_1, x11_1, rfl, rfl, HA, HK1, HO_0, HO_9, HB⟩ := hrel
  cases gk with
  | zero => exact absurd HA.out (by simp [impl_condition_60.l0])
  | succ k1 =>
   have H := HA.out
   clear HA
   simp only [impl_condition_60.l0] at H
   by_cases c2 : x11_1 < (l0.length : Int)
   ·rw [if_pos c2] at H
    have c2b0 := decide_eq_true c2
    clear c2
    replace H := ifD H; obtain ⟨c3b0, H⟩ := H
    replace H := ifD H; obtain ⟨c4b0, H⟩ := H
    replace H := ifN H; obtain ⟨c5, H⟩ := H
    have c5b0 := decide_eq_false c5
    clear c5
    have H' := Aside0.mk H
    clear H
    have p342 : 0 ≤ (x11_1 : Int) := odE
    have q342 : x11_1 < (l0.length : Int) := odE
    obtain ⟨ad342, A342_0, c342_0, e342, hx342_0, hl342_0, hi342_0⟩ := at_L5 (Kd.V_reads' HO_9.out).2.2 x11_1 p342 q342
    cases e342
    obtain ⟨ce342, hce342, hMe342, hcc342⟩ := Kd.V_get HO_9.out [] x11_1 p342 (by first | exact q342 | exact odE | (have e_ := (Kd.V_reads' HO_9.out).1; omega))
    obtain ⟨ua342_0, uc342_0, rfl, ul342_0, ge342_0⟩ := Kd.FK_slice_open hMe342
    have hv342_0 := hcc342 0 _ rfl
    rw [Nat.add_zero, show ((Kd.slice 70 k70)).sz = 1 from rfl, Nat.mul_one] at hv342_0
    replace hv342_0 := Option.some.inj (hv342_0.symm.trans hx342_0)
    injection hv342_0 with hva_ hvn_ hvc_
    rw [hva_] at ge342_0
    rw [hvc_] at ul342_0
    have HL342_0 := Aside0.mk (show Kd.V k70 70 _ w.heap.size _ _ (rd_L5 l0 x11_1) from Kd.V_mk ul342_0 ge342_0)
    clear hva_ hvn_ hvc_ ge342_0 ul342_0
    clear hcc342 hce342
    have HR342_0 := Aside0.mk hi342_0
    have HC342_0 := Aside0.mk hl342_0
    clear hi342_0 hl342_0
    replace p342 := eq_true p342
    replace q342 := eq_true q342
    go_wp2
    go_roundg k1
    case measure => have := HK1.out; omega
    case rel => exact ⟨(wrap64 (x3_1 + ((rd_L5 l0 x11_1).length : Int))), (wrap64 (x11_1 + 1)), eqF, eqF, H', ⟨by have := HK1.out; omega⟩, ⟨mvV HO_0.out⟩, ⟨mvV HO_9.out⟩, ⟨mb HB.out⟩⟩
   ·rw [if_neg c2] at H
    have c2b0 := decide_eq_false c2
    clear c2
    by_cases cg : 0 ≤ x3_1 ∧ x3_1 < 3518437208883
    case neg => rw [if_neg cg] at H; exact absurd H (by simp)
    rw [if_pos cg] at H
    have CG := Aside0.mk cg
    clear cg
    have H' := Aside0.mk H
    clear H
    go_wp2_with (go_at_call 80; refine (grow_nilC x3_1 CG.out.1 CG.out.2 _).mono ?_; rintro e wg ⟨vg, rfl, ho, hb⟩; have HOV := Aside0.mk (Kd.V_elder' HO_0.out (Kd.R_base ho) hb); have HGN := Aside0.mk (Kd.R_N (Kd.R_mono (ok' := fun k_ => (P0_ k_ ∨ w.heap.size ≤ k_)) (Kd.R_bound (Kd.R_lower ho HB.out.size)) (fun k hk => Or.inr hk.2.1))); have HBG := Aside0.mk (below_step HB.out hb); clear ho hb)
    go_loopg [6, 27] k1 (fun kq v6 v27 w' => ∃ (x6_2 : List (S70)) (x27_2 : Int), v27 = .int .i64 x27_2 ∧ Aside0 (impl_condition_60.l1 kq x6_2 l0 (l0.length : Int) x27_2 = some r) ∧ Aside0 (kq ≤ k1) ∧ Aside0 (Kd.N k70 70 w' w.heap.size (fun k_ => (P0_ k_ ∨ w.heap.size ≤ k_)) v6 x6_2) ∧ Aside0 (Kd.V (Kd.slice 70 k70) 49 w' w.heap.size (fun k_ => (P0_ k_ ∨ w.heap.size ≤ k_) ∧ some k_ ≠ (v6 : Value).ownBlock) (.slice A0 l0.length c0) l0) ∧ Aside0 (Below w.heap.size w w'))
    case atStart => exact ⟨(([] : List (S70))), (0), rfl, H', ⟨Nat.le_refl _⟩, ⟨HGN.out⟩, ⟨HOV.out⟩, ⟨HBG.out⟩⟩
    case round =>
     clear H'
     obtain ⟨x6_2, x27_2, rfl, HA, HK2, HO_6, HO_25, HB⟩ := hrel
     cases gk with
     | zero => exact absurd HA.out (by simp [impl_condition_60.l1])
     | succ k2 =>
      have H := HA.out
      clear HA
      simp only [impl_condition_60.l1] at H
      by_cases c6 : x27_2 < (l0.length : Int)
      ·rw [if_pos c6] at H
       have c6b0 := decide_eq_true c6
       clear c6
       replace H := ifD H; obtain ⟨c7b0, H⟩ := H
       replace H := ifD H; obtain ⟨c8b0, H⟩ := H
       replace H := ifA H; obtain ⟨LMc9, H⟩ := H
       replace H := nameA (x6_2 ++ (rd_L5 l0 x27_2)) (fun y344 => (impl_condition_60.l1 k2 y344 l0 (l0.length : Int) (wrap64 (x27_2 + 1))) = some r) H; obtain ⟨y344, Ny344, H⟩ := H
       have H' := Aside0.mk H
       clear H
       have p343 : 0 ≤ (x27_2 : Int) := odE
       have q343 : x27_2 < (l0.length : Int) := odE
       obtain ⟨ad343, A343_0, c343_0, e343, hx343_0, hl343_0, hi343_0⟩ := at_L5 (Kd.V_reads' HO_25.out).2.2 x27_2 p343 q343
       cases e343
       obtain ⟨ce343, hce343, hMe343, hcc343⟩ := Kd.V_get HO_25.out [] x27_2 p343 (by first | exact q343 | exact odE | (have e_ := (Kd.V_reads' HO_25.out).1; omega))
       obtain ⟨ua343_0, uc343_0, rfl, ul343_0, ge343_0⟩ := Kd.FK_slice_open hMe343
       have hv343_0 := hcc343 0 _ rfl
       rw [Nat.add_zero, show ((Kd.slice 70 k70)).sz = 1 from rfl, Nat.mul_one] at hv343_0
       replace hv343_0 := Option.some.inj (hv343_0.symm.trans hx343_0)
       injection hv343_0 with hva_ hvn_ hvc_
       rw [hva_] at ge343_0
       rw [hvc_] at ul343_0
       have HL343_0 := Aside0.mk (show Kd.V k70 70 _ w.heap.size _ _ (rd_L5 l0 x27_2) from Kd.V_mk ul343_0 ge343_0)
       clear hva_ hvn_ hvc_ ge343_0 ul343_0
       clear hcc343 hce343
       have HR343_0 := Aside0.mk hi343_0
       have HC343_0 := Aside0.mk hl343_0
       clear hi343_0 hl343_0
       replace p343 := eq_true p343
       replace q343 := eq_true q343
       go_wp2_with (first | ((with_reducible refine gate_builtin (b := .append) (xs := #[.tmp 31, .tmp 32]) rfl ?_); at_builtin; refine Kd.N_append_rows k70 (w0 := w) w.heap.size rfl (.tmp 31) (.tmp 32) 49 70 (.agg #[(.slice none 0 0), (.int .i64 0), (.bool false)]) 40 rfl Try.underlying49 info70 rfl (by decide) (by omega) u6 x6_2 (rd_L5 l0 x27_2) _ _ _ (fun k_ => (P0_ k_ ∨ w.heap.size ≤ k_)) (fun k_ => ((fun k_ => (P0_ k_ ∨ w.heap.size ≤ k_))) k_ ∧ some k_ ≠ (u6 : Value).ownBlock) rfl rfl ?aO ?aR (fun _ hk => hk) ?aF ?aB ?aS ?aL ?_; (case aR => exact (by skip; exact Kd.V_F (Kd.V_mono (ok' := (fun k_ => ((fun k_ => (P0_ k_ ∨ w.heap.size ≤ k_))) k_ ∧ some k_ ≠ (u6 : Value).ownBlock)) (HL343_0.out) (fun k_ hk => ⟨hk.1, hk.2⟩)))); (case aB => exact (mb HB.out)); (case aF => exact (fun k_ hk => (.inr (Nat.le_trans (below_size (mb HB.out)) hk)))); (case aO => exact (mvN HO_6.out)); (case aS => exact (below_size (mb HB.out))); (case aL => have := LMc9.out; omega); intro v345 w10 ho hb hg hat; rw [← Ny344.out] at ho; replace HO_25 := am (Kd.V_afterv (ok := (fun k_ => (P0_ k_ ∨ w.heap.size ≤ k_))) (mvV HO_25.out) hg hat); replace HL343_0 := am (Kd.V_afterv (ok := (fun k_ => (P0_ k_ ∨ w.heap.size ≤ k_))) (mvV HL343_0.out) hg hat); replace HB := am (hb); have HO346 := am (ho); clear HO_6; clear ho hb hg hat))
       go_roundg k2
       case measure => have := HK1.out; have := HK2.out; omega
       case rel => exact ⟨(y344), (wrap64 (x27_2 + 1)), eqF, H', ⟨by have := HK1.out; have := HK2.out; omega⟩, ⟨mvN HO346.out⟩, ⟨mvV HO_25.out⟩, ⟨mb HB.out⟩⟩
      ·rw [if_neg c6] at H
       have c6b0 := decide_eq_false c6
       clear c6
       obtain rfl := Option.some.inj H
       go_wp2
       go_ret
       exact ⟨_, eqE, mvN HO_6.out, mb HB.out⟩
end Go.Proofs.Ytggiicplcglalaa.All
end
