/- Part of the proof that the law FnExactCornersOf answers true for all arguments. -/
import Derived.Test.YtggiicplcglalaaQC5
section
namespace Go.Proofs.Ytggiicplcglalaa.All
open Go.RowKit Go.Proofs.YtggiicplcglalaaW.PrintWords Go.Proofs.YtggiicplcglalaaW.PrintLast Go.Proofs.YtggiicplcglalaaW.PrintMore
attribute [local go_sem] max2_int min2_int max_two min_two max_three min_three max_four min_four
set_option linter.unusedVariables false
set_option linter.unusedSimpArgs false
mutual
def spec_gmTurned.l0 : Nat → List (List Int) → List (List Int) → Int → Int → Option ((List (List Int)))
 | 0, _, _, _, _ => none
 | k + 1, x0, x3, x10, x11 => if x11 < x10 then (spec_gmTurned.l1 k x0 x3 x11 ([] : List Int) x10 x11 (x0.length : Int) 0) else (some x3)
def spec_gmTurned.l1 : Nat → List (List Int) → List (List Int) → Int → List Int → Int → Int → Int → Int → Option ((List (List Int)))
 | 0, _, _, _, _, _, _, _, _ => none
 | k + 1, x0, x3, x4, x5, x10, x11, x15, x16 => if x16 < x15 then (if 0 ≤ x16 then (if x16 < (x0.length : Int) then (if 0 ≤ x4 then (if x4 < ((rd_L1 x0 x16).length : Int) then (if x5.length < 17592186044416 then (spec_gmTurned.l1 k x0 x3 x4 (x5 ++ [rd (rd_L1 x0 x16) x4]) x10 x11 x15 (wrap64 (x16 + 1))) else (none)) else (none)) else (none)) else (none)) else (none)) else (if x3.length < 5864062014805 then (spec_gmTurned.l0 k x0 (x3 ++ [x5]) x10 (wrap64 (x11 + 1))) else (none))
end
def spec_gmTurned.f (k : Nat) (l0 : List (List Int)) : Option ((List (List Int))) := if 0 < (l0.length : Int) then (spec_gmTurned.l0 k l0 ([] : List (List Int)) ((rd_L1 l0 0).length : Int) 0) else (none)
theorem spec_gmTurned.mono_l : ∀ k, (∀ y0 y1 y2 y3, LeO (spec_gmTurned.l0 k y0 y1 y2 y3) (spec_gmTurned.l0 (k + 1) y0 y1 y2 y3)) ∧ (∀ y0 y1 y2 y3 y4 y5 y6 y7, LeO (spec_gmTurned.l1 k y0 y1 y2 y3 y4 y5 y6 y7) (spec_gmTurned.l1 (k + 1) y0 y1 y2 y3 y4 y5 y6 y7))
 | 0 => ⟨fun _ _ _ _ r h => by simp [spec_gmTurned.l0] at h, fun _ _ _ _ _ _ _ _ r h => by simp [spec_gmTurned.l1] at h⟩
 | k + 1 => by
  obtain ⟨ih0, ih1⟩ := spec_gmTurned.mono_l k
  refine ⟨?_, ?_⟩ <;> intros <;> (first | unfold spec_gmTurned.l0 | unfold spec_gmTurned.l1)
  all_goals repeat' first
  | (with_reducible exact ih0 ..)
  | (with_reducible exact ih1 ..)
  | (with_reducible exact LeO.refl _)
  | (with_reducible exact LeO.none _)
  | (with_reducible refine LeO.ite ?_ ?_)
  | (with_reducible refine LeO.bind ?_ (fun _ => ?_))
theorem spec_gmTurned.mono : ∀ a0 k, LeO (spec_gmTurned.f k a0) (spec_gmTurned.f (k + 1) a0) := by
 intro a0 k
 obtain ⟨ih0, ih1⟩ := spec_gmTurned.mono_l k
 unfold spec_gmTurned.f
 repeat' first
   | (with_reducible exact ih0 ..)
   | (with_reducible exact ih1 ..)
   | (with_reducible exact LeO.refl _)
   | (with_reducible exact LeO.none _)
   | (with_reducible refine LeO.ite ?_ ?_)
   | (with_reducible refine LeO.bind ?_ (fun _ => ?_))
set_option maxHeartbeats 8000000 in
set_option maxRecDepth 100000 in
theorem spec_gmTurned.calls (k : Nat) (A0 : Option Addr) (c0 : Nat) (l0 : List (List Int)) (r : List (List Int)) (w : World) (hr0 : Kd.C (Kd.slice 3 (Kd.int .i64)) w A0 l0.length l0) (hc0 : l0.length ≤ c0) (h : spec_gmTurned.f k l0 = some r) :
  Calls Try.prog 51 #[.slice A0 l0.length c0] w fun e w' => ∃ v0_ : Value, e = .returned (v0_) ∧ Kd.S (Kd.slice 3 (Kd.int .i64)) 38 w' w.heap.size (fun _ => True) v0_ r ∧ Below w.heap.size w w' := by
 have HR0 := Aside0.mk hr0
 have HC0 := Aside0.mk hc0
 clear hr0 hc0
 have HB := Aside0.mk (Below.refl w.heap.size w)
 have H : (if 0 < (l0.length : Int) then (spec_gmTurned.l0 k l0 ([] : List (List Int)) ((rd_L1 l0 0).length : Int) 0) else (none)) = some r := h
 clear h
 by_cases c2 : 0 < (l0.length : Int)
 rotate_left
 ·rw [if_neg c2] at H
  exact absurd H (by simp)
 rw [if_pos c2] at H
 have c2b0 := decide_eq_true c2
 have c2b1 : decide (0 < l0.length) = true := decide_eq_true (by omega)
 clear c2
 have H' := Aside0.mk H
 clear H
 have p269 : 0 ≤ (0 : Int) := (by omega)
 have q269 : 0 < (l0.length : Int) := odE
 obtain ⟨ad269, A269_0, c269_0, e269, hx269_0, hl269_0, hi269_0⟩ := at_L1 HR0.out 0 p269 q269
 cases e269
 have qi269 : (0 < l0.length) = True := eq_true (by omega)
 (try rw [show ((0 : Int)).toNat = 0 from rfl] at hx269_0)
 (try rw [Addr.add_zero'] at hx269_0)
 have HR269_0 := Aside0.mk hi269_0
 have HC269_0 := Aside0.mk hl269_0
 clear hi269_0 hl269_0
 replace p269 := eq_true p269
 replace q269 := eq_true q269
 go_enter Try.func51, Try.ntmps51
 go_wp2
 go_loopg [3, 11] k (fun kq v3 v11 w' => ∃ (x3_1 : List (List Int)) (x11_1 : Int), v11 = .int .i64 x11_1 ∧ Aside0 (spec_gmTurned.l0 kq l0 x3_1 ((rd_L1 l0 0).length : Int) x11_1 = some r) ∧ Aside0 (kq ≤ k) ∧ Aside0 (Kd.S (Kd.slice 3 (Kd.int .i64)) 38 w' w.heap.size (fun _ => True) v3 x3_1) ∧ Aside0 (Below w.heap.size w w'))
 case atStart => exact ⟨(([] : List (List Int))), (0), eqF, H', ⟨Nat.le_refl _⟩, ⟨by first | exact Kd.S_nil _ _ _ _ _ | exact Kd.N_nil _ _ _ _ _ | exact Kd.V_nil _ _ _ _ _ | exact Kd.Q_nil _ _ _ _ _ | exact Kd.R_nil _ _ _ _ _⟩, ⟨mb HB.out⟩⟩
 case round =>
  clear H'
  obtain ⟨x3_1, x11_1, rfl, HA, HK1, HO_3, HB⟩ := hrel
  cases gk with
  | zero => exact absurd HA.out (by simp [spec_gmTurned.l0])
  | succ k1 =>
   have H := HA.out
   clear HA
   simp only [spec_gmTurned.l0] at H
   by_cases c3 : x11_1 < ((rd_L1 l0 0).length : Int)
   rotate_left
   ·rw [if_neg c3] at H
    have c3b0 := decide_eq_false c3
    clear c3
    obtain rfl := Option.some.inj H
    go_wp2
    go_ret
    exact ⟨_, eqE, mvS HO_3.out, mb HB.out⟩
   rw [if_pos c3] at H
   have c3b0 := decide_eq_true c3
   clear c3
   have H' := Aside0.mk H
   clear H
   go_wp2
   go_loopg [5, 16] k1 (fun kq v5 v16 w' => ∃ (x5_2 : List Int) (x16_2 : Int), v16 = .int .i64 x16_2 ∧ Aside0 (spec_gmTurned.l1 kq l0 x3_1 x11_1 x5_2 ((rd_L1 l0 0).length : Int) x11_1 (l0.length : Int) x16_2 = some r) ∧ Aside0 (kq ≤ k1) ∧ Aside0 (Kd.S (Kd.slice 3 (Kd.int .i64)) 38 w' w.heap.size (fun k_ => some k_ ≠ (v5 : Value).ownBlock) u3 x3_1) ∧ Aside0 (Kd.R (Kd.int .i64) 3 w' w.heap.size (fun _ => True) v5 x5_2) ∧ Aside0 (Below w.heap.size w w'))
   case atStart => exact ⟨(([] : List Int)), (0), eqF, H', ⟨Nat.le_refl _⟩, ⟨Kd.S_mono (mvS HO_3.out) (fun _ hk => (by simp [Value.ownBlock]))⟩, ⟨nilE⟩, ⟨mb HB.out⟩⟩
   case round =>
    clear H'
    obtain ⟨x5_2, x16_2, rfl, HA, HK2, HO_3, HO_5, HB⟩ := hrel
    cases gk with
    | zero => exact absurd HA.out (by simp [spec_gmTurned.l1])
    | succ k2 =>
     have H := HA.out
     clear HA
     simp only [spec_gmTurned.l1] at H
     by_cases c4 : x16_2 < (l0.length : Int)
     rotate_left
     ·rw [if_neg c4] at H
      have c4b0 := decide_eq_false c4
      clear c4
      replace H := ifA H; obtain ⟨LMc11, H⟩ := H
      replace H := nameA (x3_1 ++ [x5_2]) (fun y275 => (spec_gmTurned.l0 k2 l0 y275 ((rd_L1 l0 0).length : Int) (wrap64 (x11_1 + 1))) = some r) H; obtain ⟨y275, Ny275, H⟩ := H
      have H' := Aside0.mk H
      clear H
      obtain ⟨Ao13, co13, eo13⟩ := Kd.R_slice HO_5.out
      subst eo13
      go_wp2_with (first | ((with_reducible refine gate_builtin (b := .append) (xs := #[.tmp 30, .tmp 32]) rfl ?_); at_builtin; refine Kd.S_append (Kd.slice 3 (Kd.int .i64)) (w0 := w) w.heap.size rfl (.tmp 30) (.tmp 32) 22 38 (.slice none 0 0) 24 rfl Try.underlying22 info38 rfl (by decide) (by omega) u3 x3_1 x5_2 [.slice Ao13 x5_2.length co13] (fun _ => True) (fun k_ => some k_ = (.slice Ao13 x5_2.length co13 : Value).ownBlock) rfl rfl ?aP (fun k_ hk_ => ((Kd.R_mono (ok' := fun k_ => ((fun _ => True)) k_ ∧ some k_ ≠ (u3 : Value).ownBlock) (Kd.R_apart' (HO_5.out) (Kd.S_typed HO_3.out) (by decide)) (fun k_ hk => ⟨trivial, hk.2⟩))).1 k_ hk_.symm) ?aF ?aO ?aB ?aS ?aL ?_; (case aP => exact Kd.M_row (Kd.R_mono (Kd.R_tight rfl (Kd.R_mono (ok' := fun k_ => ((fun _ => True)) k_ ∧ some k_ ≠ (u3 : Value).ownBlock) (Kd.R_apart' (HO_5.out) (Kd.S_typed HO_3.out) (by decide)) (fun k_ hk => ⟨trivial, hk.2⟩))) (fun _ h_ => h_))); (case aB => exact (mb HB.out)); (case aF => exact (fun _ _ => trivial)); (case aO => exact (Kd.S_mono (mvS HO_3.out) (fun k_ hk => ⟨trivial, fun e_ => hk e_⟩))); (case aS => exact (below_size (mb HB.out))); (case aL => have := LMc11.out; omega); intro v276 w12 ho hb hg hat; rw [← Ny275.out] at ho; replace HB := am (hb); have HO277 := am (ho); clear HO_3; clear HO_5; clear ho hb hg hat))
      go_roundg k2
      case measure => have := HK1.out; have := HK2.out; omega
      case rel => exact ⟨(y275), (wrap64 (x11_1 + 1)), eqF, H', ⟨by have := HK1.out; have := HK2.out; omega⟩, ⟨mvS HO277.out⟩, ⟨mb HB.out⟩⟩
     rw [if_pos c4] at H
     have c4b0 := decide_eq_true c4
     clear c4
     replace H := ifD H; obtain ⟨c5b0, H⟩ := H
     replace H := ifD H; obtain ⟨c6b0, H⟩ := H
     replace H := ifD H; obtain ⟨c7b0, H⟩ := H
     replace H := ifD H; obtain ⟨c8b0, H⟩ := H
     replace H := ifA H; obtain ⟨LMc9, H⟩ := H
     replace H := nameA (x5_2 ++ [rd (rd_L1 l0 x16_2) x11_1]) (fun y272 => (spec_gmTurned.l1 k2 l0 x3_1 x11_1 y272 ((rd_L1 l0 0).length : Int) x11_1 (l0.length : Int) (wrap64 (x16_2 + 1))) = some r) H; obtain ⟨y272, Ny272, H⟩ := H
     have H' := Aside0.mk H
     clear H
     have p270 : 0 ≤ (x16_2 : Int) := odE
     have q270 : x16_2 < (l0.length : Int) := odE
     obtain ⟨ad270, A270_0, c270_0, e270, hx270_0, hl270_0, hi270_0⟩ := at_L1 HR0.out x16_2 p270 q270
     obtain rfl : ad269 = ad270 := (by injection e270)
     replace hx270_0 := (HB.out.cell (World.block_lt_of_cell? w _ hx270_0)).trans hx270_0
     have HR270_0 := Aside0.mk hi270_0
     have HC270_0 := Aside0.mk hl270_0
     clear hi270_0 hl270_0
     replace p270 := eq_true p270
     replace q270 := eq_true q270
     have p271 : 0 ≤ (x11_1 : Int) := odE
     have q271 : x11_1 < ((rd_L1 l0 x16_2).length : Int) := odE
     obtain ⟨ad271, e271, hx271_0⟩ := Kd.at_int HR270_0.out x11_1 p271 q271
     cases e271
     replace hx271_0 := (HB.out.cell (World.block_lt_of_cell? w _ hx271_0)).trans hx271_0
     replace p271 := eq_true p271
     replace q271 := eq_true q271
     go_wp2_with (first | ((with_reducible refine gate_builtin (b := .append) (xs := #[.tmp 19, .tmp 27]) rfl ?_); at_builtin; refine Kd.R_append (Kd.int .i64) (w0 := w) w.heap.size rfl (.tmp 19) (.tmp 27) 38 3 (.int .i64 0) 8 rfl Try.underlying38 info3 rfl (by decide) (by omega) u5 x5_2 (rd (rd_L1 l0 x16_2) x11_1) [.int .i64 (rd (rd_L1 l0 x16_2) x11_1)] (fun _ => True) (fun _ => False) rfl rfl ?aP (fun _ hk => hk.elim) ?aF ?aO ?aB ?aS ?aL ?_; (case aP => exact rfl); (case aB => exact (mb HB.out)); (case aF => exact (fun _ _ => trivial)); (case aO => exact (mvR HO_5.out)); (case aS => exact (below_size (mb HB.out))); (case aL => have := LMc9.out; omega); intro v273 w10 ho hb hg hat; rw [← Ny272.out] at ho; replace HO_3 := am (Kd.S_after (ok := (fun _ => True)) (Kd.S_mono (mvS HO_3.out) (fun _ hk => ⟨trivial, hk⟩)) hg hat); replace HB := am (hb); have HO274 := am (ho); clear HO_5; clear ho hb hg hat))
     go_roundg k2
     case measure => have := HK1.out; have := HK2.out; omega
     case rel => exact ⟨(y272), (wrap64 (x16_2 + 1)), eqF, H', ⟨by have := HK1.out; have := HK2.out; omega⟩, ⟨Kd.S_mono (mvS HO_3.out) (fun _ hk => hk.2)⟩, ⟨mvR HO274.out⟩, ⟨mb HB.out⟩⟩
mutual
def spec_gmFigure.j0 : Nat → List (List Int) → Option ((List (List Int)))
 | 0, _ => none
 | k + 1, x5 => spec_gmFigure.l0 k ([] : List (List Int)) x5 (x5.length : Int) 0
def spec_gmFigure.l0 : Nat → List (List Int) → List (List Int) → Int → Int → Option ((List (List Int)))
 | 0, _, _, _, _ => none
 | k + 1, x6, x19, x20, x21 => if x21 < x20 then (if 0 ≤ x21 then (if x21 < (x19.length : Int) then (spec_gmFigure.l1 k x6 ([] : List Int) x19 x20 x21 (rd_L1 x19 x21) ((rd_L1 x19 x21).length : Int) 0) else (none)) else (none)) else (some x6)
def spec_gmFigure.l1 : Nat → List (List Int) → List Int → List (List Int) → Int → Int → List Int → Int → Int → Option ((List (List Int)))
 | 0, _, _, _, _, _, _, _, _ => none
 | k + 1, x6, x9, x19, x20, x21, x25, x26, x27 => if x27 < x26 then (if 0 ≤ x27 then (if x27 < (x25.length : Int) then (if x9.length < 17592186044416 then (spec_gmFigure.l1 k x6 (x9 ++ [wrap64 ((rd x25 x27) + 10)]) x19 x20 x21 x25 x26 (wrap64 (x27 + 1))) else (none)) else (none)) else (none)) else (if x6.length < 5864062014805 then (spec_gmFigure.l0 k (x6 ++ [x9]) x19 x20 (wrap64 (x21 + 1))) else (none))
end
def spec_gmFigure.f (k : Nat) (l0_0 : List (List Int)) (l0_1 : List (List Int)) (a1 : Int) : Option ((List (List Int))) := if a1 = 1 then ((spec_gmTurned.f k l0_1).bind fun t279 => (spec_gmFigure.j0 k t279)) else (spec_gmFigure.j0 k l0_0)
theorem spec_gmFigure.mono_l : ∀ k, (∀ y0, LeO (spec_gmFigure.j0 k y0) (spec_gmFigure.j0 (k + 1) y0)) ∧ (∀ y0 y1 y2 y3, LeO (spec_gmFigure.l0 k y0 y1 y2 y3) (spec_gmFigure.l0 (k + 1) y0 y1 y2 y3)) ∧ (∀ y0 y1 y2 y3 y4 y5 y6 y7, LeO (spec_gmFigure.l1 k y0 y1 y2 y3 y4 y5 y6 y7) (spec_gmFigure.l1 (k + 1) y0 y1 y2 y3 y4 y5 y6 y7))
 | 0 => ⟨fun _ r h => by simp [spec_gmFigure.j0] at h, fun _ _ _ _ r h => by simp [spec_gmFigure.l0] at h, fun _ _ _ _ _ _ _ _ r h => by simp [spec_gmFigure.l1] at h⟩
 | k + 1 => by
  obtain ⟨ih0, ih1, ih2⟩ := spec_gmFigure.mono_l k
  refine ⟨?_, ?_, ?_⟩ <;> intros <;> (first | unfold spec_gmFigure.j0 | unfold spec_gmFigure.l0 | unfold spec_gmFigure.l1)
  all_goals repeat' first
  | (with_reducible exact ih0 ..)
  | (with_reducible exact ih1 ..)
  | (with_reducible exact ih2 ..)
  | (with_reducible exact spec_gmTurned.mono ..)
  | (with_reducible exact LeO.refl _)
  | (with_reducible exact LeO.none _)
  | (with_reducible refine LeO.ite ?_ ?_)
  | (with_reducible refine LeO.bind ?_ (fun _ => ?_))
theorem spec_gmFigure.mono : ∀ a0 a1 a2 k, LeO (spec_gmFigure.f k a0 a1 a2) (spec_gmFigure.f (k + 1) a0 a1 a2) := by
 intro a0 a1 a2 k
 obtain ⟨ih0, ih1, ih2⟩ := spec_gmFigure.mono_l k
 unfold spec_gmFigure.f
 repeat' first
   | (with_reducible exact ih0 ..)
   | (with_reducible exact ih1 ..)
   | (with_reducible exact ih2 ..)
   | (with_reducible exact spec_gmTurned.mono ..)
   | (with_reducible exact LeO.refl _)
   | (with_reducible exact LeO.none _)
   | (with_reducible refine LeO.ite ?_ ?_)
   | (with_reducible refine LeO.bind ?_ (fun _ => ?_))
set_option maxHeartbeats 8000000 in
set_option maxRecDepth 100000 in
theorem spec_gmFigure.calls (k : Nat) (P0_0_ : Nat → Prop) (A0_0 : Option Addr) (c0_0 : Nat) (l0_0 : List (List Int)) (A0_1 : Option Addr) (c0_1 : Nat) (l0_1 : List (List Int)) (a1 : Int) (r : List (List Int)) (w : World) (hs0_0 : Kd.V (Kd.slice 3 (Kd.int .i64)) 38 w w.heap.size (fun k_ => P0_0_ k_) (.slice A0_0 l0_0.length c0_0) l0_0) (hr0_1 : Kd.C (Kd.slice 3 (Kd.int .i64)) w A0_1 l0_1.length l0_1) (hc0_1 : l0_1.length ≤ c0_1) (h : spec_gmFigure.f k l0_0 l0_1 a1 = some r) :
  Calls Try.prog 27 #[.agg #[.slice A0_0 l0_0.length c0_0, .slice A0_1 l0_1.length c0_1], .int .i64 a1] w fun e w' => ∃ v0_ : Value, e = .returned (v0_) ∧ Kd.S (Kd.slice 3 (Kd.int .i64)) 38 w' w.heap.size (fun k_ => (w.heap.size ≤ k_)) v0_ r ∧ Below w.heap.size w w' := by
 have hu28 := Try.underlying28
 have HO0_0 := Aside0.mk (show Kd.V (Kd.slice 3 (Kd.int .i64)) 38 w w.heap.size (fun k_ => (P0_0_ k_ ∨ w.heap.size ≤ k_)) (.slice A0_0 l0_0.length c0_0) l0_0 from Kd.V_mono hs0_0 (fun k_ hk => .inl hk))
 have HR0_1 := Aside0.mk hr0_1
 have HC0_1 := Aside0.mk hc0_1
 clear hr0_1 hc0_1
 have HB := Aside0.mk (Below.refl w.heap.size w)
 have H : (if a1 = 1 then ((spec_gmTurned.f k l0_1).bind fun t279 => (spec_gmFigure.j0 k t279)) else (spec_gmFigure.j0 k l0_0)) = some r := h
 clear h
 have HC3 := Aside0.mk H
 clear H
 go_enter Try.func27, Try.ntmps27
 go_upto_if 15 with (first | ((with_reducible refine gate_dst (N := 2) rfl ?_); refine bE 2 #[.slice A0_0 l0_0.length c0_0, .slice A0_1 l0_1.length c0_1] 28 ?_; intro gb278 hg w4 hbox hb; replace HO0_0 := am (Kd.V_below (Kd.V_elderB (mvV HO0_0.out) gb278 (Nat.le_of_eq hg.symm)) hb); have BK278 := am (hbox); have GW278 := am ((by rw [hg]; exact (below_size (mb HB.out)) : w.heap.size ≤ gb278)); have GE278 := GW278; replace HB := am (below_step (mb HB.out) hb); clear hb hbox hg; have hcz5_0 := cell0 BK278.out; have hcz5_1 := cell1 BK278.out; have hfz5_0 := blk_frozen BK278.out 0; have hfz5_1 := blk_frozen BK278.out 1))
 (try simp only [Act.put, List.setIfInBounds_toArray, List.set_cons_zero, List.set_cons_succ])
 go_cut [5] (fun v5 wc => ∃ (kq : Nat) (x5_2 : List (List Int)), Aside0 (spec_gmFigure.j0 kq x5_2 = some r) ∧ Aside0 (kq ≤ k) ∧ Aside0 (Kd.V (Kd.slice 3 (Kd.int .i64)) 38 wc w.heap.size (fun k_ => (P0_0_ k_ ∨ w.heap.size ≤ k_) ∧ k_ ≠ gb278) v5 x5_2) ∧ Aside0 (Kd.V (Kd.slice 3 (Kd.int .i64)) 38 wc w.heap.size (fun k_ => (P0_0_ k_ ∨ w.heap.size ≤ k_) ∧ k_ ≠ gb278) (.slice A0_0 l0_0.length c0_0) l0_0) ∧ Aside0 (wc.heap[gb278]? = some (.cells #[(.slice A0_0 l0_0.length c0_0), (.slice A0_1 l0_1.length c0_1)] 28 (0, 0))) ∧ Aside0 (Below w.heap.size w wc))
 case first =>
  have H := HC3.out
  clear HC3
  by_cases c6 : a1 = 1
  rotate_left
  ·rw [if_neg c6] at H
   have c6b0 := neb1 c6
   have c6b1 := neb2 c6
   (first | rw [c6b0] | (simp only [i64_w, i32_w]; rw [c6b0]) | skip)
   have H' := Aside0.mk H
   clear H
   go_wp2
   go_meet
   case rel => exact ⟨_, (l0_0), H', ⟨by first | omega | exact Nat.le_refl _⟩, ⟨mvV HO0_0.out⟩, ⟨mvV HO0_0.out⟩, ⟨mvK BK278.out⟩, ⟨mb HB.out⟩⟩
  rw [if_pos c6] at H
  have c6b0 := eqb1 c6
  have c6b1 := eqb2 c6
  clear c6
  (first | rw [c6b0] | (simp only [i64_w, i32_w]; rw [c6b0]) | skip)
  replace H := bindA H; obtain ⟨t279, A7, H⟩ := H
  have H' := Aside0.mk H
  clear H
  have hcz8_0 := cell0 BK278.out
  have hcz8_1 := cell1 BK278.out
  have hfz8_0 := blk_frozen BK278.out 0
  have hfz8_1 := blk_frozen BK278.out 1
  go_wp2_with (first | ((with_reducible refine gC 51 rfl ?_); refine gL 18 Try.func51 #[.slice A0_1 l0_1.length c0_1] ?_; (with_reducible refine (spec_gmTurned.calls k _ _ l0_1 t279 _ ?side1 ?side2 A7.out).mono ?_); (case side1 => exact mvC (Kd.C_below HR0_1.out HB.out)); (case side2 => exact HC0_1.out); rintro e w9 ⟨v280, rfl, ho0, hb⟩; refine ⟨_, rfl, ?_⟩; replace HO0_0 := am (Kd.V_elder' (mvV HO0_0.out) (Kd.S_base ho0) hb); have HO281 := am (Kd.S_lower (Kd.S_newM (M := fun k_ => (w.heap.size ≤ k_)) ho0 (below_size (mb HB.out)) (fun k_ h_ => h_)) (below_size (mb HB.out))); replace BK278 := am (blk_below (mvK BK278.out) hb); replace HB := am (below_step (mb HB.out) hb); (try clear hb ho0)))
  go_meet
  case rel => exact ⟨_, (t279), H', ⟨by first | omega | exact Nat.le_refl _⟩, ⟨Kd.V_mono (Kd.S_V (Kd.S_types HO281.out BK278.out (by decide))) (fun k_ hk => ⟨.inr hk.1.1, hk.2⟩)⟩, ⟨Kd.V_mono (mvV HO0_0.out) (fun _ hk => ⟨hk.1.1, hk.1.2⟩)⟩, ⟨mvK BK278.out⟩, ⟨mb HB.out⟩⟩
 case rest =>
  clear HC3
  obtain ⟨kq, x5_2, HA, HJ2, HO_5, HO_279000, BK278, HB⟩ := hcut
  cases kq with
  | zero => exact absurd HA.out (by simp [spec_gmFigure.j0])
  | succ kj2 =>
   have H := HA.out
   clear HA
   simp only [spec_gmFigure.j0] at H
   have H' := Aside0.mk H
   clear H
   obtain ⟨Ao10, co10, eo10⟩ := Kd.V_slice HO_5.out
   subst eo10
   go_wp2
   go_loopg [6, 21] kj2 (fun kq v6 v21 w' => ∃ (x6_2 : List (List Int)) (x21_2 : Int), v21 = .int .i64 x21_2 ∧ Aside0 (spec_gmFigure.l0 kq x6_2 x5_2 (x5_2.length : Int) x21_2 = some r) ∧ Aside0 (kq ≤ kj2) ∧ Aside0 (Kd.S (Kd.slice 3 (Kd.int .i64)) 38 w' w.heap.size (fun k_ => (w.heap.size ≤ k_)) v6 x6_2) ∧ Aside0 (Kd.V (Kd.slice 3 (Kd.int .i64)) 38 w' w.heap.size (fun k_ => (P0_0_ k_ ∨ w.heap.size ≤ k_) ∧ some k_ ≠ (v6 : Value).ownBlock ∧ k_ ≠ gb278) (.slice Ao10 x5_2.length co10) x5_2) ∧ Aside0 (Kd.V (Kd.slice 3 (Kd.int .i64)) 38 w' w.heap.size (fun k_ => (P0_0_ k_ ∨ w.heap.size ≤ k_) ∧ some k_ ≠ (v6 : Value).ownBlock ∧ k_ ≠ gb278) (.slice A0_0 l0_0.length c0_0) l0_0) ∧ Aside0 (w'.heap[gb278]? = some (.cells #[(.slice A0_0 l0_0.length c0_0), (.slice A0_1 l0_1.length c0_1)] 28 (0, 0))) ∧ Aside0 (Below w.heap.size w w'))
   case atStart => exact ⟨(([] : List (List Int))), (0), eqF, H', ⟨Nat.le_refl _⟩, ⟨by first | exact Kd.S_nil _ _ _ _ _ | exact Kd.N_nil _ _ _ _ _ | exact Kd.V_nil _ _ _ _ _ | exact Kd.Q_nil _ _ _ _ _ | exact Kd.R_nil _ _ _ _ _⟩, ⟨Kd.V_mono (mvV HO_5.out) (fun _ hk => ⟨hk.1, ⟨(by simp [Value.ownBlock]), hk.2⟩⟩)⟩, ⟨Kd.V_mono (mvV HO_279000.out) (fun _ hk => ⟨hk.1, ⟨(by simp [Value.ownBlock]), hk.2⟩⟩)⟩, ⟨mvK BK278.out⟩, ⟨mb HB.out⟩⟩
   case round =>
    clear H'
    obtain ⟨x6_2, x21_2, rfl, HA, HK2, HO_6, HO_19, HO_279000, BK278, HB⟩ := hrel
    cases gk with
    | zero => exact absurd HA.out (by simp [spec_gmFigure.l0])
    | succ k2 =>
     have H := HA.out
     clear HA
     simp only [spec_gmFigure.l0] at H
     by_cases c11 : x21_2 < (x5_2.length : Int)
     rotate_left
     ·rw [if_neg c11] at H
      have c11b0 := decide_eq_false c11
      clear c11
      obtain rfl := Option.some.inj H
      go_wp2
      go_ret
      exact ⟨_, eqE, mvS HO_6.out, mb HB.out⟩
     rw [if_pos c11] at H
     have c11b0 := decide_eq_true c11
     clear c11
     replace H := ifD H; obtain ⟨c12b0, H⟩ := H
     replace H := ifD H; obtain ⟨c13b0, H⟩ := H
     have H' := Aside0.mk H
     clear H
     have p282 : 0 ≤ (x21_2 : Int) := odE
     have q282 : x21_2 < (x5_2.length : Int) := odE
     obtain ⟨ad282, A282_0, c282_0, e282, hx282_0, hl282_0, hi282_0⟩ := at_L1 (Kd.V_reads' HO_19.out).2.2 x21_2 p282 q282
     cases e282
     obtain ⟨ce282, hce282, hMe282, hcc282⟩ := Kd.V_get HO_19.out [] x21_2 p282 (by first | exact q282 | exact odE | (have e_ := (Kd.V_reads' HO_19.out).1; omega))
     obtain ⟨ua282_0, uc282_0, rfl, ul282_0, ge282_0⟩ := Kd.FK_slice_open hMe282
     have hv282_0 := hcc282 0 _ rfl
     rw [Nat.add_zero, show ((Kd.slice 3 (Kd.int .i64))).sz = 1 from rfl, Nat.mul_one] at hv282_0
     replace hv282_0 := Option.some.inj (hv282_0.symm.trans hx282_0)
     injection hv282_0 with hva_ hvn_ hvc_
     rw [hva_] at ge282_0
     rw [hvc_] at ul282_0
     have HL282_0 := Aside0.mk (show Kd.V (Kd.int .i64) 3 _ w.heap.size _ _ (rd_L1 x5_2 x21_2) from Kd.V_mk ul282_0 ge282_0)
     clear hva_ hvn_ hvc_ ge282_0 ul282_0
     clear hcc282 hce282
     have HR282_0 := Aside0.mk hi282_0
     have HC282_0 := Aside0.mk hl282_0
     clear hi282_0 hl282_0
     replace p282 := eq_true p282
     replace q282 := eq_true q282
     go_wp2
     go_loopg [9, 27] k2 (fun kq v9 v27 w' => ∃ (x9_3 : List Int) (x27_3 : Int), v27 = .int .i64 x27_3 ∧ Aside0 (spec_gmFigure.l1 kq x6_2 x9_3 x5_2 (x5_2.length : Int) x21_2 (rd_L1 x5_2 x21_2) ((rd_L1 x5_2 x21_2).length : Int) x27_3 = some r) ∧ Aside0 (kq ≤ k2) ∧ Aside0 (Kd.S (Kd.slice 3 (Kd.int .i64)) 38 w' w.heap.size (fun k_ => (w.heap.size ≤ k_) ∧ some k_ ≠ (v9 : Value).ownBlock) u6 x6_2) ∧ Aside0 (Kd.R (Kd.int .i64) 3 w' w.heap.size (fun k_ => (w.heap.size ≤ k_)) v9 x9_3) ∧ Aside0 (Kd.V (Kd.slice 3 (Kd.int .i64)) 38 w' w.heap.size (fun k_ => (P0_0_ k_ ∨ w.heap.size ≤ k_) ∧ some k_ ≠ (u6 : Value).ownBlock ∧ some k_ ≠ (v9 : Value).ownBlock ∧ k_ ≠ gb278) (.slice (some ad282) x5_2.length co10) x5_2) ∧ Aside0 (Kd.V (Kd.int .i64) 3 w' w.heap.size (fun k_ => (P0_0_ k_ ∨ w.heap.size ≤ k_) ∧ some k_ ≠ (u6 : Value).ownBlock ∧ some k_ ≠ (v9 : Value).ownBlock ∧ k_ ≠ gb278) (.slice A282_0 (rd_L1 x5_2 x21_2).length c282_0) (rd_L1 x5_2 x21_2)) ∧ Aside0 (Kd.V (Kd.slice 3 (Kd.int .i64)) 38 w' w.heap.size (fun k_ => (P0_0_ k_ ∨ w.heap.size ≤ k_) ∧ some k_ ≠ (u6 : Value).ownBlock ∧ some k_ ≠ (v9 : Value).ownBlock ∧ k_ ≠ gb278) (.slice A0_0 l0_0.length c0_0) l0_0) ∧ Aside0 (w'.heap[gb278]? = some (.cells #[(.slice A0_0 l0_0.length c0_0), (.slice A0_1 l0_1.length c0_1)] 28 (0, 0))) ∧ Aside0 (Below w.heap.size w w'))
     case atStart => exact ⟨(([] : List Int)), (0), eqF, H', ⟨Nat.le_refl _⟩, ⟨Kd.S_mono (mvS HO_6.out) (fun _ hk => ⟨hk, (by simp [Value.ownBlock])⟩)⟩, ⟨nilE⟩, ⟨Kd.V_mono (mvV HO_19.out) (fun _ hk => ⟨hk.1, ⟨hk.2.1, ⟨(by simp [Value.ownBlock]), hk.2.2⟩⟩⟩)⟩, ⟨Kd.V_mono (mvV HL282_0.out) (fun _ hk => ⟨hk.1, ⟨hk.2.1, ⟨(by simp [Value.ownBlock]), hk.2.2⟩⟩⟩)⟩, ⟨Kd.V_mono (mvV HO_279000.out) (fun _ hk => ⟨hk.1, ⟨hk.2.1, ⟨(by simp [Value.ownBlock]), hk.2.2⟩⟩⟩)⟩, ⟨mvK BK278.out⟩, ⟨mb HB.out⟩⟩
     case round =>
      clear H'
      obtain ⟨x9_3, x27_3, rfl, HA, HK3, HO_6, HO_9, HO_19, HLR, HO_279000, BK278, HB⟩ := hrel
      cases gk with
      | zero => exact absurd HA.out (by simp [spec_gmFigure.l1])
      | succ k3 =>
       have H := HA.out
       clear HA
       simp only [spec_gmFigure.l1] at H
       by_cases c14 : x27_3 < ((rd_L1 x5_2 x21_2).length : Int)
       rotate_left
       ·rw [if_neg c14] at H
        have c14b0 := decide_eq_false c14
        clear c14
        replace H := ifA H; obtain ⟨LMc19, H⟩ := H
        replace H := nameA (x6_2 ++ [x9_3]) (fun y287 => (spec_gmFigure.l0 k3 y287 x5_2 (x5_2.length : Int) (wrap64 (x21_2 + 1))) = some r) H; obtain ⟨y287, Ny287, H⟩ := H
        have H' := Aside0.mk H
        clear H
        obtain ⟨Ao21, co21, eo21⟩ := Kd.R_slice HO_9.out
        subst eo21
        go_wp2_with (first | ((with_reducible refine gate_builtin (b := .append) (xs := #[.tmp 37, .tmp 39]) rfl ?_); at_builtin; refine Kd.S_append (Kd.slice 3 (Kd.int .i64)) (w0 := w) w.heap.size rfl (.tmp 37) (.tmp 39) 22 38 (.slice none 0 0) 24 rfl Try.underlying22 info38 rfl (by decide) (by omega) u6 x6_2 x9_3 [.slice Ao21 x9_3.length co21] (fun k_ => (w.heap.size ≤ k_)) (fun k_ => some k_ = (.slice Ao21 x9_3.length co21 : Value).ownBlock) rfl rfl ?aP (fun k_ hk_ => ((Kd.R_mono (ok' := fun k_ => ((fun k_ => (w.heap.size ≤ k_))) k_ ∧ some k_ ≠ (u6 : Value).ownBlock) (Kd.R_apart' (HO_9.out) (Kd.S_typed HO_6.out) (by decide)) (fun k_ hk => ⟨hk.1, hk.2⟩))).1 k_ hk_.symm) ?aF ?aO ?aB ?aS ?aL ?_; (case aP => exact Kd.M_row (Kd.R_mono (Kd.R_tight rfl (Kd.R_mono (ok' := fun k_ => ((fun k_ => (w.heap.size ≤ k_))) k_ ∧ some k_ ≠ (u6 : Value).ownBlock) (Kd.R_apart' (HO_9.out) (Kd.S_typed HO_6.out) (by decide)) (fun k_ hk => ⟨hk.1, hk.2⟩))) (fun _ h_ => h_))); (case aB => exact (mb HB.out)); (case aF => exact (fun k_ hk => (Nat.le_trans (below_size (mb HB.out)) hk))); (case aO => exact (Kd.S_mono (mvS HO_6.out) (fun k_ hk => ⟨hk.1, fun e_ => hk.2 e_⟩))); (case aS => exact (below_size (mb HB.out))); (case aL => have := LMc19.out; omega); intro v288 w20 ho hb hg hat; rw [← Ny287.out] at ho; replace HO_19 := am (Kd.V_afterv (ok := (fun k_ => (P0_0_ k_ ∨ w.heap.size ≤ k_) ∧ some k_ ≠ (.slice Ao21 x9_3.length co21 : Value).ownBlock ∧ k_ ≠ gb278)) (Kd.V_mono (mvV HO_19.out) (fun _ hk => ⟨⟨hk.1, ⟨hk.2.2.1, hk.2.2.2⟩⟩, hk.2.1⟩)) hg hat); replace HO_279000 := am (Kd.V_afterv (ok := (fun k_ => (P0_0_ k_ ∨ w.heap.size ≤ k_) ∧ some k_ ≠ (.slice Ao21 x9_3.length co21 : Value).ownBlock ∧ k_ ≠ gb278)) (Kd.V_mono (mvV HO_279000.out) (fun _ hk => ⟨⟨hk.1, ⟨hk.2.2.1, hk.2.2.2⟩⟩, hk.2.1⟩)) hg hat); replace BK278 := am (blk_grown (mvK BK278.out) hg (Kd.S_ne HO_6.out BK278.out (by decide))); replace HB := am (hb); have HO289 := am (ho); clear HO_6; clear HO_9; clear ho hb hg hat))
        go_roundg k3
        case measure => have := HJ2.out; have := HK2.out; have := HK3.out; omega
        case rel => exact ⟨(y287), (wrap64 (x21_2 + 1)), eqF, H', ⟨by have := HJ2.out; have := HK2.out; have := HK3.out; omega⟩, ⟨mvS HO289.out⟩, ⟨Kd.V_mono (mvV HO_19.out) (fun _ hk => ⟨hk.1.1, ⟨hk.2, hk.1.2.2⟩⟩)⟩, ⟨Kd.V_mono (mvV HO_279000.out) (fun _ hk => ⟨hk.1.1, ⟨hk.2, hk.1.2.2⟩⟩)⟩, ⟨mvK BK278.out⟩, ⟨mb HB.out⟩⟩
       rw [if_pos c14] at H
       have c14b0 := decide_eq_true c14
       clear c14
       replace H := ifD H; obtain ⟨c15b0, H⟩ := H
       replace H := ifD H; obtain ⟨c16b0, H⟩ := H
       replace H := ifA H; obtain ⟨LMc17, H⟩ := H
       replace H := nameA (x9_3 ++ [wrap64 ((rd (rd_L1 x5_2 x21_2) x27_3) + 10)]) (fun y284 => (spec_gmFigure.l1 k3 x6_2 y284 x5_2 (x5_2.length : Int) x21_2 (rd_L1 x5_2 x21_2) ((rd_L1 x5_2 x21_2).length : Int) (wrap64 (x27_3 + 1))) = some r) H; obtain ⟨y284, Ny284, H⟩ := H
       have H' := Aside0.mk H
       clear H
       have p283 : 0 ≤ (x27_3 : Int) := odE
       have q283 : x27_3 < ((rd_L1 x5_2 x21_2).length : Int) := odE
       obtain ⟨ad283, e283, hx283_0⟩ := Kd.at_int (Kd.V_reads' HLR.out).2.2 x27_3 p283 q283
       cases e283
       replace p283 := eq_true p283
       replace q283 := eq_true q283
       go_wp2_with (first | ((with_reducible refine gate_builtin (b := .append) (xs := #[.tmp 31, .tmp 34]) rfl ?_); at_builtin; refine Kd.R_append (Kd.int .i64) (w0 := w) w.heap.size rfl (.tmp 31) (.tmp 34) 38 3 (.int .i64 0) 8 rfl Try.underlying38 info3 rfl (by decide) (by omega) u9 x9_3 (wrap64 ((rd (rd_L1 x5_2 x21_2) x27_3) + 10)) [.int .i64 (wrap64 ((rd (rd_L1 x5_2 x21_2) x27_3) + 10))] (fun k_ => (w.heap.size ≤ k_)) (fun _ => False) rfl rfl ?aP (fun _ hk => hk.elim) ?aF ?aO ?aB ?aS ?aL ?_; (case aP => exact rfl); (case aB => exact (mb HB.out)); (case aF => exact (fun k_ hk => (Nat.le_trans (below_size (mb HB.out)) hk))); (case aO => exact (mvR HO_9.out)); (case aS => exact (below_size (mb HB.out))); (case aL => have := LMc17.out; omega); intro v285 w18 ho hb hg hat; rw [← Ny284.out] at ho; replace HO_6 := am (Kd.S_after (ok := (fun k_ => (w.heap.size ≤ k_))) (mvS HO_6.out) hg hat); replace HO_19 := am (Kd.V_afterv (ok := (fun k_ => (P0_0_ k_ ∨ w.heap.size ≤ k_) ∧ some k_ ≠ (u6 : Value).ownBlock ∧ k_ ≠ gb278)) (Kd.V_mono (mvV HO_19.out) (fun _ hk => ⟨⟨hk.1, ⟨hk.2.1, hk.2.2.2⟩⟩, hk.2.2.1⟩)) hg hat); replace HLR := am (Kd.V_afterv (ok := (fun k_ => (P0_0_ k_ ∨ w.heap.size ≤ k_) ∧ some k_ ≠ (u6 : Value).ownBlock ∧ k_ ≠ gb278)) (Kd.V_mono (mvV HLR.out) (fun _ hk => ⟨⟨hk.1, ⟨hk.2.1, hk.2.2.2⟩⟩, hk.2.2.1⟩)) hg hat); replace HO_279000 := am (Kd.V_afterv (ok := (fun k_ => (P0_0_ k_ ∨ w.heap.size ≤ k_) ∧ some k_ ≠ (u6 : Value).ownBlock ∧ k_ ≠ gb278)) (Kd.V_mono (mvV HO_279000.out) (fun _ hk => ⟨⟨hk.1, ⟨hk.2.1, hk.2.2.2⟩⟩, hk.2.2.1⟩)) hg hat); replace BK278 := am (blk_grown (mvK BK278.out) hg (Kd.R_ne HO_9.out BK278.out (by decide))); replace HB := am (hb); have HO286 := am (ho); clear HO_9; clear ho hb hg hat))
       go_roundg k3
       case measure => have := HJ2.out; have := HK2.out; have := HK3.out; omega
       case rel => exact ⟨(y284), (wrap64 (x27_3 + 1)), eqF, H', ⟨by have := HJ2.out; have := HK2.out; have := HK3.out; omega⟩, ⟨mvS HO_6.out⟩, ⟨mvR HO286.out⟩, ⟨Kd.V_mono (mvV HO_19.out) (fun _ hk => ⟨hk.1.1, ⟨hk.1.2.1, ⟨hk.2, hk.1.2.2⟩⟩⟩)⟩, ⟨Kd.V_mono (mvV HLR.out) (fun _ hk => ⟨hk.1.1, ⟨hk.1.2.1, ⟨hk.2, hk.1.2.2⟩⟩⟩)⟩, ⟨Kd.V_mono (mvV HO_279000.out) (fun _ hk => ⟨hk.1.1, ⟨hk.1.2.1, ⟨hk.2, hk.1.2.2⟩⟩⟩)⟩, ⟨mvK BK278.out⟩, ⟨mb HB.out⟩⟩
end Go.Proofs.Ytggiicplcglalaa.All
end
