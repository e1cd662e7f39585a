-- Written by wip/tools/xprint.py (a program of this claim's session, over the kit's print). Lean checks it.
import Derived.Test.YtmodnjljgcmdlaaQPx0
import Derived.Test.YtmodnjljgcmdlaaQPx3
import Derived.Test.YtmodnjljgcmdlaaQPx4
import Derived.Test.YtmodnjljgcmdlaaQPx5
namespace Go.Proofs.Ytmodnjljgcmdlaa.All
open Go.RowKit Go.Proofs.YtmodnjljgcmdlaaW.PrintWords Go.Proofs.YtmodnjljgcmdlaaW.PrintLast Go.Proofs.YtmodnjljgcmdlaaW.PrintMore
attribute [local go_sem] max2_int min2_int max_two min_two max_three min_three max_four min_four   -- for this text's walks alone
set_option linter.unusedVariables false
set_option linter.unusedSimpArgs false

/-! ### impl_PointOfWeights: function 28 -/
def impl_PointOfWeights.j0 : Nat → Int → Int → List Int → Bool → Option (List Int × Bool)
  | 0, _, _, _, _ => none
  | k + 1, x0, x1, x2, x26 => if x26 = true then (some (([] : List Int), false)) else ((impl_cells.f k x0).bind fun t217 => (if 0 ≤ x1 then (if x1 < (t217.length : Int) then ((impl_points.f k x0).bind fun t221 => (if 0 < ((rd_L1 t217 x1).length : Int) then (if 0 ≤ (rd (rd_L1 t217 x1) 0) then (if (rd (rd_L1 t217 x1) 0) < (t221.length : Int) then (if 1 < ((rd_L1 t217 x1).length : Int) then (if 0 ≤ (rd (rd_L1 t217 x1) 1) then (if (rd (rd_L1 t217 x1) 1) < (t221.length : Int) then (if 2 < ((rd_L1 t217 x1).length : Int) then (if 0 ≤ (rd (rd_L1 t217 x1) 2) then (if (rd (rd_L1 t217 x1) 2) < (t221.length : Int) then ((impl_mix.f k x2 [[(rd_T60 t221 (rd (rd_L1 t217 x1) 0)).f0, (rd_T60 t221 (rd (rd_L1 t217 x1) 0)).f1, (rd_T60 t221 (rd (rd_L1 t217 x1) 0)).f2], [(rd_T60 t221 (rd (rd_L1 t217 x1) 1)).f0, (rd_T60 t221 (rd (rd_L1 t217 x1) 1)).f1, (rd_T60 t221 (rd (rd_L1 t217 x1) 1)).f2], [(rd_T60 t221 (rd (rd_L1 t217 x1) 2)).f0, (rd_T60 t221 (rd (rd_L1 t217 x1) 2)).f1, (rd_T60 t221 (rd (rd_L1 t217 x1) 2)).f2]]).bind fun t238 => (some (t238, true))) else (none)) else (none)) else (none)) else (none)) else (none)) else (none)) else (none)) else (none)) else (none))) else (none)) else (none)))
def impl_PointOfWeights.f (k : Nat) (a0 : Int) (a1 : Int) (l2 : List Int) : Option (List Int × Bool) := (impl_in.f a0 1 5).bind fun t214 => (if t214 = true then ((impl_isCell.f a0 a1).bind fun t215 => (if t215 = true then ((impl_areMixed.f k l2).bind fun t216 => (impl_PointOfWeights.j0 k a0 a1 l2 (!t216))) else (impl_PointOfWeights.j0 k a0 a1 l2 true))) else (impl_PointOfWeights.j0 k a0 a1 l2 true))


def impl_PointOfWeights.T3 : Bool × List (List Nat × List Nat) := (true, [([], []), ([0], [0]), ([], []), ([1, 2], [1, 2]), ([3], [3]), ([], []), ([5, 1], [5]), ([4, 6, 0, 1, 2, 3, 4], [4]), ([6, 7, 0, 1, 2, 3, 4, 5, 6, 7], [6])])
def impl_PointOfWeights.B3 : List Nat := [0, 1, 0, 7, 15, 0, 35, 127, 255]
theorem impl_PointOfWeights.tab3 : rtab .any (opsOf Try.f28 3) = impl_PointOfWeights.T3 := by kernel_rfl
theorem impl_PointOfWeights.bits3 : waitsOk impl_PointOfWeights.T3.2 impl_PointOfWeights.B3 = true := by kernel_rfl
def impl_PointOfWeights.T4 : Bool × List (List Nat × List Nat) := (true, [([], []), ([], []), ([1], [1]), ([2], [2]), ([0, 3], [0, 3]), ([4], [4]), ([], []), ([], []), ([7], [7]), ([8], [8]), ([6, 9], [6, 9]), ([10], [10]), ([], []), ([], []), ([13], [13]), ([14], [14]), ([12, 15], [12, 15]), ([16], [16]), ([], []), ([], []), ([], []), ([18, 5, 0, 1, 2, 3, 4, 5, 9, 11, 15, 17, 18, 19, 20], [5, 18]), ([19, 11, 21, 0, 1, 2, 3, 4, 5, 6, 7, 8, 9, 10, 11, 15, 17, 18, 19, 20, 21], [11, 19]), ([20, 17, 22, 0, 1, 2, 3, 4, 5, 6, 7, 8, 9, 10, 11, 12, 13, 14, 15, 16, 17, 18, 19, 20, 21, 22], [17, 20])])
def impl_PointOfWeights.B4 : List Nat := [0, 0, 2, 6, 15, 31, 0, 0, 128, 384, 960, 1984, 0, 0, 8192, 24576, 61440, 126976, 0, 0, 0, 2097151, 4194303, 8388607]
theorem impl_PointOfWeights.tab4 : rtab .any (opsOf Try.f28 4) = impl_PointOfWeights.T4 := by kernel_rfl
theorem impl_PointOfWeights.bits4 : waitsOk impl_PointOfWeights.T4.2 impl_PointOfWeights.B4 = true := by kernel_rfl
def impl_PointOfWeights.T5 : Bool × List (List Nat × List Nat) := (true, [([], []), ([], []), ([], []), ([], []), ([1, 2, 3], [1, 2, 3]), ([0, 4], [0, 4]), ([5, 5, 0, 1, 2, 3, 4, 5], [5]), ([6, 0, 1, 2, 3, 4, 5, 6], [])])
def impl_PointOfWeights.B5 : List Nat := [0, 0, 0, 0, 14, 31, 63, 127]
theorem impl_PointOfWeights.tab5 : rtab .any (opsOf Try.f28 5) = impl_PointOfWeights.T5 := by kernel_rfl
theorem impl_PointOfWeights.bits5 : waitsOk impl_PointOfWeights.T5.2 impl_PointOfWeights.B5 = true := by kernel_rfl
set_option maxHeartbeats 8000000 in
set_option maxRecDepth 100000 in
theorem impl_PointOfWeights.calls (k : Nat) (a0 : Int) (a1 : Int) (A2 : Option Addr) (c2 : Nat) (l2 : List Int) (r1 : List Int) (r2 : Bool) (w : World) (hr2 : Kd.C (Kd.int .i64) w A2 l2.length l2) (hc2 : l2.length ≤ c2) (h : impl_PointOfWeights.f k a0 a1 l2 = some (r1, r2)) :
    Calls Try.prog 28 #[.int .i64 a0, .int .i64 a1, .slice A2 l2.length c2] w fun e w' => ∃ v0_ : Value, e = .returned (.tuple #[v0_, .bool r2]) ∧ Kd.R (Kd.int .i64) 3 w' w.heap.size (fun _ => True) v0_ r1 ∧ Below w.heap.size w w' := by
  have hu60 := Try.underlying60
  have HR2 := Aside0.mk hr2
  have HC2 := Aside0.mk hc2
  clear hr2 hc2
  have HB := Aside0.mk (Below.refl w.heap.size w)
  have H : ((impl_in.f a0 1 5).bind fun t214 => (if t214 = true then ((impl_isCell.f a0 a1).bind fun t215 => (if t215 = true then ((impl_areMixed.f k l2).bind fun t216 => (impl_PointOfWeights.j0 k a0 a1 l2 (!t216))) else (impl_PointOfWeights.j0 k a0 a1 l2 true))) else (impl_PointOfWeights.j0 k a0 a1 l2 true))) = some (r1, r2) := h
  clear h
  have HC4 := Aside0.mk H
  clear H
  go_enter Try.func28, Try.ntmps28
  go_upto_region 1 with (fail)
  go_cut [26] (fun v26 wc => ∃ (kq : Nat) (x26_3 : Bool), v26 = .bool x26_3 ∧ Aside0 (impl_PointOfWeights.j0 kq a0 a1 l2 x26_3 = some (r1, r2)) ∧ Aside0 (kq ≤ k) ∧ Aside0 (Below w.heap.size w wc))
  case first =>
    have H := HC4.out
    clear HC4
    replace H := Option.bind_eq_some_iff.mp H
    obtain ⟨t214, A50, H⟩ := H
    replace H : (if t214 = true then ((impl_isCell.f a0 a1).bind fun t215 => (if t215 = true then ((impl_areMixed.f k l2).bind fun t216 => (impl_PointOfWeights.j0 k a0 a1 l2 (!t216))) else (impl_PointOfWeights.j0 k a0 a1 l2 true))) else (impl_PointOfWeights.j0 k a0 a1 l2 true)) = some (r1, r2) := H
    have A5 := Aside0.mk A50
    clear A50
    by_cases c6 : t214 = true
    · subst c6
      have H1 : ((impl_isCell.f a0 a1).bind fun t215 => (if t215 = true then ((impl_areMixed.f k l2).bind fun t216 => (impl_PointOfWeights.j0 k a0 a1 l2 (!t216))) else (impl_PointOfWeights.j0 k a0 a1 l2 true))) = some (r1, r2) := by rw [if_pos rfl] at H; first | exact H | (rw [if_pos trivial] at H; rw [if_pos rfl]; exact H)
      clear H
      have H := H1
      clear H1
      replace H := Option.bind_eq_some_iff.mp H
      obtain ⟨t215, A70, H⟩ := H
      replace H : (if t215 = true then ((impl_areMixed.f k l2).bind fun t216 => (impl_PointOfWeights.j0 k a0 a1 l2 (!t216))) else (impl_PointOfWeights.j0 k a0 a1 l2 true)) = some (r1, r2) := H
      have A7 := Aside0.mk A70
      clear A70
      by_cases c8 : t215 = true
      · subst c8
        have H1 : ((impl_areMixed.f k l2).bind fun t216 => (impl_PointOfWeights.j0 k a0 a1 l2 (!t216))) = some (r1, r2) := by rw [if_pos rfl] at H; first | exact H | (rw [if_pos trivial] at H; rw [if_pos rfl]; exact H)
        clear H
        have H := H1
        clear H1
        replace H := Option.bind_eq_some_iff.mp H
        obtain ⟨t216, A90, H⟩ := H
        replace H : (impl_PointOfWeights.j0 k a0 a1 l2 (!t216)) = some (r1, r2) := H
        have A9 := Aside0.mk A90
        clear A90
        have H' := Aside0.mk H
        clear H
        go_wp2_with (first | ((with_reducible refine gate_callee (f := 50) rfl ?_); refine goesL_ (some 14) rfl rfl Try.func50 (by kernel_rfl) rfl #[.int .i64 a0, .int .i64 1, .int .i64 5] rfl (by (try simp only [List.map_toArray, List.map_cons, List.map_nil]); first | done | rfl | (simp only [List.length_drop, List.length_take]; rfl)) ?_; (with_reducible refine (impl_in.calls a0 1 5 true _ A5.out).mono ?_); rintro e w' ⟨rfl, ⟨nd, rfl⟩⟩; refine ⟨_, rfl, ?_⟩) | (go_at_call 65; (with_reducible refine (impl_isCell.calls a0 a1 true _ A7.out).mono ?_); rintro e w' ⟨rfl, ⟨nd, rfl⟩⟩) | (go_at_call 66; (with_reducible refine (impl_areMixed.calls k _ _ l2 t216 _ ?side1 ?side2 A9.out).mono ?_); (case side1 => repeat (first | exact (Kd.C_below HR2.out (by repeat (first | (with_reducible first | exact HB.out | apply below_alloc | apply pw_below_drewN | apply below_drew1) | exact HB.out))) | (with_reducible refine Kd.C_alloc ?_ _) | (with_reducible refine Kd.C_drewN ?_ _) | (with_reducible refine Kd.C_drew ?_))); (case side2 => exact HC2.out); rintro e w10 ⟨rfl, hb⟩; have n0_ := Aside0.mk (below_step (by repeat (first | (with_reducible first | exact HB.out | apply below_alloc | apply pw_below_drewN | apply below_drew1) | exact HB.out)) hb); clear HB; have HB := n0_; clear n0_; (try clear hb); (try clear hb2); (try clear hk); (try clear hi)))
        go_meet
        case rel => exact ⟨_, (!t216), (by first | rfl | (simp; done) | (simp [*]; done) | (simp [i64_w]; done)), H', ⟨by first | omega | exact Nat.le_refl _⟩, ⟨by repeat (first | (with_reducible first | exact HB.out | apply below_alloc | apply pw_below_drewN | apply below_drew1) | exact HB.out)⟩⟩
      · replace c8 := Bool.eq_false_iff.mpr c8
        subst c8
        have H1 : (impl_PointOfWeights.j0 k a0 a1 l2 true) = some (r1, r2) := by rw [if_neg (show ¬ (false = true) by decide)] at H; exact H
        clear H
        have H := H1
        clear H1
        have H' := Aside0.mk H
        clear H
        go_wp2_with (first | ((with_reducible refine gate_callee (f := 50) rfl ?_); refine goesL_ (some 14) rfl rfl Try.func50 (by kernel_rfl) rfl #[.int .i64 a0, .int .i64 1, .int .i64 5] rfl (by (try simp only [List.map_toArray, List.map_cons, List.map_nil]); first | done | rfl | (simp only [List.length_drop, List.length_take]; rfl)) ?_; (with_reducible refine (impl_in.calls a0 1 5 true _ A5.out).mono ?_); rintro e w' ⟨rfl, ⟨nd, rfl⟩⟩; refine ⟨_, rfl, ?_⟩) | (go_at_call 65; (with_reducible refine (impl_isCell.calls a0 a1 false _ A7.out).mono ?_); rintro e w' ⟨rfl, ⟨nd, rfl⟩⟩))
        go_meet
        case rel => exact ⟨_, (true), (by first | rfl | (simp; done) | (simp [*]; done) | (simp [i64_w]; done)), H', ⟨by first | omega | exact Nat.le_refl _⟩, ⟨by repeat (first | (with_reducible first | exact HB.out | apply below_alloc | apply pw_below_drewN | apply below_drew1) | exact HB.out)⟩⟩
    · replace c6 := Bool.eq_false_iff.mpr c6
      subst c6
      have H1 : (impl_PointOfWeights.j0 k a0 a1 l2 true) = some (r1, r2) := by rw [if_neg (show ¬ (false = true) by decide)] at H; exact H
      clear H
      have H := H1
      clear H1
      have H' := Aside0.mk H
      clear H
      go_wp2_with (first | ((with_reducible refine gate_callee (f := 50) rfl ?_); refine goesL_ (some 14) rfl rfl Try.func50 (by kernel_rfl) rfl #[.int .i64 a0, .int .i64 1, .int .i64 5] rfl (by (try simp only [List.map_toArray, List.map_cons, List.map_nil]); first | done | rfl | (simp only [List.length_drop, List.length_take]; rfl)) ?_; (with_reducible refine (impl_in.calls a0 1 5 false _ A5.out).mono ?_); rintro e w' ⟨rfl, ⟨nd, rfl⟩⟩; refine ⟨_, rfl, ?_⟩))
      go_meet
      case rel => exact ⟨_, (true), (by first | rfl | (simp; done) | (simp [*]; done) | (simp [i64_w]; done)), H', ⟨by first | omega | exact Nat.le_refl _⟩, ⟨by repeat (first | (with_reducible first | exact HB.out | apply below_alloc | apply pw_below_drewN | apply below_drew1) | exact HB.out)⟩⟩
  case rest =>
    clear HC4
    try clear c2
    try clear p2
    try clear c5
    try clear c6
    try clear c8
    obtain ⟨kq, x26_3, rfl, HA, HJ3, HB⟩ := hcut
    cases kq with
    | zero => exact absurd HA.out (by simp [impl_PointOfWeights.j0])
    | succ kj3 =>
      have H := HA.out
      clear HA
      simp only [impl_PointOfWeights.j0] at H
      by_cases c11 : x26_3 = true
      · subst c11
        have H1 : (some (([] : List Int), false)) = some (r1, r2) := by rw [if_pos rfl] at H; first | exact H | (rw [if_pos trivial] at H; rw [if_pos rfl]; exact H)
        clear H
        have H := H1
        clear H1
        simp only [Option.some.injEq, Prod.mk.injEq] at H
        obtain ⟨rfl, rfl⟩ := H
        go_wp2
        go_ret2
        exact ⟨_, by first | rfl | (simp [errW_none, errW_some] <;> rfl) | (simp [*, errW_none, errW_some] <;> rfl), by first | exact Kd.R_nil _ _ _ _ _ | exact Kd.N_nil _ _ _ _ _ | exact Kd.V_nil _ _ _ _ _ | exact Kd.Q_nil _ _ _ _ _ | exact Kd.S_nil _ _ _ _ _, by repeat (first | (with_reducible first | exact HB.out | apply below_alloc | apply pw_below_drewN | apply below_drew1) | exact HB.out)⟩
      · replace c11 := Bool.eq_false_iff.mpr c11
        subst c11
        have H1 : ((impl_cells.f kj3 a0).bind fun t217 => (if 0 ≤ a1 then (if a1 < (t217.length : Int) then ((impl_points.f kj3 a0).bind fun t221 => (if 0 < ((rd_L1 t217 a1).length : Int) then (if 0 ≤ (rd (rd_L1 t217 a1) 0) then (if (rd (rd_L1 t217 a1) 0) < (t221.length : Int) then (if 1 < ((rd_L1 t217 a1).length : Int) then (if 0 ≤ (rd (rd_L1 t217 a1) 1) then (if (rd (rd_L1 t217 a1) 1) < (t221.length : Int) then (if 2 < ((rd_L1 t217 a1).length : Int) then (if 0 ≤ (rd (rd_L1 t217 a1) 2) then (if (rd (rd_L1 t217 a1) 2) < (t221.length : Int) then ((impl_mix.f kj3 l2 [[(rd_T60 t221 (rd (rd_L1 t217 a1) 0)).f0, (rd_T60 t221 (rd (rd_L1 t217 a1) 0)).f1, (rd_T60 t221 (rd (rd_L1 t217 a1) 0)).f2], [(rd_T60 t221 (rd (rd_L1 t217 a1) 1)).f0, (rd_T60 t221 (rd (rd_L1 t217 a1) 1)).f1, (rd_T60 t221 (rd (rd_L1 t217 a1) 1)).f2], [(rd_T60 t221 (rd (rd_L1 t217 a1) 2)).f0, (rd_T60 t221 (rd (rd_L1 t217 a1) 2)).f1, (rd_T60 t221 (rd (rd_L1 t217 a1) 2)).f2]]).bind fun t238 => (some (t238, true))) else (none)) else (none)) else (none)) else (none)) else (none)) else (none)) else (none)) else (none)) else (none))) else (none)) else (none))) = some (r1, r2) := by rw [if_neg (show ¬ (false = true) by decide)] at H; exact H
        clear H
        have H := H1
        clear H1
        replace H := Option.bind_eq_some_iff.mp H
        obtain ⟨t217, A120, H⟩ := H
        replace H : (if 0 ≤ a1 then (if a1 < (t217.length : Int) then ((impl_points.f kj3 a0).bind fun t221 => (if 0 < ((rd_L1 t217 a1).length : Int) then (if 0 ≤ (rd (rd_L1 t217 a1) 0) then (if (rd (rd_L1 t217 a1) 0) < (t221.length : Int) then (if 1 < ((rd_L1 t217 a1).length : Int) then (if 0 ≤ (rd (rd_L1 t217 a1) 1) then (if (rd (rd_L1 t217 a1) 1) < (t221.length : Int) then (if 2 < ((rd_L1 t217 a1).length : Int) then (if 0 ≤ (rd (rd_L1 t217 a1) 2) then (if (rd (rd_L1 t217 a1) 2) < (t221.length : Int) then ((impl_mix.f kj3 l2 [[(rd_T60 t221 (rd (rd_L1 t217 a1) 0)).f0, (rd_T60 t221 (rd (rd_L1 t217 a1) 0)).f1, (rd_T60 t221 (rd (rd_L1 t217 a1) 0)).f2], [(rd_T60 t221 (rd (rd_L1 t217 a1) 1)).f0, (rd_T60 t221 (rd (rd_L1 t217 a1) 1)).f1, (rd_T60 t221 (rd (rd_L1 t217 a1) 1)).f2], [(rd_T60 t221 (rd (rd_L1 t217 a1) 2)).f0, (rd_T60 t221 (rd (rd_L1 t217 a1) 2)).f1, (rd_T60 t221 (rd (rd_L1 t217 a1) 2)).f2]]).bind fun t238 => (some (t238, true))) else (none)) else (none)) else (none)) else (none)) else (none)) else (none)) else (none)) else (none)) else (none))) else (none)) else (none)) = some (r1, r2) := H
        have A12 := Aside0.mk A120
        clear A120
        by_cases c13 : 0 ≤ a1
        · rw [if_pos c13] at H
          have c13b0 : decide (0 ≤ a1) = true := decide_eq_true c13
          clear c13
          by_cases c14 : a1 < (t217.length : Int)
          · rw [if_pos c14] at H
            have c14b0 : decide (a1 < (t217.length : Int)) = true := decide_eq_true c14
            clear c14
            replace H := Option.bind_eq_some_iff.mp H
            obtain ⟨t221, A150, H⟩ := H
            replace H : (if 0 < ((rd_L1 t217 a1).length : Int) then (if 0 ≤ (rd (rd_L1 t217 a1) 0) then (if (rd (rd_L1 t217 a1) 0) < (t221.length : Int) then (if 1 < ((rd_L1 t217 a1).length : Int) then (if 0 ≤ (rd (rd_L1 t217 a1) 1) then (if (rd (rd_L1 t217 a1) 1) < (t221.length : Int) then (if 2 < ((rd_L1 t217 a1).length : Int) then (if 0 ≤ (rd (rd_L1 t217 a1) 2) then (if (rd (rd_L1 t217 a1) 2) < (t221.length : Int) then ((impl_mix.f kj3 l2 [[(rd_T60 t221 (rd (rd_L1 t217 a1) 0)).f0, (rd_T60 t221 (rd (rd_L1 t217 a1) 0)).f1, (rd_T60 t221 (rd (rd_L1 t217 a1) 0)).f2], [(rd_T60 t221 (rd (rd_L1 t217 a1) 1)).f0, (rd_T60 t221 (rd (rd_L1 t217 a1) 1)).f1, (rd_T60 t221 (rd (rd_L1 t217 a1) 1)).f2], [(rd_T60 t221 (rd (rd_L1 t217 a1) 2)).f0, (rd_T60 t221 (rd (rd_L1 t217 a1) 2)).f1, (rd_T60 t221 (rd (rd_L1 t217 a1) 2)).f2]]).bind fun t238 => (some (t238, true))) else (none)) else (none)) else (none)) else (none)) else (none)) else (none)) else (none)) else (none)) else (none)) = some (r1, r2) := H
            have A15 := Aside0.mk A150
            clear A150
            by_cases c16 : 0 < ((rd_L1 t217 a1).length : Int)
            · rw [if_pos c16] at H
              have c16b0 : decide (0 < ((rd_L1 t217 a1).length : Int)) = true := decide_eq_true c16
              have c16b1 : decide (0 < (rd_L1 t217 a1).length) = true := decide_eq_true (by omega)
              clear c16
              by_cases c17 : 0 ≤ (rd (rd_L1 t217 a1) 0)
              · rw [if_pos c17] at H
                have c17b0 : decide (0 ≤ (rd (rd_L1 t217 a1) 0)) = true := decide_eq_true c17
                clear c17
                by_cases c18 : (rd (rd_L1 t217 a1) 0) < (t221.length : Int)
                · rw [if_pos c18] at H
                  have c18b0 : decide ((rd (rd_L1 t217 a1) 0) < (t221.length : Int)) = true := decide_eq_true c18
                  clear c18
                  by_cases c19 : 1 < ((rd_L1 t217 a1).length : Int)
                  · rw [if_pos c19] at H
                    have c19b0 : decide (1 < ((rd_L1 t217 a1).length : Int)) = true := decide_eq_true c19
                    have c19b1 : decide (1 < (rd_L1 t217 a1).length) = true := decide_eq_true (by omega)
                    clear c19
                    by_cases c20 : 0 ≤ (rd (rd_L1 t217 a1) 1)
                    · rw [if_pos c20] at H
                      have c20b0 : decide (0 ≤ (rd (rd_L1 t217 a1) 1)) = true := decide_eq_true c20
                      clear c20
                      by_cases c21 : (rd (rd_L1 t217 a1) 1) < (t221.length : Int)
                      · rw [if_pos c21] at H
                        have c21b0 : decide ((rd (rd_L1 t217 a1) 1) < (t221.length : Int)) = true := decide_eq_true c21
                        clear c21
                        by_cases c22 : 2 < ((rd_L1 t217 a1).length : Int)
                        · rw [if_pos c22] at H
                          have c22b0 : decide (2 < ((rd_L1 t217 a1).length : Int)) = true := decide_eq_true c22
                          have c22b1 : decide (2 < (rd_L1 t217 a1).length) = true := decide_eq_true (by omega)
                          clear c22
                          by_cases c23 : 0 ≤ (rd (rd_L1 t217 a1) 2)
                          · rw [if_pos c23] at H
                            have c23b0 : decide (0 ≤ (rd (rd_L1 t217 a1) 2)) = true := decide_eq_true c23
                            clear c23
                            by_cases c24 : (rd (rd_L1 t217 a1) 2) < (t221.length : Int)
                            · rw [if_pos c24] at H
                              have c24b0 : decide ((rd (rd_L1 t217 a1) 2) < (t221.length : Int)) = true := decide_eq_true c24
                              clear c24
                              replace H := Option.bind_eq_some_iff.mp H
                              obtain ⟨t238, A250, H⟩ := H
                              replace H : (some (t238, true)) = some (r1, r2) := H
                              have A25 := Aside0.mk A250
                              clear A250
                              simp only [Option.some.injEq, Prod.mk.injEq] at H
                              obtain ⟨rfl, rfl⟩ := H
                              try go_wp2
                              have n0_ := Aside0.mk (below_drew1 HB.out)
                              clear HB
                              have HB := n0_
                              clear n0_
                              refine start_ (n := 9) (S := fun w' => True) (ds := []) #[false, false, false, false, false, false, false, false, false] (by kernel_rfl) rfl rfl trivial (fun hHeld => ?_); refine with_tabW impl_PointOfWeights.tab3 impl_PointOfWeights.bits3 (fun HT_ HW_ => ?_)
                              generalize wc.drew = w26 at HB hHeld ⊢
                              refine pure_ (i := 0) (N := some 27) (v := ?_) (a' := ?_) #[true, false, false, false, false, false, false, false, false] rfl rfl (any_of HT_.out (by kernel_rfl)) (fun _ _ _ h => h) (Or.inl ⟨by rfl, ?_⟩) ?_ ?_
                              rotate_left
                              · intro w'
                                go_simp
                                with_reducible rfl
                              rotate_left
                              · simp only [Act.put, List.setIfInBounds_toArray, List.set_cons_zero, List.set_cons_succ, i64_w, i32_w]
                                rfl
                              refine pure_ (i := 2) (N := some 29) (v := ?_) (a' := ?_) #[true, false, true, false, false, false, false, false, false] rfl rfl (any_of HT_.out (by kernel_rfl)) (fun _ _ _ h => h) (Or.inl ⟨by rfl, ?_⟩) ?_ ?_
                              rotate_left
                              · intro w'
                                go_simp
                                with_reducible rfl
                              rotate_left
                              · simp only [Act.put, List.setIfInBounds_toArray, List.set_cons_zero, List.set_cons_succ, i64_w, i32_w]
                                rfl
                              refine pure_ (i := 5) (N := some 32) (v := ?_) (a' := ?_) #[true, false, true, false, false, true, false, false, false] rfl rfl (any_of HT_.out (by kernel_rfl)) (fun _ _ _ h => h) (Or.inl ⟨by rfl, ?_⟩) ?_ ?_
                              rotate_left
                              · intro w'
                                go_simp
                                with_reducible rfl
                              rotate_left
                              · simp only [Act.put, List.setIfInBounds_toArray, List.set_cons_zero, List.set_cons_succ, i64_w, i32_w]
                                rfl
                              refine one_ (i := 1) (N := some 28) #[true, true, true, false, false, true, false, false, false] rfl rfl (one_of HT_.out (by kernel_rfl)) (by decide) (fun K hK => ?_)
                              refine goes_ Try.func67 (by kernel_rfl) rfl #[.int .i64 a0] (by rfl) rfl rfl (by (try simp only [List.map_toArray, List.map_cons, List.map_nil]); first | done | rfl | (simp only [List.length_drop, List.length_take]; rfl)) ?_
                              with_reducible refine (impl_cells.calls kj3 a0 t217 _ A12.out).mono ?_
                              rintro e w27 ⟨v218, rfl, ho0, hb⟩
                              refine ⟨_, rfl, ?_⟩
                              have n0_ := Aside0.mk (Kd.S_lower ho0 (below_size (by repeat (first | (with_reducible first | exact HB.out | apply below_alloc | apply pw_below_drewN | apply below_drew1) | exact HB.out))))
                              have n1_ := Aside0.mk (below_step (by repeat (first | (with_reducible first | exact HB.out | apply below_alloc | apply pw_below_drewN | apply below_drew1) | exact HB.out)) hb)
                              clear HB
                              have HO219 := n0_
                              have HB := n1_
                              clear n0_ n1_
                              (try clear hb)
                              (try clear hb2)
                              (try clear hk)
                              (try clear hi)
                              (try clear ho0)
                              obtain ⟨Ao28, co28, eo28⟩ := Kd.S_slice HO219.out
                              (first | subst eo28 | (injection eo28 with f1_ f2_ f3_; have f4_ := f1_.symm; have f5_ := f3_.symm; clear f1_ f2_ f3_; subst f4_; subst f5_))
                              have p220 : 0 ≤ (a1 : Int) := of_decide_eq_true (by first | (with_reducible assumption) | assumption)
                              have q220 : a1 < (t217.length : Int) := of_decide_eq_true (by first | (with_reducible assumption) | assumption)
                              obtain ⟨ad220, A220_0, c220_0, e220, hx220_0, hl220_0, hi220_0⟩ := at_L1 (Kd.S_reads' HO219.out).2.2 a1 p220 q220
                              cases e220
                              obtain ⟨ce220, hce220, hMe220, hcc220⟩ := Kd.S_get HO219.out [] a1 p220 (by first | exact q220 | exact of_decide_eq_true (by first | (with_reducible assumption) | assumption) | (have e_ := (Kd.S_reads' HO219.out).1; omega))
                              obtain ⟨ve220_0, rfl, ge220_0⟩ := hMe220
                              have hv220_0 := hcc220 0 _ rfl
                              rw [Nat.add_zero, show ((Kd.slice 3 (Kd.int .i64))).sz = 1 from rfl, Nat.mul_one] at hv220_0
                              replace hv220_0 := Option.some.inj (hv220_0.symm.trans hx220_0)
                              rw [hv220_0] at ge220_0
                              have HL220_0 := Aside0.mk (show Kd.R (Kd.int .i64) 3 _ _ _ _ (rd_L1 t217 a1) from ge220_0)
                              clear hv220_0 ge220_0
                              clear hcc220 hce220
                              have HR220_0 := Aside0.mk hi220_0
                              have HC220_0 := Aside0.mk hl220_0
                              clear hi220_0 hl220_0
                              replace p220 := eq_true p220
                              replace q220 := eq_true q220
                              refine hK.out _ _ trivial (fun hHeld => ?_)
                              clear hK K
                              refine norm_ (a' := ?_) ?_ ?_
                              rotate_left
                              · show Act.put _ (some 28) _ = _
                                simp only [Act.put, List.setIfInBounds_toArray, List.set_cons_zero, List.set_cons_succ, i64_w, i32_w]
                                rfl
                              refine pure_ (i := 3) (N := some 30) (v := ?_) (a' := ?_) #[true, true, true, true, false, true, false, false, false] rfl rfl (any_of HT_.out (by kernel_rfl)) (fun _ _ _ h => h) (Or.inl ⟨by rfl, ?_⟩) ?_ ?_
                              rotate_left
                              · intro w'
                                go_simp
                                with_reducible rfl
                              rotate_left
                              · simp only [Act.put, List.setIfInBounds_toArray, List.set_cons_zero, List.set_cons_succ, i64_w, i32_w]
                                rfl
                              refine join_ (σ := Value) 2 #[true, true, true, true, true, true, true, false, false] (fun s_ => [(31, .slice A220_0 (rd_L1 t217 a1).length c220_0), (33, s_)]) (fun s_ w' => (Kd.R k60 60 w' w27.heap.size (fun _ => True) s_ t221) ∧ Below w27.heap.size w27 w') ?_ ?_
                              rotate_left
                              · intro hCont
                                refine two_ (i := 4) (j := 6) (Ni := some 31) (Nj := some 33) #[true, true, true, true, true, true, false, false, false] #[true, true, true, true, false, true, true, false, false] rfl rfl rfl rfl (two_of HT_.out (by kernel_rfl)) (by decide) (by decide) (fun K hK => ?_) (fun K hK => ?_)
                                · skip
                                  refine value_ (w1 := ?_) (v := ?_) (by rfl) rfl ?_ ?_
                                  rotate_left 2
                                  · go_simp
                                    constructor
                                    · rfl
                                    · rfl
                                  refine hK.out _ _ trivial (fun hHeld => ?_)
                                  clear hK K
                                  refine norm_ (a' := ?_) ?_ ?_
                                  rotate_left
                                  · show Act.put _ (some 31) _ = _
                                    simp only [Act.put, List.setIfInBounds_toArray, List.set_cons_zero, List.set_cons_succ, i64_w, i32_w]
                                    rfl
                                  refine one_ (i := 6) (N := some 33) #[true, true, true, true, true, true, true, false, false] rfl rfl (one_of HT_.out (by kernel_rfl)) (by decide) (fun K hK => ?_)
                                  refine goes_ Try.func68 (by kernel_rfl) rfl #[.int .i64 a0] (by rfl) rfl rfl (by (try simp only [List.map_toArray, List.map_cons, List.map_nil]); first | done | rfl | (simp only [List.length_drop, List.length_take]; rfl)) ?_
                                  with_reducible refine (impl_points.calls kj3 a0 t221 _ A15.out).mono ?_
                                  rintro e w29 ⟨v222, rfl, ho0, hb⟩
                                  refine ⟨_, rfl, ?_⟩
                                  refine hK.out _ _ trivial (fun hHeld => ?_)
                                  clear hK K
                                  refine norm_ (a' := ?_) ?_ ?_
                                  rotate_left
                                  · show Act.put _ (some 33) _ = _
                                    simp only [Act.put, List.setIfInBounds_toArray, List.set_cons_zero, List.set_cons_succ, i64_w, i32_w]
                                    rfl
                                  exact norm_ (by simp only [putAll, Act.put, List.setIfInBounds_toArray, List.set_cons_zero, List.set_cons_succ]) (hCont v222 _ ⟨ho0, hb⟩)
                                · skip
                                  refine goes_ Try.func68 (by kernel_rfl) rfl #[.int .i64 a0] (by rfl) rfl rfl (by (try simp only [List.map_toArray, List.map_cons, List.map_nil]); first | done | rfl | (simp only [List.length_drop, List.length_take]; rfl)) ?_
                                  with_reducible refine (impl_points.calls kj3 a0 t221 _ A15.out).mono ?_
                                  rintro e w29 ⟨v222, rfl, ho0, hb⟩
                                  refine ⟨_, rfl, ?_⟩
                                  have hxl_ := (hb.cell (World.block_lt_of_cell? _ _ hx220_0)).trans hx220_0
                                  refine hK.out _ _ trivial (fun hHeld => ?_)
                                  clear hK K
                                  refine norm_ (a' := ?_) ?_ ?_
                                  rotate_left
                                  · show Act.put _ (some 33) _ = _
                                    simp only [Act.put, List.setIfInBounds_toArray, List.set_cons_zero, List.set_cons_succ, i64_w, i32_w]
                                    rfl
                                  refine one_ (i := 4) (N := some 31) #[true, true, true, true, true, true, true, false, false] rfl rfl (one_of HT_.out (by kernel_rfl)) (by decide) (fun K hK => ?_)
                                  refine value_ (w1 := ?_) (v := ?_) (by rfl) rfl ?_ ?_
                                  rotate_left 2
                                  · go_simp
                                    constructor
                                    · rfl
                                    · rfl
                                  refine hK.out _ _ trivial (fun hHeld => ?_)
                                  clear hK K
                                  refine norm_ (a' := ?_) ?_ ?_
                                  rotate_left
                                  · show Act.put _ (some 31) _ = _
                                    simp only [Act.put, List.setIfInBounds_toArray, List.set_cons_zero, List.set_cons_succ, i64_w, i32_w]
                                    rfl
                                  exact norm_ (by simp only [putAll, Act.put, List.setIfInBounds_toArray, List.set_cons_zero, List.set_cons_succ]) (hCont v222 _ ⟨ho0, hb⟩)
                              rintro v222 w29 ⟨ho0, hb⟩
                              have n0_ := Aside0.mk (Kd.S_below (by (with_reducible repeat (first | apply Kd.S_alloc | apply Kd.S_drewN | apply Kd.S_drew)); exact HO219.out) hb)
                              have n1_ := Aside0.mk (Kd.R_below (by (with_reducible repeat (first | apply Kd.R_alloc | apply Kd.R_drewN | apply Kd.R_drew)); exact HL220_0.out) hb)
                              have n2_ := Aside0.mk (Kd.R_lower ho0 (below_size (by repeat (first | (with_reducible first | exact HB.out | apply below_alloc | apply pw_below_drewN | apply below_drew1) | exact HB.out))))
                              have n3_ := Aside0.mk (Kd.C_below (by repeat (first | (with_reducible exact HR220_0.out) | (with_reducible refine Kd.C_alloc ?_ _) | (with_reducible refine Kd.C_drewN ?_ _) | (with_reducible refine Kd.C_drew ?_) | exact HR220_0.out)) hb)
                              have n4_ := Aside0.mk (below_step (by repeat (first | (with_reducible first | exact HB.out | apply below_alloc | apply pw_below_drewN | apply below_drew1) | exact HB.out)) hb)
                              clear HO219
                              clear HL220_0
                              clear HR220_0
                              clear HB
                              have HO219 := n0_
                              have HL220_0 := n1_
                              have HO223 := n2_
                              have HR220_0 := n3_
                              have HB := n4_
                              clear n0_ n1_ n2_ n3_ n4_
                              (try clear hb)
                              (try clear hb2)
                              (try clear hk)
                              (try clear hi)
                              (try clear ho0)
                              refine norm_ (a' := ?_) ?_ ?_
                              rotate_left
                              · simp only [putAll, Act.put, List.setIfInBounds_toArray, List.set_cons_zero, List.set_cons_succ]
                                rfl
                              refine pure_ (i := 7) (N := some 8) (v := ?_) (a' := ?_) #[true, true, true, true, true, true, true, true, false] rfl rfl (any_of HT_.out (by kernel_rfl)) (fun _ _ _ h => h) (Or.inl ⟨by rfl, ?_⟩) ?_ ?_
                              rotate_left
                              · intro w'
                                go_simp
                                with_reducible rfl
                              rotate_left
                              · simp only [Act.put, List.setIfInBounds_toArray, List.set_cons_zero, List.set_cons_succ, i64_w, i32_w]
                                rfl
                              refine pure_ (i := 8) (N := some 9) (v := ?_) (a' := ?_) #[true, true, true, true, true, true, true, true, true] rfl rfl (any_of HT_.out (by kernel_rfl)) (fun _ _ _ h => h) (Or.inl ⟨by rfl, ?_⟩) ?_ ?_
                              rotate_left
                              · intro w'
                                go_simp
                                with_reducible rfl
                              rotate_left
                              · simp only [Act.put, List.setIfInBounds_toArray, List.set_cons_zero, List.set_cons_succ, i64_w, i32_w]
                                rfl
                              refine done_ (done_of HT_.out (by kernel_rfl)) ?_
                              try go_wp2
                              have n0_ := Aside0.mk (Kd.S_drew HO219.out)
                              have n1_ := Aside0.mk (Kd.R_drew HL220_0.out)
                              have n2_ := Aside0.mk (Kd.R_drew HO223.out)
                              have n3_ := Aside0.mk (Kd.C_drew HR220_0.out)
                              have n4_ := Aside0.mk (below_drew1 HB.out)
                              clear HO219
                              clear HL220_0
                              clear HO223
                              clear HR220_0
                              clear HB
                              have HO219 := n0_
                              have HL220_0 := n1_
                              have HO223 := n2_
                              have HR220_0 := n3_
                              have HB := n4_
                              clear n0_ n1_ n2_ n3_ n4_
                              have p224 : 0 ≤ (0 : Int) := (by omega)
                              have q224 : 0 < ((rd_L1 t217 a1).length : Int) := of_decide_eq_true (by first | (with_reducible assumption) | assumption)
                              obtain ⟨ad224, e224, hx224_0⟩ := Kd.at_int (by repeat (first | (with_reducible exact HR220_0.out) | (with_reducible refine Kd.C_alloc ?_ _) | (with_reducible refine Kd.C_drewN ?_ _) | (with_reducible refine Kd.C_drew ?_) | exact HR220_0.out)) 0 p224 q224
                              cases e224
                              have qi224 : (0 < (rd_L1 t217 a1).length) = True := eq_true (by omega)
                              (try rw [show ((0 : Int)).toNat = 0 from rfl] at hx224_0)
                              (try rw [Addr.add_zero'] at hx224_0)
                              replace p224 := eq_true p224
                              replace q224 := eq_true q224
                              obtain ⟨Ao31, co31, eo31⟩ := Kd.R_slice HO223.out
                              (first | subst eo31 | (injection eo31 with f1_ f2_ f3_; have f4_ := f1_.symm; have f5_ := f3_.symm; clear f1_ f2_ f3_; subst f4_; subst f5_))
                              have p225 : 0 ≤ ((rd (rd_L1 t217 a1) 0) : Int) := of_decide_eq_true (by first | (with_reducible assumption) | assumption)
                              have q225 : (rd (rd_L1 t217 a1) 0) < (t221.length : Int) := of_decide_eq_true (by first | (with_reducible assumption) | assumption)
                              obtain ⟨ad225, e225, hx225_0, hx225_1, hx225_2⟩ := at_T60 (Kd.R_reads' HO223.out).2.2 (rd (rd_L1 t217 a1) 0) p225 q225
                              cases e225
                              replace p225 := eq_true p225
                              replace q225 := eq_true q225
                              have p226 : 0 ≤ (1 : Int) := (by omega)
                              have q226 : 1 < ((rd_L1 t217 a1).length : Int) := of_decide_eq_true (by first | (with_reducible assumption) | assumption)
                              obtain ⟨ad226, e226, hx226_0⟩ := Kd.at_int (by repeat (first | (with_reducible exact HR220_0.out) | (with_reducible refine Kd.C_alloc ?_ _) | (with_reducible refine Kd.C_drewN ?_ _) | (with_reducible refine Kd.C_drew ?_) | exact HR220_0.out)) 1 p226 q226
                              obtain rfl : ad224 = ad226 := (by injection e226)
                              (try simp only [show (1 : Int).toNat = 1 from rfl, Nat.reduceMul, Nat.reduceEqDiff, Go.Addr.add, ↓reduceIte] at hx226_0)
                              have qi226 : (1 < (rd_L1 t217 a1).length) = True := eq_true (by omega)
                              (try rw [show ((1 : Int)).toNat = 1 from rfl] at hx226_0)
                              replace p226 := eq_true p226
                              replace q226 := eq_true q226
                              have p227 : 0 ≤ ((rd (rd_L1 t217 a1) 1) : Int) := of_decide_eq_true (by first | (with_reducible assumption) | assumption)
                              have q227 : (rd (rd_L1 t217 a1) 1) < (t221.length : Int) := of_decide_eq_true (by first | (with_reducible assumption) | assumption)
                              obtain ⟨ad227, e227, hx227_0, hx227_1, hx227_2⟩ := at_T60 (Kd.R_reads' HO223.out).2.2 (rd (rd_L1 t217 a1) 1) p227 q227
                              obtain rfl : ad225 = ad227 := (by injection e227)
                              replace p227 := eq_true p227
                              replace q227 := eq_true q227
                              have p228 : 0 ≤ (2 : Int) := (by omega)
                              have q228 : 2 < ((rd_L1 t217 a1).length : Int) := of_decide_eq_true (by first | (with_reducible assumption) | assumption)
                              obtain ⟨ad228, e228, hx228_0⟩ := Kd.at_int (by repeat (first | (with_reducible exact HR220_0.out) | (with_reducible refine Kd.C_alloc ?_ _) | (with_reducible refine Kd.C_drewN ?_ _) | (with_reducible refine Kd.C_drew ?_) | exact HR220_0.out)) 2 p228 q228
                              obtain rfl : ad224 = ad228 := (by injection e228)
                              (try simp only [show (2 : Int).toNat = 2 from rfl, Nat.reduceMul, Nat.reduceEqDiff, Go.Addr.add, ↓reduceIte] at hx228_0)
                              have qi228 : (2 < (rd_L1 t217 a1).length) = True := eq_true (by omega)
                              (try rw [show ((2 : Int)).toNat = 2 from rfl] at hx228_0)
                              replace p228 := eq_true p228
                              replace q228 := eq_true q228
                              have p229 : 0 ≤ ((rd (rd_L1 t217 a1) 2) : Int) := of_decide_eq_true (by first | (with_reducible assumption) | assumption)
                              have q229 : (rd (rd_L1 t217 a1) 2) < (t221.length : Int) := of_decide_eq_true (by first | (with_reducible assumption) | assumption)
                              obtain ⟨ad229, e229, hx229_0, hx229_1, hx229_2⟩ := at_T60 (Kd.R_reads' HO223.out).2.2 (rd (rd_L1 t217 a1) 2) p229 q229
                              obtain rfl : ad225 = ad229 := (by injection e229)
                              replace p229 := eq_true p229
                              replace q229 := eq_true q229
                              refine start_ (n := 24) (S := fun w' => w'.cell? ad224 = some (.int .i64 (rd (rd_L1 t217 a1) 0)) ∧ w'.cell? (ad225.add (((rd (rd_L1 t217 a1) 0)).toNat * 3)) = some (.int .i64 ((rd_T60 t221 (rd (rd_L1 t217 a1) 0)).f0)) ∧ w'.cell? ⟨(ad225.add (((rd (rd_L1 t217 a1) 0)).toNat * 3)).block, (ad225.add (((rd (rd_L1 t217 a1) 0)).toNat * 3)).off + 1, none⟩ = some (.int .i64 ((rd_T60 t221 (rd (rd_L1 t217 a1) 0)).f1)) ∧ w'.cell? ⟨(ad225.add (((rd (rd_L1 t217 a1) 0)).toNat * 3)).block, (ad225.add (((rd (rd_L1 t217 a1) 0)).toNat * 3)).off + 2, none⟩ = some (.int .i64 ((rd_T60 t221 (rd (rd_L1 t217 a1) 0)).f2)) ∧ w'.cell? ⟨ad224.block, ad224.off + 1, none⟩ = some (.int .i64 (rd (rd_L1 t217 a1) 1)) ∧ w'.cell? (ad225.add (((rd (rd_L1 t217 a1) 1)).toNat * 3)) = some (.int .i64 ((rd_T60 t221 (rd (rd_L1 t217 a1) 1)).f0)) ∧ w'.cell? ⟨(ad225.add (((rd (rd_L1 t217 a1) 1)).toNat * 3)).block, (ad225.add (((rd (rd_L1 t217 a1) 1)).toNat * 3)).off + 1, none⟩ = some (.int .i64 ((rd_T60 t221 (rd (rd_L1 t217 a1) 1)).f1)) ∧ w'.cell? ⟨(ad225.add (((rd (rd_L1 t217 a1) 1)).toNat * 3)).block, (ad225.add (((rd (rd_L1 t217 a1) 1)).toNat * 3)).off + 2, none⟩ = some (.int .i64 ((rd_T60 t221 (rd (rd_L1 t217 a1) 1)).f2)) ∧ w'.cell? ⟨ad224.block, ad224.off + 2, none⟩ = some (.int .i64 (rd (rd_L1 t217 a1) 2)) ∧ w'.cell? (ad225.add (((rd (rd_L1 t217 a1) 2)).toNat * 3)) = some (.int .i64 ((rd_T60 t221 (rd (rd_L1 t217 a1) 2)).f0)) ∧ w'.cell? ⟨(ad225.add (((rd (rd_L1 t217 a1) 2)).toNat * 3)).block, (ad225.add (((rd (rd_L1 t217 a1) 2)).toNat * 3)).off + 1, none⟩ = some (.int .i64 ((rd_T60 t221 (rd (rd_L1 t217 a1) 2)).f1)) ∧ w'.cell? ⟨(ad225.add (((rd (rd_L1 t217 a1) 2)).toNat * 3)).block, (ad225.add (((rd (rd_L1 t217 a1) 2)).toNat * 3)).off + 2, none⟩ = some (.int .i64 ((rd_T60 t221 (rd (rd_L1 t217 a1) 2)).f2))) (ds := []) #[false, false, false, false, false, false, false, false, false, false, false, false, false, false, false, false, false, false, false, false, false, false, false, false] (by kernel_rfl) rfl rfl ⟨hx224_0, hx225_0, hx225_1, hx225_2, hx226_0, hx227_0, hx227_1, hx227_2, hx228_0, hx229_0, hx229_1, hx229_2⟩ (fun hHeld => ?_); refine with_tabW impl_PointOfWeights.tab4 impl_PointOfWeights.bits4 (fun HT_ HW_ => ?_)
                              generalize w29.drew = w30 at HO219 HL220_0 HO223 HR220_0 HB hx224_0 hx225_0 hx225_1 hx225_2 hx226_0 hx227_0 hx227_1 hx227_2 hx228_0 hx229_0 hx229_1 hx229_2 hHeld ⊢
                              refine pure_ (i := 0) (N := some 34) (v := ?_) (a' := ?_) #[true, false, false, false, false, false, false, false, false, false, false, false, false, false, false, false, false, false, false, false, false, false, false, false] rfl rfl (any_of HT_.out (by kernel_rfl)) (fun _ _ _ h => h) (Or.inl ⟨by rfl, ?_⟩) ?_ ?_
                              rotate_left
                              · intro w'
                                go_simp
                                with_reducible rfl
                              rotate_left
                              · simp only [Act.put, List.setIfInBounds_toArray, List.set_cons_zero, List.set_cons_succ, i64_w, i32_w]
                                rfl
                              refine pure_ (i := 1) (N := some 35) (v := ?_) (a' := ?_) #[true, true, false, false, false, false, false, false, false, false, false, false, false, false, false, false, false, false, false, false, false, false, false, false] rfl rfl (any_of HT_.out (by kernel_rfl)) (fun _ _ _ h => h) (Or.inl ⟨by rfl, ?_⟩) ?_ ?_
                              rotate_left
                              · intro w'
                                go_simp
                                with_reducible rfl
                              rotate_left
                              · simp only [Act.put, List.setIfInBounds_toArray, List.set_cons_zero, List.set_cons_succ, i64_w, i32_w]
                                rfl
                              refine pure_ (i := 2) (N := some 36) (v := ?_) (a' := ?_) #[true, true, true, false, false, false, false, false, false, false, false, false, false, false, false, false, false, false, false, false, false, false, false, false] rfl rfl (any_of HT_.out (by kernel_rfl)) (fun _ _ _ h => h) (Or.inl ⟨by rfl, ?_⟩) ?_ ?_
                              rotate_left
                              · intro w'
                                go_simp
                                with_reducible rfl
                              rotate_left
                              · simp only [Act.put, List.setIfInBounds_toArray, List.set_cons_zero, List.set_cons_succ, i64_w, i32_w]
                                rfl
                              refine pure_ (i := 6) (N := some 40) (v := ?_) (a' := ?_) #[true, true, true, false, false, false, true, false, false, false, false, false, false, false, false, false, false, false, false, false, false, false, false, false] rfl rfl (any_of HT_.out (by kernel_rfl)) (fun _ _ _ h => h) (Or.inl ⟨by rfl, ?_⟩) ?_ ?_
                              rotate_left
                              · intro w'
                                go_simp
                                with_reducible rfl
                              rotate_left
                              · simp only [Act.put, List.setIfInBounds_toArray, List.set_cons_zero, List.set_cons_succ, i64_w, i32_w]
                                rfl
                              refine pure_ (i := 7) (N := some 41) (v := ?_) (a' := ?_) #[true, true, true, false, false, false, true, true, false, false, false, false, false, false, false, false, false, false, false, false, false, false, false, false] rfl rfl (any_of HT_.out (by kernel_rfl)) (fun _ _ _ h => h) (Or.inl ⟨by rfl, ?_⟩) ?_ ?_
                              rotate_left
                              · intro w'
                                go_simp
                                with_reducible rfl
                              rotate_left
                              · simp only [Act.put, List.setIfInBounds_toArray, List.set_cons_zero, List.set_cons_succ, i64_w, i32_w]
                                rfl
                              refine pure_ (i := 8) (N := some 42) (v := ?_) (a' := ?_) #[true, true, true, false, false, false, true, true, true, false, false, false, false, false, false, false, false, false, false, false, false, false, false, false] rfl rfl (any_of HT_.out (by kernel_rfl)) (fun _ _ _ h => h) (Or.inl ⟨by rfl, ?_⟩) ?_ ?_
                              rotate_left
                              · intro w'
                                go_simp
                                with_reducible rfl
                              rotate_left
                              · simp only [Act.put, List.setIfInBounds_toArray, List.set_cons_zero, List.set_cons_succ, i64_w, i32_w]
                                rfl
                              refine pure_ (i := 12) (N := some 46) (v := ?_) (a' := ?_) #[true, true, true, false, false, false, true, true, true, false, false, false, true, false, false, false, false, false, false, false, false, false, false, false] rfl rfl (any_of HT_.out (by kernel_rfl)) (fun _ _ _ h => h) (Or.inl ⟨by rfl, ?_⟩) ?_ ?_
                              rotate_left
                              · intro w'
                                go_simp
                                with_reducible rfl
                              rotate_left
                              · simp only [Act.put, List.setIfInBounds_toArray, List.set_cons_zero, List.set_cons_succ, i64_w, i32_w]
                                rfl
                              refine pure_ (i := 13) (N := some 47) (v := ?_) (a' := ?_) #[true, true, true, false, false, false, true, true, true, false, false, false, true, true, false, false, false, false, false, false, false, false, false, false] rfl rfl (any_of HT_.out (by kernel_rfl)) (fun _ _ _ h => h) (Or.inl ⟨by rfl, ?_⟩) ?_ ?_
                              rotate_left
                              · intro w'
                                go_simp
                                with_reducible rfl
                              rotate_left
                              · simp only [Act.put, List.setIfInBounds_toArray, List.set_cons_zero, List.set_cons_succ, i64_w, i32_w]
                                rfl
                              refine pure_ (i := 14) (N := some 48) (v := ?_) (a' := ?_) #[true, true, true, false, false, false, true, true, true, false, false, false, true, true, true, false, false, false, false, false, false, false, false, false] rfl rfl (any_of HT_.out (by kernel_rfl)) (fun _ _ _ h => h) (Or.inl ⟨by rfl, ?_⟩) ?_ ?_
                              rotate_left
                              · intro w'
                                go_simp
                                with_reducible rfl
                              rotate_left
                              · simp only [Act.put, List.setIfInBounds_toArray, List.set_cons_zero, List.set_cons_succ, i64_w, i32_w]
                                rfl
                              refine take_ (i := 3) (N := some 37) (v := ?_) (a' := ?_) #[true, true, true, true, false, false, true, true, true, false, false, false, true, true, true, false, false, false, false, false, false, false, false, false] rfl rfl (take_ofW HT_.out HW_.out (by kernel_rfl)) (fun _ _ _ h => h) (Or.inl ⟨by rfl, ?_⟩) hHeld ?_ ?_
                              rotate_left
                              · rintro w' ⟨s0, s1, s2, s3, s4, s5, s6, s7, s8, s9, s10, s11⟩
                                go_simp
                                with_reducible rfl
                              rotate_left
                              · simp only [Act.put, List.setIfInBounds_toArray, List.set_cons_zero, List.set_cons_succ, i64_w, i32_w]
                                rfl
                              refine pure_ (i := 4) (N := some 38) (v := ?_) (a' := ?_) #[true, true, true, true, true, false, true, true, true, false, false, false, true, true, true, false, false, false, false, false, false, false, false, false] rfl rfl (any_of HT_.out (by kernel_rfl)) (fun _ _ _ h => h) (Or.inl ⟨by rfl, ?_⟩) ?_ ?_
                              rotate_left
                              · intro w'
                                go_simp
                                with_reducible rfl
                              rotate_left
                              · simp only [Act.put, List.setIfInBounds_toArray, List.set_cons_zero, List.set_cons_succ, i64_w, i32_w]
                                rfl
                              refine take_ (i := 5) (N := some 39) (v := ?_) (a' := ?_) #[true, true, true, true, true, true, true, true, true, false, false, false, true, true, true, false, false, false, false, false, false, false, false, false] rfl rfl (take_ofW HT_.out HW_.out (by kernel_rfl)) (fun _ _ _ h => h) (Or.inl ⟨by rfl, ?_⟩) hHeld ?_ ?_
                              rotate_left
                              · rintro w' ⟨s0, s1, s2, s3, s4, s5, s6, s7, s8, s9, s10, s11⟩
                                go_simp
                                with_reducible rfl
                              rotate_left
                              · simp only [Act.put, List.setIfInBounds_toArray, List.set_cons_zero, List.set_cons_succ, i64_w, i32_w]
                                rfl
                              refine take_ (i := 9) (N := some 43) (v := ?_) (a' := ?_) #[true, true, true, true, true, true, true, true, true, true, false, false, true, true, true, false, false, false, false, false, false, false, false, false] rfl rfl (take_ofW HT_.out HW_.out (by kernel_rfl)) (fun _ _ _ h => h) (Or.inl ⟨by rfl, ?_⟩) hHeld ?_ ?_
                              rotate_left
                              · rintro w' ⟨s0, s1, s2, s3, s4, s5, s6, s7, s8, s9, s10, s11⟩
                                go_simp
                                with_reducible rfl
                              rotate_left
                              · simp only [Act.put, List.setIfInBounds_toArray, List.set_cons_zero, List.set_cons_succ, i64_w, i32_w]
                                rfl
                              refine pure_ (i := 10) (N := some 44) (v := ?_) (a' := ?_) #[true, true, true, true, true, true, true, true, true, true, true, false, true, true, true, false, false, false, false, false, false, false, false, false] rfl rfl (any_of HT_.out (by kernel_rfl)) (fun _ _ _ h => h) (Or.inl ⟨by rfl, ?_⟩) ?_ ?_
                              rotate_left
                              · intro w'
                                go_simp
                                with_reducible rfl
                              rotate_left
                              · simp only [Act.put, List.setIfInBounds_toArray, List.set_cons_zero, List.set_cons_succ, i64_w, i32_w]
                                rfl
                              refine take_ (i := 11) (N := some 45) (v := ?_) (a' := ?_) #[true, true, true, true, true, true, true, true, true, true, true, true, true, true, true, false, false, false, false, false, false, false, false, false] rfl rfl (take_ofW HT_.out HW_.out (by kernel_rfl)) (fun _ _ _ h => h) (Or.inl ⟨by rfl, ?_⟩) hHeld ?_ ?_
                              rotate_left
                              · rintro w' ⟨s0, s1, s2, s3, s4, s5, s6, s7, s8, s9, s10, s11⟩
                                go_simp
                                with_reducible rfl
                              rotate_left
                              · simp only [Act.put, List.setIfInBounds_toArray, List.set_cons_zero, List.set_cons_succ, i64_w, i32_w]
                                rfl
                              refine take_ (i := 15) (N := some 49) (v := ?_) (a' := ?_) #[true, true, true, true, true, true, true, true, true, true, true, true, true, true, true, true, false, false, false, false, false, false, false, false] rfl rfl (take_ofW HT_.out HW_.out (by kernel_rfl)) (fun _ _ _ h => h) (Or.inl ⟨by rfl, ?_⟩) hHeld ?_ ?_
                              rotate_left
                              · rintro w' ⟨s0, s1, s2, s3, s4, s5, s6, s7, s8, s9, s10, s11⟩
                                go_simp
                                with_reducible rfl
                              rotate_left
                              · simp only [Act.put, List.setIfInBounds_toArray, List.set_cons_zero, List.set_cons_succ, i64_w, i32_w]
                                rfl
                              refine pure_ (i := 16) (N := some 50) (v := ?_) (a' := ?_) #[true, true, true, true, true, true, true, true, true, true, true, true, true, true, true, true, true, false, false, false, false, false, false, false] rfl rfl (any_of HT_.out (by kernel_rfl)) (fun _ _ _ h => h) (Or.inl ⟨by rfl, ?_⟩) ?_ ?_
                              rotate_left
                              · intro w'
                                go_simp
                                with_reducible rfl
                              rotate_left
                              · simp only [Act.put, List.setIfInBounds_toArray, List.set_cons_zero, List.set_cons_succ, i64_w, i32_w]
                                rfl
                              refine take_ (i := 17) (N := some 51) (v := ?_) (a' := ?_) #[true, true, true, true, true, true, true, true, true, true, true, true, true, true, true, true, true, true, false, false, false, false, false, false] rfl rfl (take_ofW HT_.out HW_.out (by kernel_rfl)) (fun _ _ _ h => h) (Or.inl ⟨by rfl, ?_⟩) hHeld ?_ ?_
                              rotate_left
                              · rintro w' ⟨s0, s1, s2, s3, s4, s5, s6, s7, s8, s9, s10, s11⟩
                                go_simp
                                with_reducible rfl
                              rotate_left
                              · simp only [Act.put, List.setIfInBounds_toArray, List.set_cons_zero, List.set_cons_succ, i64_w, i32_w]
                                rfl
                              refine join_ (σ := Nat × Nat × Nat) 3 #[true, true, true, true, true, true, true, true, true, true, true, true, true, true, true, true, true, true, true, true, true, false, false, false] (fun s_ => [(10, .pointer (some ⟨s_.1, 0, none⟩)), (11, .pointer (some ⟨s_.2.1, 0, none⟩)), (12, .pointer (some ⟨s_.2.2, 0, none⟩))]) (fun s_ w' => (w'.cell? ad224 = some (.int .i64 (rd (rd_L1 t217 a1) 0)) ∧ w'.cell? (ad225.add (((rd (rd_L1 t217 a1) 0)).toNat * 3)) = some (.int .i64 ((rd_T60 t221 (rd (rd_L1 t217 a1) 0)).f0)) ∧ w'.cell? ⟨(ad225.add (((rd (rd_L1 t217 a1) 0)).toNat * 3)).block, (ad225.add (((rd (rd_L1 t217 a1) 0)).toNat * 3)).off + 1, none⟩ = some (.int .i64 ((rd_T60 t221 (rd (rd_L1 t217 a1) 0)).f1)) ∧ w'.cell? ⟨(ad225.add (((rd (rd_L1 t217 a1) 0)).toNat * 3)).block, (ad225.add (((rd (rd_L1 t217 a1) 0)).toNat * 3)).off + 2, none⟩ = some (.int .i64 ((rd_T60 t221 (rd (rd_L1 t217 a1) 0)).f2)) ∧ w'.cell? ⟨ad224.block, ad224.off + 1, none⟩ = some (.int .i64 (rd (rd_L1 t217 a1) 1)) ∧ w'.cell? (ad225.add (((rd (rd_L1 t217 a1) 1)).toNat * 3)) = some (.int .i64 ((rd_T60 t221 (rd (rd_L1 t217 a1) 1)).f0)) ∧ w'.cell? ⟨(ad225.add (((rd (rd_L1 t217 a1) 1)).toNat * 3)).block, (ad225.add (((rd (rd_L1 t217 a1) 1)).toNat * 3)).off + 1, none⟩ = some (.int .i64 ((rd_T60 t221 (rd (rd_L1 t217 a1) 1)).f1)) ∧ w'.cell? ⟨(ad225.add (((rd (rd_L1 t217 a1) 1)).toNat * 3)).block, (ad225.add (((rd (rd_L1 t217 a1) 1)).toNat * 3)).off + 2, none⟩ = some (.int .i64 ((rd_T60 t221 (rd (rd_L1 t217 a1) 1)).f2)) ∧ w'.cell? ⟨ad224.block, ad224.off + 2, none⟩ = some (.int .i64 (rd (rd_L1 t217 a1) 2)) ∧ w'.cell? (ad225.add (((rd (rd_L1 t217 a1) 2)).toNat * 3)) = some (.int .i64 ((rd_T60 t221 (rd (rd_L1 t217 a1) 2)).f0)) ∧ w'.cell? ⟨(ad225.add (((rd (rd_L1 t217 a1) 2)).toNat * 3)).block, (ad225.add (((rd (rd_L1 t217 a1) 2)).toNat * 3)).off + 1, none⟩ = some (.int .i64 ((rd_T60 t221 (rd (rd_L1 t217 a1) 2)).f1)) ∧ w'.cell? ⟨(ad225.add (((rd (rd_L1 t217 a1) 2)).toNat * 3)).block, (ad225.add (((rd (rd_L1 t217 a1) 2)).toNat * 3)).off + 2, none⟩ = some (.int .i64 ((rd_T60 t221 (rd (rd_L1 t217 a1) 2)).f2))) ∧ (Kd.R (Kd.int .i64) 3 w' w.heap.size (fun k_ => some k_ ≠ (.slice (some ad220) t217.length co28 : Value).ownBlock) (.slice (some ad224) (rd_L1 t217 a1).length c220_0) (rd_L1 t217 a1)) ∧ (Kd.S (Kd.slice 3 (Kd.int .i64)) 27 w' w.heap.size (fun _ => True) (.slice (some ad220) t217.length co28) t217) ∧ (Kd.R k60 60 w' w.heap.size (fun k_ => k_ ≠ s_.1 ∧ k_ ≠ s_.2.1 ∧ k_ ≠ s_.2.2) (.slice (some ad225) t221.length co31) t221) ∧ (w'.heap[s_.1]? = some (.cells #[.int .i64 0, .int .i64 0, .int .i64 0] 60 (0, 0))) ∧ (w'.heap[s_.2.1]? = some (.cells #[.int .i64 0, .int .i64 0, .int .i64 0] 60 (0, 0))) ∧ (w'.heap[s_.2.2]? = some (.cells #[.int .i64 0, .int .i64 0, .int .i64 0] 60 (0, 0))) ∧ (w.heap.size ≤ s_.1) ∧ (w.heap.size ≤ s_.1) ∧ (s_.2.1 ≠ s_.1) ∧ (s_.1 ≠ s_.2.1) ∧ (s_.2.2 ≠ s_.1) ∧ (s_.1 ≠ s_.2.2) ∧ (w.heap.size ≤ s_.2.1) ∧ (w.heap.size ≤ s_.2.1) ∧ (s_.2.2 ≠ s_.2.1) ∧ (s_.2.1 ≠ s_.2.2) ∧ (w.heap.size ≤ s_.2.2) ∧ (w.heap.size ≤ s_.2.2) ∧ (Below w.heap.size w w')) ?_ ?_
                              rotate_left
                              · intro hJ18_19_20
                                refine join_ (σ := Nat × Nat) 4 #[true, true, true, true, true, true, true, true, true, true, true, true, true, true, true, true, true, true, true, true, false, false, false, false] (fun s_ => [(10, .pointer (some ⟨s_.1, 0, none⟩)), (11, .pointer (some ⟨s_.2, 0, none⟩))]) (fun s_ w' => (w'.cell? ad224 = some (.int .i64 (rd (rd_L1 t217 a1) 0)) ∧ w'.cell? (ad225.add (((rd (rd_L1 t217 a1) 0)).toNat * 3)) = some (.int .i64 ((rd_T60 t221 (rd (rd_L1 t217 a1) 0)).f0)) ∧ w'.cell? ⟨(ad225.add (((rd (rd_L1 t217 a1) 0)).toNat * 3)).block, (ad225.add (((rd (rd_L1 t217 a1) 0)).toNat * 3)).off + 1, none⟩ = some (.int .i64 ((rd_T60 t221 (rd (rd_L1 t217 a1) 0)).f1)) ∧ w'.cell? ⟨(ad225.add (((rd (rd_L1 t217 a1) 0)).toNat * 3)).block, (ad225.add (((rd (rd_L1 t217 a1) 0)).toNat * 3)).off + 2, none⟩ = some (.int .i64 ((rd_T60 t221 (rd (rd_L1 t217 a1) 0)).f2)) ∧ w'.cell? ⟨ad224.block, ad224.off + 1, none⟩ = some (.int .i64 (rd (rd_L1 t217 a1) 1)) ∧ w'.cell? (ad225.add (((rd (rd_L1 t217 a1) 1)).toNat * 3)) = some (.int .i64 ((rd_T60 t221 (rd (rd_L1 t217 a1) 1)).f0)) ∧ w'.cell? ⟨(ad225.add (((rd (rd_L1 t217 a1) 1)).toNat * 3)).block, (ad225.add (((rd (rd_L1 t217 a1) 1)).toNat * 3)).off + 1, none⟩ = some (.int .i64 ((rd_T60 t221 (rd (rd_L1 t217 a1) 1)).f1)) ∧ w'.cell? ⟨(ad225.add (((rd (rd_L1 t217 a1) 1)).toNat * 3)).block, (ad225.add (((rd (rd_L1 t217 a1) 1)).toNat * 3)).off + 2, none⟩ = some (.int .i64 ((rd_T60 t221 (rd (rd_L1 t217 a1) 1)).f2)) ∧ w'.cell? ⟨ad224.block, ad224.off + 2, none⟩ = some (.int .i64 (rd (rd_L1 t217 a1) 2)) ∧ w'.cell? (ad225.add (((rd (rd_L1 t217 a1) 2)).toNat * 3)) = some (.int .i64 ((rd_T60 t221 (rd (rd_L1 t217 a1) 2)).f0)) ∧ w'.cell? ⟨(ad225.add (((rd (rd_L1 t217 a1) 2)).toNat * 3)).block, (ad225.add (((rd (rd_L1 t217 a1) 2)).toNat * 3)).off + 1, none⟩ = some (.int .i64 ((rd_T60 t221 (rd (rd_L1 t217 a1) 2)).f1)) ∧ w'.cell? ⟨(ad225.add (((rd (rd_L1 t217 a1) 2)).toNat * 3)).block, (ad225.add (((rd (rd_L1 t217 a1) 2)).toNat * 3)).off + 2, none⟩ = some (.int .i64 ((rd_T60 t221 (rd (rd_L1 t217 a1) 2)).f2))) ∧ (Kd.R (Kd.int .i64) 3 w' w.heap.size (fun k_ => some k_ ≠ (.slice (some ad220) t217.length co28 : Value).ownBlock) (.slice (some ad224) (rd_L1 t217 a1).length c220_0) (rd_L1 t217 a1)) ∧ (Kd.S (Kd.slice 3 (Kd.int .i64)) 27 w' w.heap.size (fun _ => True) (.slice (some ad220) t217.length co28) t217) ∧ (Kd.R k60 60 w' w.heap.size (fun k_ => k_ ≠ s_.1 ∧ k_ ≠ s_.2) (.slice (some ad225) t221.length co31) t221) ∧ (w'.heap[s_.1]? = some (.cells #[.int .i64 0, .int .i64 0, .int .i64 0] 60 (0, 0))) ∧ (w'.heap[s_.2]? = some (.cells #[.int .i64 0, .int .i64 0, .int .i64 0] 60 (0, 0))) ∧ (w.heap.size ≤ s_.1) ∧ (w.heap.size ≤ s_.1) ∧ (s_.2 ≠ s_.1) ∧ (s_.1 ≠ s_.2) ∧ (w.heap.size ≤ s_.2) ∧ (w.heap.size ≤ s_.2) ∧ (Below w.heap.size w w')) ?_ ?_
                                rotate_left
                                · intro hJ18_19
                                  refine join_ (σ := Nat × Nat) 4 #[true, true, true, true, true, true, true, true, true, true, true, true, true, true, true, true, true, true, true, false, true, false, false, false] (fun s_ => [(10, .pointer (some ⟨s_.1, 0, none⟩)), (12, .pointer (some ⟨s_.2, 0, none⟩))]) (fun s_ w' => (w'.cell? ad224 = some (.int .i64 (rd (rd_L1 t217 a1) 0)) ∧ w'.cell? (ad225.add (((rd (rd_L1 t217 a1) 0)).toNat * 3)) = some (.int .i64 ((rd_T60 t221 (rd (rd_L1 t217 a1) 0)).f0)) ∧ w'.cell? ⟨(ad225.add (((rd (rd_L1 t217 a1) 0)).toNat * 3)).block, (ad225.add (((rd (rd_L1 t217 a1) 0)).toNat * 3)).off + 1, none⟩ = some (.int .i64 ((rd_T60 t221 (rd (rd_L1 t217 a1) 0)).f1)) ∧ w'.cell? ⟨(ad225.add (((rd (rd_L1 t217 a1) 0)).toNat * 3)).block, (ad225.add (((rd (rd_L1 t217 a1) 0)).toNat * 3)).off + 2, none⟩ = some (.int .i64 ((rd_T60 t221 (rd (rd_L1 t217 a1) 0)).f2)) ∧ w'.cell? ⟨ad224.block, ad224.off + 1, none⟩ = some (.int .i64 (rd (rd_L1 t217 a1) 1)) ∧ w'.cell? (ad225.add (((rd (rd_L1 t217 a1) 1)).toNat * 3)) = some (.int .i64 ((rd_T60 t221 (rd (rd_L1 t217 a1) 1)).f0)) ∧ w'.cell? ⟨(ad225.add (((rd (rd_L1 t217 a1) 1)).toNat * 3)).block, (ad225.add (((rd (rd_L1 t217 a1) 1)).toNat * 3)).off + 1, none⟩ = some (.int .i64 ((rd_T60 t221 (rd (rd_L1 t217 a1) 1)).f1)) ∧ w'.cell? ⟨(ad225.add (((rd (rd_L1 t217 a1) 1)).toNat * 3)).block, (ad225.add (((rd (rd_L1 t217 a1) 1)).toNat * 3)).off + 2, none⟩ = some (.int .i64 ((rd_T60 t221 (rd (rd_L1 t217 a1) 1)).f2)) ∧ w'.cell? ⟨ad224.block, ad224.off + 2, none⟩ = some (.int .i64 (rd (rd_L1 t217 a1) 2)) ∧ w'.cell? (ad225.add (((rd (rd_L1 t217 a1) 2)).toNat * 3)) = some (.int .i64 ((rd_T60 t221 (rd (rd_L1 t217 a1) 2)).f0)) ∧ w'.cell? ⟨(ad225.add (((rd (rd_L1 t217 a1) 2)).toNat * 3)).block, (ad225.add (((rd (rd_L1 t217 a1) 2)).toNat * 3)).off + 1, none⟩ = some (.int .i64 ((rd_T60 t221 (rd (rd_L1 t217 a1) 2)).f1)) ∧ w'.cell? ⟨(ad225.add (((rd (rd_L1 t217 a1) 2)).toNat * 3)).block, (ad225.add (((rd (rd_L1 t217 a1) 2)).toNat * 3)).off + 2, none⟩ = some (.int .i64 ((rd_T60 t221 (rd (rd_L1 t217 a1) 2)).f2))) ∧ (Kd.R (Kd.int .i64) 3 w' w.heap.size (fun k_ => some k_ ≠ (.slice (some ad220) t217.length co28 : Value).ownBlock) (.slice (some ad224) (rd_L1 t217 a1).length c220_0) (rd_L1 t217 a1)) ∧ (Kd.S (Kd.slice 3 (Kd.int .i64)) 27 w' w.heap.size (fun _ => True) (.slice (some ad220) t217.length co28) t217) ∧ (Kd.R k60 60 w' w.heap.size (fun k_ => k_ ≠ s_.1 ∧ k_ ≠ s_.2) (.slice (some ad225) t221.length co31) t221) ∧ (w'.heap[s_.1]? = some (.cells #[.int .i64 0, .int .i64 0, .int .i64 0] 60 (0, 0))) ∧ (w'.heap[s_.2]? = some (.cells #[.int .i64 0, .int .i64 0, .int .i64 0] 60 (0, 0))) ∧ (w.heap.size ≤ s_.1) ∧ (w.heap.size ≤ s_.1) ∧ (s_.2 ≠ s_.1) ∧ (s_.1 ≠ s_.2) ∧ (w.heap.size ≤ s_.2) ∧ (w.heap.size ≤ s_.2) ∧ (Below w.heap.size w w')) ?_ ?_
                                  rotate_left
                                  · intro hJ18_20
                                    refine join_ (σ := Nat × Nat) 4 #[true, true, true, true, true, true, true, true, true, true, true, true, true, true, true, true, true, true, false, true, true, false, false, false] (fun s_ => [(11, .pointer (some ⟨s_.1, 0, none⟩)), (12, .pointer (some ⟨s_.2, 0, none⟩))]) (fun s_ w' => (w'.cell? ad224 = some (.int .i64 (rd (rd_L1 t217 a1) 0)) ∧ w'.cell? (ad225.add (((rd (rd_L1 t217 a1) 0)).toNat * 3)) = some (.int .i64 ((rd_T60 t221 (rd (rd_L1 t217 a1) 0)).f0)) ∧ w'.cell? ⟨(ad225.add (((rd (rd_L1 t217 a1) 0)).toNat * 3)).block, (ad225.add (((rd (rd_L1 t217 a1) 0)).toNat * 3)).off + 1, none⟩ = some (.int .i64 ((rd_T60 t221 (rd (rd_L1 t217 a1) 0)).f1)) ∧ w'.cell? ⟨(ad225.add (((rd (rd_L1 t217 a1) 0)).toNat * 3)).block, (ad225.add (((rd (rd_L1 t217 a1) 0)).toNat * 3)).off + 2, none⟩ = some (.int .i64 ((rd_T60 t221 (rd (rd_L1 t217 a1) 0)).f2)) ∧ w'.cell? ⟨ad224.block, ad224.off + 1, none⟩ = some (.int .i64 (rd (rd_L1 t217 a1) 1)) ∧ w'.cell? (ad225.add (((rd (rd_L1 t217 a1) 1)).toNat * 3)) = some (.int .i64 ((rd_T60 t221 (rd (rd_L1 t217 a1) 1)).f0)) ∧ w'.cell? ⟨(ad225.add (((rd (rd_L1 t217 a1) 1)).toNat * 3)).block, (ad225.add (((rd (rd_L1 t217 a1) 1)).toNat * 3)).off + 1, none⟩ = some (.int .i64 ((rd_T60 t221 (rd (rd_L1 t217 a1) 1)).f1)) ∧ w'.cell? ⟨(ad225.add (((rd (rd_L1 t217 a1) 1)).toNat * 3)).block, (ad225.add (((rd (rd_L1 t217 a1) 1)).toNat * 3)).off + 2, none⟩ = some (.int .i64 ((rd_T60 t221 (rd (rd_L1 t217 a1) 1)).f2)) ∧ w'.cell? ⟨ad224.block, ad224.off + 2, none⟩ = some (.int .i64 (rd (rd_L1 t217 a1) 2)) ∧ w'.cell? (ad225.add (((rd (rd_L1 t217 a1) 2)).toNat * 3)) = some (.int .i64 ((rd_T60 t221 (rd (rd_L1 t217 a1) 2)).f0)) ∧ w'.cell? ⟨(ad225.add (((rd (rd_L1 t217 a1) 2)).toNat * 3)).block, (ad225.add (((rd (rd_L1 t217 a1) 2)).toNat * 3)).off + 1, none⟩ = some (.int .i64 ((rd_T60 t221 (rd (rd_L1 t217 a1) 2)).f1)) ∧ w'.cell? ⟨(ad225.add (((rd (rd_L1 t217 a1) 2)).toNat * 3)).block, (ad225.add (((rd (rd_L1 t217 a1) 2)).toNat * 3)).off + 2, none⟩ = some (.int .i64 ((rd_T60 t221 (rd (rd_L1 t217 a1) 2)).f2))) ∧ (Kd.R (Kd.int .i64) 3 w' w.heap.size (fun k_ => some k_ ≠ (.slice (some ad220) t217.length co28 : Value).ownBlock) (.slice (some ad224) (rd_L1 t217 a1).length c220_0) (rd_L1 t217 a1)) ∧ (Kd.S (Kd.slice 3 (Kd.int .i64)) 27 w' w.heap.size (fun _ => True) (.slice (some ad220) t217.length co28) t217) ∧ (Kd.R k60 60 w' w.heap.size (fun k_ => k_ ≠ s_.1 ∧ k_ ≠ s_.2) (.slice (some ad225) t221.length co31) t221) ∧ (w'.heap[s_.1]? = some (.cells #[.int .i64 0, .int .i64 0, .int .i64 0] 60 (0, 0))) ∧ (w'.heap[s_.2]? = some (.cells #[.int .i64 0, .int .i64 0, .int .i64 0] 60 (0, 0))) ∧ (w.heap.size ≤ s_.1) ∧ (w.heap.size ≤ s_.1) ∧ (s_.2 ≠ s_.1) ∧ (s_.1 ≠ s_.2) ∧ (w.heap.size ≤ s_.2) ∧ (w.heap.size ≤ s_.2) ∧ (Below w.heap.size w w')) ?_ ?_
                                    rotate_left
                                    · intro hJ19_20
                                      refine join_ (σ := Nat) 5 #[true, true, true, true, true, true, true, true, true, true, true, true, true, true, true, true, true, true, true, false, false, false, false, false] (fun s_ => [(10, .pointer (some ⟨s_, 0, none⟩))]) (fun s_ w' => (w'.cell? ad224 = some (.int .i64 (rd (rd_L1 t217 a1) 0)) ∧ w'.cell? (ad225.add (((rd (rd_L1 t217 a1) 0)).toNat * 3)) = some (.int .i64 ((rd_T60 t221 (rd (rd_L1 t217 a1) 0)).f0)) ∧ w'.cell? ⟨(ad225.add (((rd (rd_L1 t217 a1) 0)).toNat * 3)).block, (ad225.add (((rd (rd_L1 t217 a1) 0)).toNat * 3)).off + 1, none⟩ = some (.int .i64 ((rd_T60 t221 (rd (rd_L1 t217 a1) 0)).f1)) ∧ w'.cell? ⟨(ad225.add (((rd (rd_L1 t217 a1) 0)).toNat * 3)).block, (ad225.add (((rd (rd_L1 t217 a1) 0)).toNat * 3)).off + 2, none⟩ = some (.int .i64 ((rd_T60 t221 (rd (rd_L1 t217 a1) 0)).f2)) ∧ w'.cell? ⟨ad224.block, ad224.off + 1, none⟩ = some (.int .i64 (rd (rd_L1 t217 a1) 1)) ∧ w'.cell? (ad225.add (((rd (rd_L1 t217 a1) 1)).toNat * 3)) = some (.int .i64 ((rd_T60 t221 (rd (rd_L1 t217 a1) 1)).f0)) ∧ w'.cell? ⟨(ad225.add (((rd (rd_L1 t217 a1) 1)).toNat * 3)).block, (ad225.add (((rd (rd_L1 t217 a1) 1)).toNat * 3)).off + 1, none⟩ = some (.int .i64 ((rd_T60 t221 (rd (rd_L1 t217 a1) 1)).f1)) ∧ w'.cell? ⟨(ad225.add (((rd (rd_L1 t217 a1) 1)).toNat * 3)).block, (ad225.add (((rd (rd_L1 t217 a1) 1)).toNat * 3)).off + 2, none⟩ = some (.int .i64 ((rd_T60 t221 (rd (rd_L1 t217 a1) 1)).f2)) ∧ w'.cell? ⟨ad224.block, ad224.off + 2, none⟩ = some (.int .i64 (rd (rd_L1 t217 a1) 2)) ∧ w'.cell? (ad225.add (((rd (rd_L1 t217 a1) 2)).toNat * 3)) = some (.int .i64 ((rd_T60 t221 (rd (rd_L1 t217 a1) 2)).f0)) ∧ w'.cell? ⟨(ad225.add (((rd (rd_L1 t217 a1) 2)).toNat * 3)).block, (ad225.add (((rd (rd_L1 t217 a1) 2)).toNat * 3)).off + 1, none⟩ = some (.int .i64 ((rd_T60 t221 (rd (rd_L1 t217 a1) 2)).f1)) ∧ w'.cell? ⟨(ad225.add (((rd (rd_L1 t217 a1) 2)).toNat * 3)).block, (ad225.add (((rd (rd_L1 t217 a1) 2)).toNat * 3)).off + 2, none⟩ = some (.int .i64 ((rd_T60 t221 (rd (rd_L1 t217 a1) 2)).f2))) ∧ (Kd.R (Kd.int .i64) 3 w' w.heap.size (fun k_ => some k_ ≠ (.slice (some ad220) t217.length co28 : Value).ownBlock) (.slice (some ad224) (rd_L1 t217 a1).length c220_0) (rd_L1 t217 a1)) ∧ (Kd.S (Kd.slice 3 (Kd.int .i64)) 27 w' w.heap.size (fun _ => True) (.slice (some ad220) t217.length co28) t217) ∧ (Kd.R k60 60 w' w.heap.size (fun k_ => k_ ≠ s_) (.slice (some ad225) t221.length co31) t221) ∧ (w'.heap[s_]? = some (.cells #[.int .i64 0, .int .i64 0, .int .i64 0] 60 (0, 0))) ∧ (w.heap.size ≤ s_) ∧ (w.heap.size ≤ s_) ∧ (Below w.heap.size w w')) ?_ ?_
                                      rotate_left
                                      · intro hJ18
                                        refine join_ (σ := Nat) 5 #[true, true, true, true, true, true, true, true, true, true, true, true, true, true, true, true, true, true, false, true, false, false, false, false] (fun s_ => [(11, .pointer (some ⟨s_, 0, none⟩))]) (fun s_ w' => (w'.cell? ad224 = some (.int .i64 (rd (rd_L1 t217 a1) 0)) ∧ w'.cell? (ad225.add (((rd (rd_L1 t217 a1) 0)).toNat * 3)) = some (.int .i64 ((rd_T60 t221 (rd (rd_L1 t217 a1) 0)).f0)) ∧ w'.cell? ⟨(ad225.add (((rd (rd_L1 t217 a1) 0)).toNat * 3)).block, (ad225.add (((rd (rd_L1 t217 a1) 0)).toNat * 3)).off + 1, none⟩ = some (.int .i64 ((rd_T60 t221 (rd (rd_L1 t217 a1) 0)).f1)) ∧ w'.cell? ⟨(ad225.add (((rd (rd_L1 t217 a1) 0)).toNat * 3)).block, (ad225.add (((rd (rd_L1 t217 a1) 0)).toNat * 3)).off + 2, none⟩ = some (.int .i64 ((rd_T60 t221 (rd (rd_L1 t217 a1) 0)).f2)) ∧ w'.cell? ⟨ad224.block, ad224.off + 1, none⟩ = some (.int .i64 (rd (rd_L1 t217 a1) 1)) ∧ w'.cell? (ad225.add (((rd (rd_L1 t217 a1) 1)).toNat * 3)) = some (.int .i64 ((rd_T60 t221 (rd (rd_L1 t217 a1) 1)).f0)) ∧ w'.cell? ⟨(ad225.add (((rd (rd_L1 t217 a1) 1)).toNat * 3)).block, (ad225.add (((rd (rd_L1 t217 a1) 1)).toNat * 3)).off + 1, none⟩ = some (.int .i64 ((rd_T60 t221 (rd (rd_L1 t217 a1) 1)).f1)) ∧ w'.cell? ⟨(ad225.add (((rd (rd_L1 t217 a1) 1)).toNat * 3)).block, (ad225.add (((rd (rd_L1 t217 a1) 1)).toNat * 3)).off + 2, none⟩ = some (.int .i64 ((rd_T60 t221 (rd (rd_L1 t217 a1) 1)).f2)) ∧ w'.cell? ⟨ad224.block, ad224.off + 2, none⟩ = some (.int .i64 (rd (rd_L1 t217 a1) 2)) ∧ w'.cell? (ad225.add (((rd (rd_L1 t217 a1) 2)).toNat * 3)) = some (.int .i64 ((rd_T60 t221 (rd (rd_L1 t217 a1) 2)).f0)) ∧ w'.cell? ⟨(ad225.add (((rd (rd_L1 t217 a1) 2)).toNat * 3)).block, (ad225.add (((rd (rd_L1 t217 a1) 2)).toNat * 3)).off + 1, none⟩ = some (.int .i64 ((rd_T60 t221 (rd (rd_L1 t217 a1) 2)).f1)) ∧ w'.cell? ⟨(ad225.add (((rd (rd_L1 t217 a1) 2)).toNat * 3)).block, (ad225.add (((rd (rd_L1 t217 a1) 2)).toNat * 3)).off + 2, none⟩ = some (.int .i64 ((rd_T60 t221 (rd (rd_L1 t217 a1) 2)).f2))) ∧ (Kd.R (Kd.int .i64) 3 w' w.heap.size (fun k_ => some k_ ≠ (.slice (some ad220) t217.length co28 : Value).ownBlock) (.slice (some ad224) (rd_L1 t217 a1).length c220_0) (rd_L1 t217 a1)) ∧ (Kd.S (Kd.slice 3 (Kd.int .i64)) 27 w' w.heap.size (fun _ => True) (.slice (some ad220) t217.length co28) t217) ∧ (Kd.R k60 60 w' w.heap.size (fun k_ => k_ ≠ s_) (.slice (some ad225) t221.length co31) t221) ∧ (w'.heap[s_]? = some (.cells #[.int .i64 0, .int .i64 0, .int .i64 0] 60 (0, 0))) ∧ (w.heap.size ≤ s_) ∧ (w.heap.size ≤ s_) ∧ (Below w.heap.size w w')) ?_ ?_
                                        rotate_left
                                        · intro hJ19
                                          refine join_ (σ := Nat) 5 #[true, true, true, true, true, true, true, true, true, true, true, true, true, true, true, true, true, true, false, false, true, false, false, false] (fun s_ => [(12, .pointer (some ⟨s_, 0, none⟩))]) (fun s_ w' => (w'.cell? ad224 = some (.int .i64 (rd (rd_L1 t217 a1) 0)) ∧ w'.cell? (ad225.add (((rd (rd_L1 t217 a1) 0)).toNat * 3)) = some (.int .i64 ((rd_T60 t221 (rd (rd_L1 t217 a1) 0)).f0)) ∧ w'.cell? ⟨(ad225.add (((rd (rd_L1 t217 a1) 0)).toNat * 3)).block, (ad225.add (((rd (rd_L1 t217 a1) 0)).toNat * 3)).off + 1, none⟩ = some (.int .i64 ((rd_T60 t221 (rd (rd_L1 t217 a1) 0)).f1)) ∧ w'.cell? ⟨(ad225.add (((rd (rd_L1 t217 a1) 0)).toNat * 3)).block, (ad225.add (((rd (rd_L1 t217 a1) 0)).toNat * 3)).off + 2, none⟩ = some (.int .i64 ((rd_T60 t221 (rd (rd_L1 t217 a1) 0)).f2)) ∧ w'.cell? ⟨ad224.block, ad224.off + 1, none⟩ = some (.int .i64 (rd (rd_L1 t217 a1) 1)) ∧ w'.cell? (ad225.add (((rd (rd_L1 t217 a1) 1)).toNat * 3)) = some (.int .i64 ((rd_T60 t221 (rd (rd_L1 t217 a1) 1)).f0)) ∧ w'.cell? ⟨(ad225.add (((rd (rd_L1 t217 a1) 1)).toNat * 3)).block, (ad225.add (((rd (rd_L1 t217 a1) 1)).toNat * 3)).off + 1, none⟩ = some (.int .i64 ((rd_T60 t221 (rd (rd_L1 t217 a1) 1)).f1)) ∧ w'.cell? ⟨(ad225.add (((rd (rd_L1 t217 a1) 1)).toNat * 3)).block, (ad225.add (((rd (rd_L1 t217 a1) 1)).toNat * 3)).off + 2, none⟩ = some (.int .i64 ((rd_T60 t221 (rd (rd_L1 t217 a1) 1)).f2)) ∧ w'.cell? ⟨ad224.block, ad224.off + 2, none⟩ = some (.int .i64 (rd (rd_L1 t217 a1) 2)) ∧ w'.cell? (ad225.add (((rd (rd_L1 t217 a1) 2)).toNat * 3)) = some (.int .i64 ((rd_T60 t221 (rd (rd_L1 t217 a1) 2)).f0)) ∧ w'.cell? ⟨(ad225.add (((rd (rd_L1 t217 a1) 2)).toNat * 3)).block, (ad225.add (((rd (rd_L1 t217 a1) 2)).toNat * 3)).off + 1, none⟩ = some (.int .i64 ((rd_T60 t221 (rd (rd_L1 t217 a1) 2)).f1)) ∧ w'.cell? ⟨(ad225.add (((rd (rd_L1 t217 a1) 2)).toNat * 3)).block, (ad225.add (((rd (rd_L1 t217 a1) 2)).toNat * 3)).off + 2, none⟩ = some (.int .i64 ((rd_T60 t221 (rd (rd_L1 t217 a1) 2)).f2))) ∧ (Kd.R (Kd.int .i64) 3 w' w.heap.size (fun k_ => some k_ ≠ (.slice (some ad220) t217.length co28 : Value).ownBlock) (.slice (some ad224) (rd_L1 t217 a1).length c220_0) (rd_L1 t217 a1)) ∧ (Kd.S (Kd.slice 3 (Kd.int .i64)) 27 w' w.heap.size (fun _ => True) (.slice (some ad220) t217.length co28) t217) ∧ (Kd.R k60 60 w' w.heap.size (fun k_ => k_ ≠ s_) (.slice (some ad225) t221.length co31) t221) ∧ (w'.heap[s_]? = some (.cells #[.int .i64 0, .int .i64 0, .int .i64 0] 60 (0, 0))) ∧ (w.heap.size ≤ s_) ∧ (w.heap.size ≤ s_) ∧ (Below w.heap.size w w')) ?_ ?_
                                          rotate_left
                                          · intro hJ20
                                            refine three_ (i := 18) (j := 19) (k := 20) (Ni := some 10) (Nj := some 11) (Nk := some 12) #[true, true, true, true, true, true, true, true, true, true, true, true, true, true, true, true, true, true, true, false, false, false, false, false] #[true, true, true, true, true, true, true, true, true, true, true, true, true, true, true, true, true, true, false, true, false, false, false, false] #[true, true, true, true, true, true, true, true, true, true, true, true, true, true, true, true, true, true, false, false, true, false, false, false] rfl rfl rfl rfl rfl rfl (three_of HT_.out (by kernel_rfl)) (by decide) (by decide) (by decide) (fun K hK => ?_) (fun K hK => ?_) (fun K hK => ?_)
                                            · skip
                                              refine box_step ?hg (N := 10) ?hd (cs := #[.int .i64 0, .int .i64 0, .int .i64 0]) (t := 60) ?hr ?_; (case hd => rfl); (case hg => rfl); (case hr => first | (go_simp; done) | (go_simp; rfl))
                                              intro gb230 hg w32 hbox hb
                                              have HS0_ := (hb.cell (World.block_lt_of_cell? _ _ (hHeld.1))).trans (hHeld.1)
                                              have HS1_ := (hb.cell (World.block_lt_of_cell? _ _ (hHeld.2.1))).trans (hHeld.2.1)
                                              have HS2_ := (hb.cell (World.block_lt_of_cell? _ _ (hHeld.2.2.1))).trans (hHeld.2.2.1)
                                              have HS3_ := (hb.cell (World.block_lt_of_cell? _ _ (hHeld.2.2.2.1))).trans (hHeld.2.2.2.1)
                                              have HS4_ := (hb.cell (World.block_lt_of_cell? _ _ (hHeld.2.2.2.2.1))).trans (hHeld.2.2.2.2.1)
                                              have HS5_ := (hb.cell (World.block_lt_of_cell? _ _ (hHeld.2.2.2.2.2.1))).trans (hHeld.2.2.2.2.2.1)
                                              have HS6_ := (hb.cell (World.block_lt_of_cell? _ _ (hHeld.2.2.2.2.2.2.1))).trans (hHeld.2.2.2.2.2.2.1)
                                              have HS7_ := (hb.cell (World.block_lt_of_cell? _ _ (hHeld.2.2.2.2.2.2.2.1))).trans (hHeld.2.2.2.2.2.2.2.1)
                                              have HS8_ := (hb.cell (World.block_lt_of_cell? _ _ (hHeld.2.2.2.2.2.2.2.2.1))).trans (hHeld.2.2.2.2.2.2.2.2.1)
                                              have HS9_ := (hb.cell (World.block_lt_of_cell? _ _ (hHeld.2.2.2.2.2.2.2.2.2.1))).trans (hHeld.2.2.2.2.2.2.2.2.2.1)
                                              have HS10_ := (hb.cell (World.block_lt_of_cell? _ _ (hHeld.2.2.2.2.2.2.2.2.2.2.1))).trans (hHeld.2.2.2.2.2.2.2.2.2.2.1)
                                              have HS11_ := (hb.cell (World.block_lt_of_cell? _ _ (hHeld.2.2.2.2.2.2.2.2.2.2.2))).trans (hHeld.2.2.2.2.2.2.2.2.2.2.2)
                                              have n0_ := Aside0.mk (Kd.S_below (by (with_reducible repeat (first | apply Kd.S_alloc | apply Kd.S_drewN | apply Kd.S_drew)); exact HO219.out) hb)
                                              have n1_ := Aside0.mk (Kd.R_below (by (with_reducible repeat (first | apply Kd.R_alloc | apply Kd.R_drewN | apply Kd.R_drew)); exact HL220_0.out) hb)
                                              have n2_ := Aside0.mk (Kd.R_below (Kd.R_elderB (by (with_reducible repeat (first | apply Kd.R_alloc | apply Kd.R_drewN | apply Kd.R_drew)); exact HO223.out) gb230 (Nat.le_of_eq hg.symm)) hb)
                                              have n3_ := Aside0.mk (Kd.C_below (by repeat (first | (with_reducible exact HR220_0.out) | (with_reducible refine Kd.C_alloc ?_ _) | (with_reducible refine Kd.C_drewN ?_ _) | (with_reducible refine Kd.C_drew ?_) | exact HR220_0.out)) hb)
                                              have n4_ := Aside0.mk (below_step (by repeat (first | (with_reducible first | exact HB.out | apply below_alloc | apply pw_below_drewN | apply below_drew1) | exact HB.out)) hb)
                                              have n5_ := Aside0.mk (hbox)
                                              have n6_ := Aside0.mk ((by rw [hg]; exact (below_size (by repeat (first | (with_reducible first | exact HB.out | apply below_alloc | apply pw_below_drewN | apply below_drew1) | exact HB.out))) : w.heap.size ≤ gb230))
                                              have n7_ := Aside0.mk ((by rw [hg]; exact (below_size (by repeat (first | (with_reducible first | exact HB.out | apply below_alloc | apply pw_below_drewN | apply below_drew1) | exact HB.out))) : w.heap.size ≤ gb230))
                                              clear HO219
                                              clear HL220_0
                                              clear HO223
                                              clear HR220_0
                                              clear HB
                                              have HO219 := n0_
                                              have HL220_0 := n1_
                                              have HO223 := n2_
                                              have HR220_0 := n3_
                                              have HB := n4_
                                              have BK230 := n5_
                                              have GW230 := n6_
                                              have GE230 := n7_
                                              clear n0_ n1_ n2_ n3_ n4_ n5_ n6_ n7_
                                              clear hb hbox hg
                                              refine hK.out _ _ ⟨HS0_, HS1_, HS2_, HS3_, HS4_, HS5_, HS6_, HS7_, HS8_, HS9_, HS10_, HS11_⟩ (fun hHeld => ?_)
                                              clear hK K
                                              refine norm_ (a' := ?_) ?_ ?_
                                              rotate_left
                                              · show Act.put _ (some 10) _ = _
                                                simp only [Act.put, List.setIfInBounds_toArray, List.set_cons_zero, List.set_cons_succ, i64_w, i32_w]
                                                rfl
                                              exact norm_ (by first | (simp only [putAll, Act.put, List.setIfInBounds_toArray, List.set_cons_zero, List.set_cons_succ]; done) | (simp only [putAll, Act.put, List.setIfInBounds_toArray, List.set_cons_zero, List.set_cons_succ]; rfl)) (hJ18 (gb230) _ ⟨hHeld, (by (with_reducible repeat (first | apply Kd.R_alloc | apply Kd.R_drewN | apply Kd.R_drew)); exact Kd.R_mono HL220_0.out (fun _ hk => hk.2)), (by (with_reducible repeat (first | apply Kd.S_alloc | apply Kd.S_drewN | apply Kd.S_drew)); exact HO219.out), (by (with_reducible repeat (first | apply Kd.R_alloc | apply Kd.R_drewN | apply Kd.R_drew)); exact Kd.R_mono HO223.out (fun _ hk => hk.2)), (by (with_reducible repeat (first | refine blk_drewN ?_ _ | refine blk_drew ?_ | refine blk_alloc ?_ _)); exact BK230.out), GW230.out, GE230.out, (by repeat (first | (with_reducible first | exact HB.out | apply below_alloc | apply pw_below_drewN | apply below_drew1 | refine below_set ?_ GE230.out) | exact HB.out))⟩)
                                            · skip
                                              refine box_step ?hg (N := 11) ?hd (cs := #[.int .i64 0, .int .i64 0, .int .i64 0]) (t := 60) ?hr ?_; (case hd => rfl); (case hg => rfl); (case hr => first | (go_simp; done) | (go_simp; rfl))
                                              intro gb231 hg w32 hbox hb
                                              have HS0_ := (hb.cell (World.block_lt_of_cell? _ _ (hHeld.1))).trans (hHeld.1)
                                              have HS1_ := (hb.cell (World.block_lt_of_cell? _ _ (hHeld.2.1))).trans (hHeld.2.1)
                                              have HS2_ := (hb.cell (World.block_lt_of_cell? _ _ (hHeld.2.2.1))).trans (hHeld.2.2.1)
                                              have HS3_ := (hb.cell (World.block_lt_of_cell? _ _ (hHeld.2.2.2.1))).trans (hHeld.2.2.2.1)
                                              have HS4_ := (hb.cell (World.block_lt_of_cell? _ _ (hHeld.2.2.2.2.1))).trans (hHeld.2.2.2.2.1)
                                              have HS5_ := (hb.cell (World.block_lt_of_cell? _ _ (hHeld.2.2.2.2.2.1))).trans (hHeld.2.2.2.2.2.1)
                                              have HS6_ := (hb.cell (World.block_lt_of_cell? _ _ (hHeld.2.2.2.2.2.2.1))).trans (hHeld.2.2.2.2.2.2.1)
                                              have HS7_ := (hb.cell (World.block_lt_of_cell? _ _ (hHeld.2.2.2.2.2.2.2.1))).trans (hHeld.2.2.2.2.2.2.2.1)
                                              have HS8_ := (hb.cell (World.block_lt_of_cell? _ _ (hHeld.2.2.2.2.2.2.2.2.1))).trans (hHeld.2.2.2.2.2.2.2.2.1)
                                              have HS9_ := (hb.cell (World.block_lt_of_cell? _ _ (hHeld.2.2.2.2.2.2.2.2.2.1))).trans (hHeld.2.2.2.2.2.2.2.2.2.1)
                                              have HS10_ := (hb.cell (World.block_lt_of_cell? _ _ (hHeld.2.2.2.2.2.2.2.2.2.2.1))).trans (hHeld.2.2.2.2.2.2.2.2.2.2.1)
                                              have HS11_ := (hb.cell (World.block_lt_of_cell? _ _ (hHeld.2.2.2.2.2.2.2.2.2.2.2))).trans (hHeld.2.2.2.2.2.2.2.2.2.2.2)
                                              have n0_ := Aside0.mk (Kd.S_below (by (with_reducible repeat (first | apply Kd.S_alloc | apply Kd.S_drewN | apply Kd.S_drew)); exact HO219.out) hb)
                                              have n1_ := Aside0.mk (Kd.R_below (by (with_reducible repeat (first | apply Kd.R_alloc | apply Kd.R_drewN | apply Kd.R_drew)); exact HL220_0.out) hb)
                                              have n2_ := Aside0.mk (Kd.R_below (Kd.R_elderB (by (with_reducible repeat (first | apply Kd.R_alloc | apply Kd.R_drewN | apply Kd.R_drew)); exact HO223.out) gb231 (Nat.le_of_eq hg.symm)) hb)
                                              have n3_ := Aside0.mk (Kd.C_below (by repeat (first | (with_reducible exact HR220_0.out) | (with_reducible refine Kd.C_alloc ?_ _) | (with_reducible refine Kd.C_drewN ?_ _) | (with_reducible refine Kd.C_drew ?_) | exact HR220_0.out)) hb)
                                              have n4_ := Aside0.mk (below_step (by repeat (first | (with_reducible first | exact HB.out | apply below_alloc | apply pw_below_drewN | apply below_drew1) | exact HB.out)) hb)
                                              have n5_ := Aside0.mk (hbox)
                                              have n6_ := Aside0.mk ((by rw [hg]; exact (below_size (by repeat (first | (with_reducible first | exact HB.out | apply below_alloc | apply pw_below_drewN | apply below_drew1) | exact HB.out))) : w.heap.size ≤ gb231))
                                              have n7_ := Aside0.mk ((by rw [hg]; exact (below_size (by repeat (first | (with_reducible first | exact HB.out | apply below_alloc | apply pw_below_drewN | apply below_drew1) | exact HB.out))) : w.heap.size ≤ gb231))
                                              clear HO219
                                              clear HL220_0
                                              clear HO223
                                              clear HR220_0
                                              clear HB
                                              have HO219 := n0_
                                              have HL220_0 := n1_
                                              have HO223 := n2_
                                              have HR220_0 := n3_
                                              have HB := n4_
                                              have BK231 := n5_
                                              have GW231 := n6_
                                              have GE231 := n7_
                                              clear n0_ n1_ n2_ n3_ n4_ n5_ n6_ n7_
                                              clear hb hbox hg
                                              refine hK.out _ _ ⟨HS0_, HS1_, HS2_, HS3_, HS4_, HS5_, HS6_, HS7_, HS8_, HS9_, HS10_, HS11_⟩ (fun hHeld => ?_)
                                              clear hK K
                                              refine norm_ (a' := ?_) ?_ ?_
                                              rotate_left
                                              · show Act.put _ (some 11) _ = _
                                                simp only [Act.put, List.setIfInBounds_toArray, List.set_cons_zero, List.set_cons_succ, i64_w, i32_w]
                                                rfl
                                              exact norm_ (by first | (simp only [putAll, Act.put, List.setIfInBounds_toArray, List.set_cons_zero, List.set_cons_succ]; done) | (simp only [putAll, Act.put, List.setIfInBounds_toArray, List.set_cons_zero, List.set_cons_succ]; rfl)) (hJ19 (gb231) _ ⟨hHeld, (by (with_reducible repeat (first | apply Kd.R_alloc | apply Kd.R_drewN | apply Kd.R_drew)); exact Kd.R_mono HL220_0.out (fun _ hk => hk.2)), (by (with_reducible repeat (first | apply Kd.S_alloc | apply Kd.S_drewN | apply Kd.S_drew)); exact HO219.out), (by (with_reducible repeat (first | apply Kd.R_alloc | apply Kd.R_drewN | apply Kd.R_drew)); exact Kd.R_mono HO223.out (fun _ hk => hk.2)), (by (with_reducible repeat (first | refine blk_drewN ?_ _ | refine blk_drew ?_ | refine blk_alloc ?_ _)); exact BK231.out), GW231.out, GE231.out, (by repeat (first | (with_reducible first | exact HB.out | apply below_alloc | apply pw_below_drewN | apply below_drew1 | refine below_set ?_ GE231.out) | exact HB.out))⟩)
                                            · skip
                                              refine box_step ?hg (N := 12) ?hd (cs := #[.int .i64 0, .int .i64 0, .int .i64 0]) (t := 60) ?hr ?_; (case hd => rfl); (case hg => rfl); (case hr => first | (go_simp; done) | (go_simp; rfl))
                                              intro gb232 hg w32 hbox hb
                                              have HS0_ := (hb.cell (World.block_lt_of_cell? _ _ (hHeld.1))).trans (hHeld.1)
                                              have HS1_ := (hb.cell (World.block_lt_of_cell? _ _ (hHeld.2.1))).trans (hHeld.2.1)
                                              have HS2_ := (hb.cell (World.block_lt_of_cell? _ _ (hHeld.2.2.1))).trans (hHeld.2.2.1)
                                              have HS3_ := (hb.cell (World.block_lt_of_cell? _ _ (hHeld.2.2.2.1))).trans (hHeld.2.2.2.1)
                                              have HS4_ := (hb.cell (World.block_lt_of_cell? _ _ (hHeld.2.2.2.2.1))).trans (hHeld.2.2.2.2.1)
                                              have HS5_ := (hb.cell (World.block_lt_of_cell? _ _ (hHeld.2.2.2.2.2.1))).trans (hHeld.2.2.2.2.2.1)
                                              have HS6_ := (hb.cell (World.block_lt_of_cell? _ _ (hHeld.2.2.2.2.2.2.1))).trans (hHeld.2.2.2.2.2.2.1)
                                              have HS7_ := (hb.cell (World.block_lt_of_cell? _ _ (hHeld.2.2.2.2.2.2.2.1))).trans (hHeld.2.2.2.2.2.2.2.1)
                                              have HS8_ := (hb.cell (World.block_lt_of_cell? _ _ (hHeld.2.2.2.2.2.2.2.2.1))).trans (hHeld.2.2.2.2.2.2.2.2.1)
                                              have HS9_ := (hb.cell (World.block_lt_of_cell? _ _ (hHeld.2.2.2.2.2.2.2.2.2.1))).trans (hHeld.2.2.2.2.2.2.2.2.2.1)
                                              have HS10_ := (hb.cell (World.block_lt_of_cell? _ _ (hHeld.2.2.2.2.2.2.2.2.2.2.1))).trans (hHeld.2.2.2.2.2.2.2.2.2.2.1)
                                              have HS11_ := (hb.cell (World.block_lt_of_cell? _ _ (hHeld.2.2.2.2.2.2.2.2.2.2.2))).trans (hHeld.2.2.2.2.2.2.2.2.2.2.2)
                                              have n0_ := Aside0.mk (Kd.S_below (by (with_reducible repeat (first | apply Kd.S_alloc | apply Kd.S_drewN | apply Kd.S_drew)); exact HO219.out) hb)
                                              have n1_ := Aside0.mk (Kd.R_below (by (with_reducible repeat (first | apply Kd.R_alloc | apply Kd.R_drewN | apply Kd.R_drew)); exact HL220_0.out) hb)
                                              have n2_ := Aside0.mk (Kd.R_below (Kd.R_elderB (by (with_reducible repeat (first | apply Kd.R_alloc | apply Kd.R_drewN | apply Kd.R_drew)); exact HO223.out) gb232 (Nat.le_of_eq hg.symm)) hb)
                                              have n3_ := Aside0.mk (Kd.C_below (by repeat (first | (with_reducible exact HR220_0.out) | (with_reducible refine Kd.C_alloc ?_ _) | (with_reducible refine Kd.C_drewN ?_ _) | (with_reducible refine Kd.C_drew ?_) | exact HR220_0.out)) hb)
                                              have n4_ := Aside0.mk (below_step (by repeat (first | (with_reducible first | exact HB.out | apply below_alloc | apply pw_below_drewN | apply below_drew1) | exact HB.out)) hb)
                                              have n5_ := Aside0.mk (hbox)
                                              have n6_ := Aside0.mk ((by rw [hg]; exact (below_size (by repeat (first | (with_reducible first | exact HB.out | apply below_alloc | apply pw_below_drewN | apply below_drew1) | exact HB.out))) : w.heap.size ≤ gb232))
                                              have n7_ := Aside0.mk ((by rw [hg]; exact (below_size (by repeat (first | (with_reducible first | exact HB.out | apply below_alloc | apply pw_below_drewN | apply below_drew1) | exact HB.out))) : w.heap.size ≤ gb232))
                                              clear HO219
                                              clear HL220_0
                                              clear HO223
                                              clear HR220_0
                                              clear HB
                                              have HO219 := n0_
                                              have HL220_0 := n1_
                                              have HO223 := n2_
                                              have HR220_0 := n3_
                                              have HB := n4_
                                              have BK232 := n5_
                                              have GW232 := n6_
                                              have GE232 := n7_
                                              clear n0_ n1_ n2_ n3_ n4_ n5_ n6_ n7_
                                              clear hb hbox hg
                                              refine hK.out _ _ ⟨HS0_, HS1_, HS2_, HS3_, HS4_, HS5_, HS6_, HS7_, HS8_, HS9_, HS10_, HS11_⟩ (fun hHeld => ?_)
                                              clear hK K
                                              refine norm_ (a' := ?_) ?_ ?_
                                              rotate_left
                                              · show Act.put _ (some 12) _ = _
                                                simp only [Act.put, List.setIfInBounds_toArray, List.set_cons_zero, List.set_cons_succ, i64_w, i32_w]
                                                rfl
                                              exact norm_ (by first | (simp only [putAll, Act.put, List.setIfInBounds_toArray, List.set_cons_zero, List.set_cons_succ]; done) | (simp only [putAll, Act.put, List.setIfInBounds_toArray, List.set_cons_zero, List.set_cons_succ]; rfl)) (hJ20 (gb232) _ ⟨hHeld, (by (with_reducible repeat (first | apply Kd.R_alloc | apply Kd.R_drewN | apply Kd.R_drew)); exact Kd.R_mono HL220_0.out (fun _ hk => hk.2)), (by (with_reducible repeat (first | apply Kd.S_alloc | apply Kd.S_drewN | apply Kd.S_drew)); exact HO219.out), (by (with_reducible repeat (first | apply Kd.R_alloc | apply Kd.R_drewN | apply Kd.R_drew)); exact Kd.R_mono HO223.out (fun _ hk => hk.2)), (by (with_reducible repeat (first | refine blk_drewN ?_ _ | refine blk_drew ?_ | refine blk_alloc ?_ _)); exact BK232.out), GW232.out, GE232.out, (by repeat (first | (with_reducible first | exact HB.out | apply below_alloc | apply pw_below_drewN | apply below_drew1 | refine below_set ?_ GE232.out) | exact HB.out))⟩)
                                          · skip
                                            rintro gb232 w33 ⟨hS_, h0_, h1_, h2_, h3_, h4_, h5_, h6_⟩
                                            have n0_ : Aside0 (Kd.R (Kd.int .i64) 3 w33 w.heap.size (fun k_ => some k_ ≠ (.slice (some ad220) t217.length co28 : Value).ownBlock) (.slice (some ad224) (rd_L1 t217 a1).length c220_0) (rd_L1 t217 a1)) := ⟨h0_⟩
                                            have n1_ : Aside0 (Kd.S (Kd.slice 3 (Kd.int .i64)) 27 w33 w.heap.size (fun _ => True) (.slice (some ad220) t217.length co28) t217) := ⟨h1_⟩
                                            have n2_ : Aside0 (Kd.R k60 60 w33 w.heap.size (fun k_ => k_ ≠ gb232) (.slice (some ad225) t221.length co31) t221) := ⟨h2_⟩
                                            have n3_ : Aside0 (w33.heap[gb232]? = some (.cells #[.int .i64 0, .int .i64 0, .int .i64 0] 60 (0, 0))) := ⟨h3_⟩
                                            have n4_ : Aside0 (w.heap.size ≤ gb232) := ⟨h4_⟩
                                            have n5_ : Aside0 (w.heap.size ≤ gb232) := ⟨h5_⟩
                                            have n6_ : Aside0 (Below w.heap.size w w33) := ⟨h6_⟩
                                            clear HO219
                                            clear HL220_0
                                            clear HO223
                                            clear HR220_0
                                            clear HB
                                            clear h0_ h1_ h2_ h3_ h4_ h5_ h6_
                                            have HL220_0 := n0_
                                            have HO219 := n1_
                                            have HO223 := n2_
                                            have BK232 := n3_
                                            have GW232 := n4_
                                            have GE232 := n5_
                                            have HB := n6_
                                            clear n0_ n1_ n2_ n3_ n4_ n5_ n6_
                                            have hHeld : w33.cell? ad224 = some (.int .i64 (rd (rd_L1 t217 a1) 0)) ∧ w33.cell? (ad225.add (((rd (rd_L1 t217 a1) 0)).toNat * 3)) = some (.int .i64 ((rd_T60 t221 (rd (rd_L1 t217 a1) 0)).f0)) ∧ w33.cell? ⟨(ad225.add (((rd (rd_L1 t217 a1) 0)).toNat * 3)).block, (ad225.add (((rd (rd_L1 t217 a1) 0)).toNat * 3)).off + 1, none⟩ = some (.int .i64 ((rd_T60 t221 (rd (rd_L1 t217 a1) 0)).f1)) ∧ w33.cell? ⟨(ad225.add (((rd (rd_L1 t217 a1) 0)).toNat * 3)).block, (ad225.add (((rd (rd_L1 t217 a1) 0)).toNat * 3)).off + 2, none⟩ = some (.int .i64 ((rd_T60 t221 (rd (rd_L1 t217 a1) 0)).f2)) ∧ w33.cell? ⟨ad224.block, ad224.off + 1, none⟩ = some (.int .i64 (rd (rd_L1 t217 a1) 1)) ∧ w33.cell? (ad225.add (((rd (rd_L1 t217 a1) 1)).toNat * 3)) = some (.int .i64 ((rd_T60 t221 (rd (rd_L1 t217 a1) 1)).f0)) ∧ w33.cell? ⟨(ad225.add (((rd (rd_L1 t217 a1) 1)).toNat * 3)).block, (ad225.add (((rd (rd_L1 t217 a1) 1)).toNat * 3)).off + 1, none⟩ = some (.int .i64 ((rd_T60 t221 (rd (rd_L1 t217 a1) 1)).f1)) ∧ w33.cell? ⟨(ad225.add (((rd (rd_L1 t217 a1) 1)).toNat * 3)).block, (ad225.add (((rd (rd_L1 t217 a1) 1)).toNat * 3)).off + 2, none⟩ = some (.int .i64 ((rd_T60 t221 (rd (rd_L1 t217 a1) 1)).f2)) ∧ w33.cell? ⟨ad224.block, ad224.off + 2, none⟩ = some (.int .i64 (rd (rd_L1 t217 a1) 2)) ∧ w33.cell? (ad225.add (((rd (rd_L1 t217 a1) 2)).toNat * 3)) = some (.int .i64 ((rd_T60 t221 (rd (rd_L1 t217 a1) 2)).f0)) ∧ w33.cell? ⟨(ad225.add (((rd (rd_L1 t217 a1) 2)).toNat * 3)).block, (ad225.add (((rd (rd_L1 t217 a1) 2)).toNat * 3)).off + 1, none⟩ = some (.int .i64 ((rd_T60 t221 (rd (rd_L1 t217 a1) 2)).f1)) ∧ w33.cell? ⟨(ad225.add (((rd (rd_L1 t217 a1) 2)).toNat * 3)).block, (ad225.add (((rd (rd_L1 t217 a1) 2)).toNat * 3)).off + 2, none⟩ = some (.int .i64 ((rd_T60 t221 (rd (rd_L1 t217 a1) 2)).f2)) := hS_
                                            refine norm_ (a' := ?_) ?_ ?_
                                            rotate_left
                                            · simp only [putAll, Act.put, List.setIfInBounds_toArray, List.set_cons_zero, List.set_cons_succ]
                                              rfl
                                            refine two_ (i := 18) (j := 19) (Ni := some 10) (Nj := some 11) #[true, true, true, true, true, true, true, true, true, true, true, true, true, true, true, true, true, true, true, false, true, false, false, false] #[true, true, true, true, true, true, true, true, true, true, true, true, true, true, true, true, true, true, false, true, true, false, false, false] rfl rfl rfl rfl (two_of HT_.out (by kernel_rfl)) (by decide) (by decide) (fun K hK => ?_) (fun K hK => ?_)
                                            · skip
                                              refine box_step ?hg (N := 10) ?hd (cs := #[.int .i64 0, .int .i64 0, .int .i64 0]) (t := 60) ?hr ?_; (case hd => rfl); (case hg => rfl); (case hr => first | (go_simp; done) | (go_simp; rfl))
                                              intro gb230 hg w34 hbox hb
                                              have HS0_ := (hb.cell (World.block_lt_of_cell? _ _ (hHeld.1))).trans (hHeld.1)
                                              have HS1_ := (hb.cell (World.block_lt_of_cell? _ _ (hHeld.2.1))).trans (hHeld.2.1)
                                              have HS2_ := (hb.cell (World.block_lt_of_cell? _ _ (hHeld.2.2.1))).trans (hHeld.2.2.1)
                                              have HS3_ := (hb.cell (World.block_lt_of_cell? _ _ (hHeld.2.2.2.1))).trans (hHeld.2.2.2.1)
                                              have HS4_ := (hb.cell (World.block_lt_of_cell? _ _ (hHeld.2.2.2.2.1))).trans (hHeld.2.2.2.2.1)
                                              have HS5_ := (hb.cell (World.block_lt_of_cell? _ _ (hHeld.2.2.2.2.2.1))).trans (hHeld.2.2.2.2.2.1)
                                              have HS6_ := (hb.cell (World.block_lt_of_cell? _ _ (hHeld.2.2.2.2.2.2.1))).trans (hHeld.2.2.2.2.2.2.1)
                                              have HS7_ := (hb.cell (World.block_lt_of_cell? _ _ (hHeld.2.2.2.2.2.2.2.1))).trans (hHeld.2.2.2.2.2.2.2.1)
                                              have HS8_ := (hb.cell (World.block_lt_of_cell? _ _ (hHeld.2.2.2.2.2.2.2.2.1))).trans (hHeld.2.2.2.2.2.2.2.2.1)
                                              have HS9_ := (hb.cell (World.block_lt_of_cell? _ _ (hHeld.2.2.2.2.2.2.2.2.2.1))).trans (hHeld.2.2.2.2.2.2.2.2.2.1)
                                              have HS10_ := (hb.cell (World.block_lt_of_cell? _ _ (hHeld.2.2.2.2.2.2.2.2.2.2.1))).trans (hHeld.2.2.2.2.2.2.2.2.2.2.1)
                                              have HS11_ := (hb.cell (World.block_lt_of_cell? _ _ (hHeld.2.2.2.2.2.2.2.2.2.2.2))).trans (hHeld.2.2.2.2.2.2.2.2.2.2.2)
                                              have n0_ := Aside0.mk (Kd.S_below (by (with_reducible repeat (first | apply Kd.S_alloc | apply Kd.S_drewN | apply Kd.S_drew)); exact HO219.out) hb)
                                              have n1_ := Aside0.mk (Kd.R_below (by (with_reducible repeat (first | apply Kd.R_alloc | apply Kd.R_drewN | apply Kd.R_drew)); exact HL220_0.out) hb)
                                              have n2_ := Aside0.mk (Kd.R_below (Kd.R_elderB (by (with_reducible repeat (first | apply Kd.R_alloc | apply Kd.R_drewN | apply Kd.R_drew)); exact HO223.out) gb230 (Nat.le_of_eq hg.symm)) hb)
                                              have n3_ := Aside0.mk (blk_below (g := gb232) (o := .cells #[.int .i64 0, .int .i64 0, .int .i64 0] 60 (0, 0)) (by (with_reducible repeat (first | refine blk_drewN ?_ _ | refine blk_drew ?_ | refine blk_alloc ?_ _)); exact BK232.out) hb)
                                              have n4_ := Aside0.mk (below_step (by repeat (first | (with_reducible first | exact HB.out | apply below_alloc | apply pw_below_drewN | apply below_drew1 | refine below_set ?_ GE232.out) | exact HB.out)) hb)
                                              have n5_ := Aside0.mk (hbox)
                                              have n6_ := Aside0.mk ((by rw [hg]; exact (below_size (by repeat (first | (with_reducible first | exact HB.out | apply below_alloc | apply pw_below_drewN | apply below_drew1 | refine below_set ?_ GE232.out) | exact HB.out))) : w.heap.size ≤ gb230))
                                              have n7_ := Aside0.mk ((by rw [hg]; exact (below_size (by repeat (first | (with_reducible first | exact HB.out | apply below_alloc | apply pw_below_drewN | apply below_drew1 | refine below_set ?_ GE232.out) | exact HB.out))) : w.heap.size ≤ gb230))
                                              have n8_ := Aside0.mk ((by rw [hg]; exact Nat.ne_of_lt (blk_lt (g := gb232) (o := .cells #[.int .i64 0, .int .i64 0, .int .i64 0] 60 (0, 0)) (by (with_reducible repeat (first | refine blk_drewN ?_ _ | refine blk_drew ?_ | refine blk_alloc ?_ _)); exact BK232.out)) : gb232 ≠ gb230))
                                              have n9_ := Aside0.mk ((by rw [hg]; exact Nat.ne_of_gt (blk_lt (g := gb232) (o := .cells #[.int .i64 0, .int .i64 0, .int .i64 0] 60 (0, 0)) (by (with_reducible repeat (first | refine blk_drewN ?_ _ | refine blk_drew ?_ | refine blk_alloc ?_ _)); exact BK232.out)) : gb230 ≠ gb232))
                                              clear HO219
                                              clear HL220_0
                                              clear HO223
                                              clear BK232
                                              clear HB
                                              have HO219 := n0_
                                              have HL220_0 := n1_
                                              have HO223 := n2_
                                              have BK232 := n3_
                                              have HB := n4_
                                              have BK230 := n5_
                                              have GW230 := n6_
                                              have GE230 := n7_
                                              have NB232_230 := n8_
                                              have NB230_232 := n9_
                                              clear n0_ n1_ n2_ n3_ n4_ n5_ n6_ n7_ n8_ n9_
                                              clear hb hbox hg
                                              refine hK.out _ _ ⟨HS0_, HS1_, HS2_, HS3_, HS4_, HS5_, HS6_, HS7_, HS8_, HS9_, HS10_, HS11_⟩ (fun hHeld => ?_)
                                              clear hK K
                                              refine norm_ (a' := ?_) ?_ ?_
                                              rotate_left
                                              · show Act.put _ (some 10) _ = _
                                                simp only [Act.put, List.setIfInBounds_toArray, List.set_cons_zero, List.set_cons_succ, i64_w, i32_w]
                                                rfl
                                              exact norm_ (by first | (simp only [putAll, Act.put, List.setIfInBounds_toArray, List.set_cons_zero, List.set_cons_succ]; done) | (simp only [putAll, Act.put, List.setIfInBounds_toArray, List.set_cons_zero, List.set_cons_succ]; rfl)) (hJ18_20 (gb230, gb232) _ ⟨hHeld, (by (with_reducible repeat (first | apply Kd.R_alloc | apply Kd.R_drewN | apply Kd.R_drew)); exact HL220_0.out), (by (with_reducible repeat (first | apply Kd.S_alloc | apply Kd.S_drewN | apply Kd.S_drew)); exact HO219.out), (by (with_reducible repeat (first | apply Kd.R_alloc | apply Kd.R_drewN | apply Kd.R_drew)); exact Kd.R_mono HO223.out (fun _ hk => ⟨hk.2, hk.1⟩)), (by (with_reducible repeat (first | refine blk_drewN ?_ _ | refine blk_drew ?_ | refine blk_alloc ?_ _)); exact BK230.out), (by (with_reducible repeat (first | refine blk_drewN ?_ _ | refine blk_drew ?_ | refine blk_alloc ?_ _)); exact BK232.out), GW230.out, GE230.out, NB232_230.out, NB230_232.out, GW232.out, GE232.out, (by repeat (first | (with_reducible first | exact HB.out | apply below_alloc | apply pw_below_drewN | apply below_drew1 | refine below_set ?_ GE232.out | refine below_set ?_ GE230.out) | exact HB.out))⟩)
                                            · skip
                                              refine box_step ?hg (N := 11) ?hd (cs := #[.int .i64 0, .int .i64 0, .int .i64 0]) (t := 60) ?hr ?_; (case hd => rfl); (case hg => rfl); (case hr => first | (go_simp; done) | (go_simp; rfl))
                                              intro gb231 hg w34 hbox hb
                                              have HS0_ := (hb.cell (World.block_lt_of_cell? _ _ (hHeld.1))).trans (hHeld.1)
                                              have HS1_ := (hb.cell (World.block_lt_of_cell? _ _ (hHeld.2.1))).trans (hHeld.2.1)
                                              have HS2_ := (hb.cell (World.block_lt_of_cell? _ _ (hHeld.2.2.1))).trans (hHeld.2.2.1)
                                              have HS3_ := (hb.cell (World.block_lt_of_cell? _ _ (hHeld.2.2.2.1))).trans (hHeld.2.2.2.1)
                                              have HS4_ := (hb.cell (World.block_lt_of_cell? _ _ (hHeld.2.2.2.2.1))).trans (hHeld.2.2.2.2.1)
                                              have HS5_ := (hb.cell (World.block_lt_of_cell? _ _ (hHeld.2.2.2.2.2.1))).trans (hHeld.2.2.2.2.2.1)
                                              have HS6_ := (hb.cell (World.block_lt_of_cell? _ _ (hHeld.2.2.2.2.2.2.1))).trans (hHeld.2.2.2.2.2.2.1)
                                              have HS7_ := (hb.cell (World.block_lt_of_cell? _ _ (hHeld.2.2.2.2.2.2.2.1))).trans (hHeld.2.2.2.2.2.2.2.1)
                                              have HS8_ := (hb.cell (World.block_lt_of_cell? _ _ (hHeld.2.2.2.2.2.2.2.2.1))).trans (hHeld.2.2.2.2.2.2.2.2.1)
                                              have HS9_ := (hb.cell (World.block_lt_of_cell? _ _ (hHeld.2.2.2.2.2.2.2.2.2.1))).trans (hHeld.2.2.2.2.2.2.2.2.2.1)
                                              have HS10_ := (hb.cell (World.block_lt_of_cell? _ _ (hHeld.2.2.2.2.2.2.2.2.2.2.1))).trans (hHeld.2.2.2.2.2.2.2.2.2.2.1)
                                              have HS11_ := (hb.cell (World.block_lt_of_cell? _ _ (hHeld.2.2.2.2.2.2.2.2.2.2.2))).trans (hHeld.2.2.2.2.2.2.2.2.2.2.2)
                                              have n0_ := Aside0.mk (Kd.S_below (by (with_reducible repeat (first | apply Kd.S_alloc | apply Kd.S_drewN | apply Kd.S_drew)); exact HO219.out) hb)
                                              have n1_ := Aside0.mk (Kd.R_below (by (with_reducible repeat (first | apply Kd.R_alloc | apply Kd.R_drewN | apply Kd.R_drew)); exact HL220_0.out) hb)
                                              have n2_ := Aside0.mk (Kd.R_below (Kd.R_elderB (by (with_reducible repeat (first | apply Kd.R_alloc | apply Kd.R_drewN | apply Kd.R_drew)); exact HO223.out) gb231 (Nat.le_of_eq hg.symm)) hb)
                                              have n3_ := Aside0.mk (blk_below (g := gb232) (o := .cells #[.int .i64 0, .int .i64 0, .int .i64 0] 60 (0, 0)) (by (with_reducible repeat (first | refine blk_drewN ?_ _ | refine blk_drew ?_ | refine blk_alloc ?_ _)); exact BK232.out) hb)
                                              have n4_ := Aside0.mk (below_step (by repeat (first | (with_reducible first | exact HB.out | apply below_alloc | apply pw_below_drewN | apply below_drew1 | refine below_set ?_ GE232.out) | exact HB.out)) hb)
                                              have n5_ := Aside0.mk (hbox)
                                              have n6_ := Aside0.mk ((by rw [hg]; exact (below_size (by repeat (first | (with_reducible first | exact HB.out | apply below_alloc | apply pw_below_drewN | apply below_drew1 | refine below_set ?_ GE232.out) | exact HB.out))) : w.heap.size ≤ gb231))
                                              have n7_ := Aside0.mk ((by rw [hg]; exact (below_size (by repeat (first | (with_reducible first | exact HB.out | apply below_alloc | apply pw_below_drewN | apply below_drew1 | refine below_set ?_ GE232.out) | exact HB.out))) : w.heap.size ≤ gb231))
                                              have n8_ := Aside0.mk ((by rw [hg]; exact Nat.ne_of_lt (blk_lt (g := gb232) (o := .cells #[.int .i64 0, .int .i64 0, .int .i64 0] 60 (0, 0)) (by (with_reducible repeat (first | refine blk_drewN ?_ _ | refine blk_drew ?_ | refine blk_alloc ?_ _)); exact BK232.out)) : gb232 ≠ gb231))
                                              have n9_ := Aside0.mk ((by rw [hg]; exact Nat.ne_of_gt (blk_lt (g := gb232) (o := .cells #[.int .i64 0, .int .i64 0, .int .i64 0] 60 (0, 0)) (by (with_reducible repeat (first | refine blk_drewN ?_ _ | refine blk_drew ?_ | refine blk_alloc ?_ _)); exact BK232.out)) : gb231 ≠ gb232))
                                              clear HO219
                                              clear HL220_0
                                              clear HO223
                                              clear BK232
                                              clear HB
                                              have HO219 := n0_
                                              have HL220_0 := n1_
                                              have HO223 := n2_
                                              have BK232 := n3_
                                              have HB := n4_
                                              have BK231 := n5_
                                              have GW231 := n6_
                                              have GE231 := n7_
                                              have NB232_231 := n8_
                                              have NB231_232 := n9_
                                              clear n0_ n1_ n2_ n3_ n4_ n5_ n6_ n7_ n8_ n9_
                                              clear hb hbox hg
                                              refine hK.out _ _ ⟨HS0_, HS1_, HS2_, HS3_, HS4_, HS5_, HS6_, HS7_, HS8_, HS9_, HS10_, HS11_⟩ (fun hHeld => ?_)
                                              clear hK K
                                              refine norm_ (a' := ?_) ?_ ?_
                                              rotate_left
                                              · show Act.put _ (some 11) _ = _
                                                simp only [Act.put, List.setIfInBounds_toArray, List.set_cons_zero, List.set_cons_succ, i64_w, i32_w]
                                                rfl
                                              exact norm_ (by first | (simp only [putAll, Act.put, List.setIfInBounds_toArray, List.set_cons_zero, List.set_cons_succ]; done) | (simp only [putAll, Act.put, List.setIfInBounds_toArray, List.set_cons_zero, List.set_cons_succ]; rfl)) (hJ19_20 (gb231, gb232) _ ⟨hHeld, (by (with_reducible repeat (first | apply Kd.R_alloc | apply Kd.R_drewN | apply Kd.R_drew)); exact HL220_0.out), (by (with_reducible repeat (first | apply Kd.S_alloc | apply Kd.S_drewN | apply Kd.S_drew)); exact HO219.out), (by (with_reducible repeat (first | apply Kd.R_alloc | apply Kd.R_drewN | apply Kd.R_drew)); exact Kd.R_mono HO223.out (fun _ hk => ⟨hk.2, hk.1⟩)), (by (with_reducible repeat (first | refine blk_drewN ?_ _ | refine blk_drew ?_ | refine blk_alloc ?_ _)); exact BK231.out), (by (with_reducible repeat (first | refine blk_drewN ?_ _ | refine blk_drew ?_ | refine blk_alloc ?_ _)); exact BK232.out), GW231.out, GE231.out, NB232_231.out, NB231_232.out, GW232.out, GE232.out, (by repeat (first | (with_reducible first | exact HB.out | apply below_alloc | apply pw_below_drewN | apply below_drew1 | refine below_set ?_ GE232.out | refine below_set ?_ GE231.out) | exact HB.out))⟩)
                                        · skip
                                          rintro gb231 w33 ⟨hS_, h0_, h1_, h2_, h3_, h4_, h5_, h6_⟩
                                          have n0_ : Aside0 (Kd.R (Kd.int .i64) 3 w33 w.heap.size (fun k_ => some k_ ≠ (.slice (some ad220) t217.length co28 : Value).ownBlock) (.slice (some ad224) (rd_L1 t217 a1).length c220_0) (rd_L1 t217 a1)) := ⟨h0_⟩
                                          have n1_ : Aside0 (Kd.S (Kd.slice 3 (Kd.int .i64)) 27 w33 w.heap.size (fun _ => True) (.slice (some ad220) t217.length co28) t217) := ⟨h1_⟩
                                          have n2_ : Aside0 (Kd.R k60 60 w33 w.heap.size (fun k_ => k_ ≠ gb231) (.slice (some ad225) t221.length co31) t221) := ⟨h2_⟩
                                          have n3_ : Aside0 (w33.heap[gb231]? = some (.cells #[.int .i64 0, .int .i64 0, .int .i64 0] 60 (0, 0))) := ⟨h3_⟩
                                          have n4_ : Aside0 (w.heap.size ≤ gb231) := ⟨h4_⟩
                                          have n5_ : Aside0 (w.heap.size ≤ gb231) := ⟨h5_⟩
                                          have n6_ : Aside0 (Below w.heap.size w w33) := ⟨h6_⟩
                                          clear HO219
                                          clear HL220_0
                                          clear HO223
                                          clear HR220_0
                                          clear HB
                                          clear h0_ h1_ h2_ h3_ h4_ h5_ h6_
                                          have HL220_0 := n0_
                                          have HO219 := n1_
                                          have HO223 := n2_
                                          have BK231 := n3_
                                          have GW231 := n4_
                                          have GE231 := n5_
                                          have HB := n6_
                                          clear n0_ n1_ n2_ n3_ n4_ n5_ n6_
                                          have hHeld : w33.cell? ad224 = some (.int .i64 (rd (rd_L1 t217 a1) 0)) ∧ w33.cell? (ad225.add (((rd (rd_L1 t217 a1) 0)).toNat * 3)) = some (.int .i64 ((rd_T60 t221 (rd (rd_L1 t217 a1) 0)).f0)) ∧ w33.cell? ⟨(ad225.add (((rd (rd_L1 t217 a1) 0)).toNat * 3)).block, (ad225.add (((rd (rd_L1 t217 a1) 0)).toNat * 3)).off + 1, none⟩ = some (.int .i64 ((rd_T60 t221 (rd (rd_L1 t217 a1) 0)).f1)) ∧ w33.cell? ⟨(ad225.add (((rd (rd_L1 t217 a1) 0)).toNat * 3)).block, (ad225.add (((rd (rd_L1 t217 a1) 0)).toNat * 3)).off + 2, none⟩ = some (.int .i64 ((rd_T60 t221 (rd (rd_L1 t217 a1) 0)).f2)) ∧ w33.cell? ⟨ad224.block, ad224.off + 1, none⟩ = some (.int .i64 (rd (rd_L1 t217 a1) 1)) ∧ w33.cell? (ad225.add (((rd (rd_L1 t217 a1) 1)).toNat * 3)) = some (.int .i64 ((rd_T60 t221 (rd (rd_L1 t217 a1) 1)).f0)) ∧ w33.cell? ⟨(ad225.add (((rd (rd_L1 t217 a1) 1)).toNat * 3)).block, (ad225.add (((rd (rd_L1 t217 a1) 1)).toNat * 3)).off + 1, none⟩ = some (.int .i64 ((rd_T60 t221 (rd (rd_L1 t217 a1) 1)).f1)) ∧ w33.cell? ⟨(ad225.add (((rd (rd_L1 t217 a1) 1)).toNat * 3)).block, (ad225.add (((rd (rd_L1 t217 a1) 1)).toNat * 3)).off + 2, none⟩ = some (.int .i64 ((rd_T60 t221 (rd (rd_L1 t217 a1) 1)).f2)) ∧ w33.cell? ⟨ad224.block, ad224.off + 2, none⟩ = some (.int .i64 (rd (rd_L1 t217 a1) 2)) ∧ w33.cell? (ad225.add (((rd (rd_L1 t217 a1) 2)).toNat * 3)) = some (.int .i64 ((rd_T60 t221 (rd (rd_L1 t217 a1) 2)).f0)) ∧ w33.cell? ⟨(ad225.add (((rd (rd_L1 t217 a1) 2)).toNat * 3)).block, (ad225.add (((rd (rd_L1 t217 a1) 2)).toNat * 3)).off + 1, none⟩ = some (.int .i64 ((rd_T60 t221 (rd (rd_L1 t217 a1) 2)).f1)) ∧ w33.cell? ⟨(ad225.add (((rd (rd_L1 t217 a1) 2)).toNat * 3)).block, (ad225.add (((rd (rd_L1 t217 a1) 2)).toNat * 3)).off + 2, none⟩ = some (.int .i64 ((rd_T60 t221 (rd (rd_L1 t217 a1) 2)).f2)) := hS_
                                          refine norm_ (a' := ?_) ?_ ?_
                                          rotate_left
                                          · simp only [putAll, Act.put, List.setIfInBounds_toArray, List.set_cons_zero, List.set_cons_succ]
                                            rfl
                                          refine two_ (i := 18) (j := 20) (Ni := some 10) (Nj := some 12) #[true, true, true, true, true, true, true, true, true, true, true, true, true, true, true, true, true, true, true, true, false, false, false, false] #[true, true, true, true, true, true, true, true, true, true, true, true, true, true, true, true, true, true, false, true, true, false, false, false] rfl rfl rfl rfl (two_of HT_.out (by kernel_rfl)) (by decide) (by decide) (fun K hK => ?_) (fun K hK => ?_)
                                          · skip
                                            refine box_step ?hg (N := 10) ?hd (cs := #[.int .i64 0, .int .i64 0, .int .i64 0]) (t := 60) ?hr ?_; (case hd => rfl); (case hg => rfl); (case hr => first | (go_simp; done) | (go_simp; rfl))
                                            intro gb230 hg w34 hbox hb
                                            have HS0_ := (hb.cell (World.block_lt_of_cell? _ _ (hHeld.1))).trans (hHeld.1)
                                            have HS1_ := (hb.cell (World.block_lt_of_cell? _ _ (hHeld.2.1))).trans (hHeld.2.1)
                                            have HS2_ := (hb.cell (World.block_lt_of_cell? _ _ (hHeld.2.2.1))).trans (hHeld.2.2.1)
                                            have HS3_ := (hb.cell (World.block_lt_of_cell? _ _ (hHeld.2.2.2.1))).trans (hHeld.2.2.2.1)
                                            have HS4_ := (hb.cell (World.block_lt_of_cell? _ _ (hHeld.2.2.2.2.1))).trans (hHeld.2.2.2.2.1)
                                            have HS5_ := (hb.cell (World.block_lt_of_cell? _ _ (hHeld.2.2.2.2.2.1))).trans (hHeld.2.2.2.2.2.1)
                                            have HS6_ := (hb.cell (World.block_lt_of_cell? _ _ (hHeld.2.2.2.2.2.2.1))).trans (hHeld.2.2.2.2.2.2.1)
                                            have HS7_ := (hb.cell (World.block_lt_of_cell? _ _ (hHeld.2.2.2.2.2.2.2.1))).trans (hHeld.2.2.2.2.2.2.2.1)
                                            have HS8_ := (hb.cell (World.block_lt_of_cell? _ _ (hHeld.2.2.2.2.2.2.2.2.1))).trans (hHeld.2.2.2.2.2.2.2.2.1)
                                            have HS9_ := (hb.cell (World.block_lt_of_cell? _ _ (hHeld.2.2.2.2.2.2.2.2.2.1))).trans (hHeld.2.2.2.2.2.2.2.2.2.1)
                                            have HS10_ := (hb.cell (World.block_lt_of_cell? _ _ (hHeld.2.2.2.2.2.2.2.2.2.2.1))).trans (hHeld.2.2.2.2.2.2.2.2.2.2.1)
                                            have HS11_ := (hb.cell (World.block_lt_of_cell? _ _ (hHeld.2.2.2.2.2.2.2.2.2.2.2))).trans (hHeld.2.2.2.2.2.2.2.2.2.2.2)
                                            have n0_ := Aside0.mk (Kd.S_below (by (with_reducible repeat (first | apply Kd.S_alloc | apply Kd.S_drewN | apply Kd.S_drew)); exact HO219.out) hb)
                                            have n1_ := Aside0.mk (Kd.R_below (by (with_reducible repeat (first | apply Kd.R_alloc | apply Kd.R_drewN | apply Kd.R_drew)); exact HL220_0.out) hb)
                                            have n2_ := Aside0.mk (Kd.R_below (Kd.R_elderB (by (with_reducible repeat (first | apply Kd.R_alloc | apply Kd.R_drewN | apply Kd.R_drew)); exact HO223.out) gb230 (Nat.le_of_eq hg.symm)) hb)
                                            have n3_ := Aside0.mk (blk_below (g := gb231) (o := .cells #[.int .i64 0, .int .i64 0, .int .i64 0] 60 (0, 0)) (by (with_reducible repeat (first | refine blk_drewN ?_ _ | refine blk_drew ?_ | refine blk_alloc ?_ _)); exact BK231.out) hb)
                                            have n4_ := Aside0.mk (below_step (by repeat (first | (with_reducible first | exact HB.out | apply below_alloc | apply pw_below_drewN | apply below_drew1 | refine below_set ?_ GE231.out) | exact HB.out)) hb)
                                            have n5_ := Aside0.mk (hbox)
                                            have n6_ := Aside0.mk ((by rw [hg]; exact (below_size (by repeat (first | (with_reducible first | exact HB.out | apply below_alloc | apply pw_below_drewN | apply below_drew1 | refine below_set ?_ GE231.out) | exact HB.out))) : w.heap.size ≤ gb230))
                                            have n7_ := Aside0.mk ((by rw [hg]; exact (below_size (by repeat (first | (with_reducible first | exact HB.out | apply below_alloc | apply pw_below_drewN | apply below_drew1 | refine below_set ?_ GE231.out) | exact HB.out))) : w.heap.size ≤ gb230))
                                            have n8_ := Aside0.mk ((by rw [hg]; exact Nat.ne_of_lt (blk_lt (g := gb231) (o := .cells #[.int .i64 0, .int .i64 0, .int .i64 0] 60 (0, 0)) (by (with_reducible repeat (first | refine blk_drewN ?_ _ | refine blk_drew ?_ | refine blk_alloc ?_ _)); exact BK231.out)) : gb231 ≠ gb230))
                                            have n9_ := Aside0.mk ((by rw [hg]; exact Nat.ne_of_gt (blk_lt (g := gb231) (o := .cells #[.int .i64 0, .int .i64 0, .int .i64 0] 60 (0, 0)) (by (with_reducible repeat (first | refine blk_drewN ?_ _ | refine blk_drew ?_ | refine blk_alloc ?_ _)); exact BK231.out)) : gb230 ≠ gb231))
                                            clear HO219
                                            clear HL220_0
                                            clear HO223
                                            clear BK231
                                            clear HB
                                            have HO219 := n0_
                                            have HL220_0 := n1_
                                            have HO223 := n2_
                                            have BK231 := n3_
                                            have HB := n4_
                                            have BK230 := n5_
                                            have GW230 := n6_
                                            have GE230 := n7_
                                            have NB231_230 := n8_
                                            have NB230_231 := n9_
                                            clear n0_ n1_ n2_ n3_ n4_ n5_ n6_ n7_ n8_ n9_
                                            clear hb hbox hg
                                            refine hK.out _ _ ⟨HS0_, HS1_, HS2_, HS3_, HS4_, HS5_, HS6_, HS7_, HS8_, HS9_, HS10_, HS11_⟩ (fun hHeld => ?_)
                                            clear hK K
                                            refine norm_ (a' := ?_) ?_ ?_
                                            rotate_left
                                            · show Act.put _ (some 10) _ = _
                                              simp only [Act.put, List.setIfInBounds_toArray, List.set_cons_zero, List.set_cons_succ, i64_w, i32_w]
                                              rfl
                                            exact norm_ (by first | (simp only [putAll, Act.put, List.setIfInBounds_toArray, List.set_cons_zero, List.set_cons_succ]; done) | (simp only [putAll, Act.put, List.setIfInBounds_toArray, List.set_cons_zero, List.set_cons_succ]; rfl)) (hJ18_19 (gb230, gb231) _ ⟨hHeld, (by (with_reducible repeat (first | apply Kd.R_alloc | apply Kd.R_drewN | apply Kd.R_drew)); exact HL220_0.out), (by (with_reducible repeat (first | apply Kd.S_alloc | apply Kd.S_drewN | apply Kd.S_drew)); exact HO219.out), (by (with_reducible repeat (first | apply Kd.R_alloc | apply Kd.R_drewN | apply Kd.R_drew)); exact Kd.R_mono HO223.out (fun _ hk => ⟨hk.2, hk.1⟩)), (by (with_reducible repeat (first | refine blk_drewN ?_ _ | refine blk_drew ?_ | refine blk_alloc ?_ _)); exact BK230.out), (by (with_reducible repeat (first | refine blk_drewN ?_ _ | refine blk_drew ?_ | refine blk_alloc ?_ _)); exact BK231.out), GW230.out, GE230.out, NB231_230.out, NB230_231.out, GW231.out, GE231.out, (by repeat (first | (with_reducible first | exact HB.out | apply below_alloc | apply pw_below_drewN | apply below_drew1 | refine below_set ?_ GE231.out | refine below_set ?_ GE230.out) | exact HB.out))⟩)
                                          · skip
                                            refine box_step ?hg (N := 12) ?hd (cs := #[.int .i64 0, .int .i64 0, .int .i64 0]) (t := 60) ?hr ?_; (case hd => rfl); (case hg => rfl); (case hr => first | (go_simp; done) | (go_simp; rfl))
                                            intro gb232 hg w34 hbox hb
                                            have HS0_ := (hb.cell (World.block_lt_of_cell? _ _ (hHeld.1))).trans (hHeld.1)
                                            have HS1_ := (hb.cell (World.block_lt_of_cell? _ _ (hHeld.2.1))).trans (hHeld.2.1)
                                            have HS2_ := (hb.cell (World.block_lt_of_cell? _ _ (hHeld.2.2.1))).trans (hHeld.2.2.1)
                                            have HS3_ := (hb.cell (World.block_lt_of_cell? _ _ (hHeld.2.2.2.1))).trans (hHeld.2.2.2.1)
                                            have HS4_ := (hb.cell (World.block_lt_of_cell? _ _ (hHeld.2.2.2.2.1))).trans (hHeld.2.2.2.2.1)
                                            have HS5_ := (hb.cell (World.block_lt_of_cell? _ _ (hHeld.2.2.2.2.2.1))).trans (hHeld.2.2.2.2.2.1)
                                            have HS6_ := (hb.cell (World.block_lt_of_cell? _ _ (hHeld.2.2.2.2.2.2.1))).trans (hHeld.2.2.2.2.2.2.1)
                                            have HS7_ := (hb.cell (World.block_lt_of_cell? _ _ (hHeld.2.2.2.2.2.2.2.1))).trans (hHeld.2.2.2.2.2.2.2.1)
                                            have HS8_ := (hb.cell (World.block_lt_of_cell? _ _ (hHeld.2.2.2.2.2.2.2.2.1))).trans (hHeld.2.2.2.2.2.2.2.2.1)
                                            have HS9_ := (hb.cell (World.block_lt_of_cell? _ _ (hHeld.2.2.2.2.2.2.2.2.2.1))).trans (hHeld.2.2.2.2.2.2.2.2.2.1)
                                            have HS10_ := (hb.cell (World.block_lt_of_cell? _ _ (hHeld.2.2.2.2.2.2.2.2.2.2.1))).trans (hHeld.2.2.2.2.2.2.2.2.2.2.1)
                                            have HS11_ := (hb.cell (World.block_lt_of_cell? _ _ (hHeld.2.2.2.2.2.2.2.2.2.2.2))).trans (hHeld.2.2.2.2.2.2.2.2.2.2.2)
                                            have n0_ := Aside0.mk (Kd.S_below (by (with_reducible repeat (first | apply Kd.S_alloc | apply Kd.S_drewN | apply Kd.S_drew)); exact HO219.out) hb)
                                            have n1_ := Aside0.mk (Kd.R_below (by (with_reducible repeat (first | apply Kd.R_alloc | apply Kd.R_drewN | apply Kd.R_drew)); exact HL220_0.out) hb)
                                            have n2_ := Aside0.mk (Kd.R_below (Kd.R_elderB (by (with_reducible repeat (first | apply Kd.R_alloc | apply Kd.R_drewN | apply Kd.R_drew)); exact HO223.out) gb232 (Nat.le_of_eq hg.symm)) hb)
                                            have n3_ := Aside0.mk (blk_below (g := gb231) (o := .cells #[.int .i64 0, .int .i64 0, .int .i64 0] 60 (0, 0)) (by (with_reducible repeat (first | refine blk_drewN ?_ _ | refine blk_drew ?_ | refine blk_alloc ?_ _)); exact BK231.out) hb)
                                            have n4_ := Aside0.mk (below_step (by repeat (first | (with_reducible first | exact HB.out | apply below_alloc | apply pw_below_drewN | apply below_drew1 | refine below_set ?_ GE231.out) | exact HB.out)) hb)
                                            have n5_ := Aside0.mk (hbox)
                                            have n6_ := Aside0.mk ((by rw [hg]; exact (below_size (by repeat (first | (with_reducible first | exact HB.out | apply below_alloc | apply pw_below_drewN | apply below_drew1 | refine below_set ?_ GE231.out) | exact HB.out))) : w.heap.size ≤ gb232))
                                            have n7_ := Aside0.mk ((by rw [hg]; exact (below_size (by repeat (first | (with_reducible first | exact HB.out | apply below_alloc | apply pw_below_drewN | apply below_drew1 | refine below_set ?_ GE231.out) | exact HB.out))) : w.heap.size ≤ gb232))
                                            have n8_ := Aside0.mk ((by rw [hg]; exact Nat.ne_of_lt (blk_lt (g := gb231) (o := .cells #[.int .i64 0, .int .i64 0, .int .i64 0] 60 (0, 0)) (by (with_reducible repeat (first | refine blk_drewN ?_ _ | refine blk_drew ?_ | refine blk_alloc ?_ _)); exact BK231.out)) : gb231 ≠ gb232))
                                            have n9_ := Aside0.mk ((by rw [hg]; exact Nat.ne_of_gt (blk_lt (g := gb231) (o := .cells #[.int .i64 0, .int .i64 0, .int .i64 0] 60 (0, 0)) (by (with_reducible repeat (first | refine blk_drewN ?_ _ | refine blk_drew ?_ | refine blk_alloc ?_ _)); exact BK231.out)) : gb232 ≠ gb231))
                                            clear HO219
                                            clear HL220_0
                                            clear HO223
                                            clear BK231
                                            clear HB
                                            have HO219 := n0_
                                            have HL220_0 := n1_
                                            have HO223 := n2_
                                            have BK231 := n3_
                                            have HB := n4_
                                            have BK232 := n5_
                                            have GW232 := n6_
                                            have GE232 := n7_
                                            have NB231_232 := n8_
                                            have NB232_231 := n9_
                                            clear n0_ n1_ n2_ n3_ n4_ n5_ n6_ n7_ n8_ n9_
                                            clear hb hbox hg
                                            refine hK.out _ _ ⟨HS0_, HS1_, HS2_, HS3_, HS4_, HS5_, HS6_, HS7_, HS8_, HS9_, HS10_, HS11_⟩ (fun hHeld => ?_)
                                            clear hK K
                                            refine norm_ (a' := ?_) ?_ ?_
                                            rotate_left
                                            · show Act.put _ (some 12) _ = _
                                              simp only [Act.put, List.setIfInBounds_toArray, List.set_cons_zero, List.set_cons_succ, i64_w, i32_w]
                                              rfl
                                            exact norm_ (by first | (simp only [putAll, Act.put, List.setIfInBounds_toArray, List.set_cons_zero, List.set_cons_succ]; done) | (simp only [putAll, Act.put, List.setIfInBounds_toArray, List.set_cons_zero, List.set_cons_succ]; rfl)) (hJ19_20 (gb231, gb232) _ ⟨hHeld, (by (with_reducible repeat (first | apply Kd.R_alloc | apply Kd.R_drewN | apply Kd.R_drew)); exact HL220_0.out), (by (with_reducible repeat (first | apply Kd.S_alloc | apply Kd.S_drewN | apply Kd.S_drew)); exact HO219.out), (by (with_reducible repeat (first | apply Kd.R_alloc | apply Kd.R_drewN | apply Kd.R_drew)); exact HO223.out), (by (with_reducible repeat (first | refine blk_drewN ?_ _ | refine blk_drew ?_ | refine blk_alloc ?_ _)); exact BK231.out), (by (with_reducible repeat (first | refine blk_drewN ?_ _ | refine blk_drew ?_ | refine blk_alloc ?_ _)); exact BK232.out), GW231.out, GE231.out, NB232_231.out, NB231_232.out, GW232.out, GE232.out, (by repeat (first | (with_reducible first | exact HB.out | apply below_alloc | apply pw_below_drewN | apply below_drew1 | refine below_set ?_ GE231.out | refine below_set ?_ GE232.out) | exact HB.out))⟩)
                                      · skip
                                        rintro gb230 w33 ⟨hS_, h0_, h1_, h2_, h3_, h4_, h5_, h6_⟩
                                        have n0_ : Aside0 (Kd.R (Kd.int .i64) 3 w33 w.heap.size (fun k_ => some k_ ≠ (.slice (some ad220) t217.length co28 : Value).ownBlock) (.slice (some ad224) (rd_L1 t217 a1).length c220_0) (rd_L1 t217 a1)) := ⟨h0_⟩
                                        have n1_ : Aside0 (Kd.S (Kd.slice 3 (Kd.int .i64)) 27 w33 w.heap.size (fun _ => True) (.slice (some ad220) t217.length co28) t217) := ⟨h1_⟩
                                        have n2_ : Aside0 (Kd.R k60 60 w33 w.heap.size (fun k_ => k_ ≠ gb230) (.slice (some ad225) t221.length co31) t221) := ⟨h2_⟩
                                        have n3_ : Aside0 (w33.heap[gb230]? = some (.cells #[.int .i64 0, .int .i64 0, .int .i64 0] 60 (0, 0))) := ⟨h3_⟩
                                        have n4_ : Aside0 (w.heap.size ≤ gb230) := ⟨h4_⟩
                                        have n5_ : Aside0 (w.heap.size ≤ gb230) := ⟨h5_⟩
                                        have n6_ : Aside0 (Below w.heap.size w w33) := ⟨h6_⟩
                                        clear HO219
                                        clear HL220_0
                                        clear HO223
                                        clear HR220_0
                                        clear HB
                                        clear h0_ h1_ h2_ h3_ h4_ h5_ h6_
                                        have HL220_0 := n0_
                                        have HO219 := n1_
                                        have HO223 := n2_
                                        have BK230 := n3_
                                        have GW230 := n4_
                                        have GE230 := n5_
                                        have HB := n6_
                                        clear n0_ n1_ n2_ n3_ n4_ n5_ n6_
                                        have hHeld : w33.cell? ad224 = some (.int .i64 (rd (rd_L1 t217 a1) 0)) ∧ w33.cell? (ad225.add (((rd (rd_L1 t217 a1) 0)).toNat * 3)) = some (.int .i64 ((rd_T60 t221 (rd (rd_L1 t217 a1) 0)).f0)) ∧ w33.cell? ⟨(ad225.add (((rd (rd_L1 t217 a1) 0)).toNat * 3)).block, (ad225.add (((rd (rd_L1 t217 a1) 0)).toNat * 3)).off + 1, none⟩ = some (.int .i64 ((rd_T60 t221 (rd (rd_L1 t217 a1) 0)).f1)) ∧ w33.cell? ⟨(ad225.add (((rd (rd_L1 t217 a1) 0)).toNat * 3)).block, (ad225.add (((rd (rd_L1 t217 a1) 0)).toNat * 3)).off + 2, none⟩ = some (.int .i64 ((rd_T60 t221 (rd (rd_L1 t217 a1) 0)).f2)) ∧ w33.cell? ⟨ad224.block, ad224.off + 1, none⟩ = some (.int .i64 (rd (rd_L1 t217 a1) 1)) ∧ w33.cell? (ad225.add (((rd (rd_L1 t217 a1) 1)).toNat * 3)) = some (.int .i64 ((rd_T60 t221 (rd (rd_L1 t217 a1) 1)).f0)) ∧ w33.cell? ⟨(ad225.add (((rd (rd_L1 t217 a1) 1)).toNat * 3)).block, (ad225.add (((rd (rd_L1 t217 a1) 1)).toNat * 3)).off + 1, none⟩ = some (.int .i64 ((rd_T60 t221 (rd (rd_L1 t217 a1) 1)).f1)) ∧ w33.cell? ⟨(ad225.add (((rd (rd_L1 t217 a1) 1)).toNat * 3)).block, (ad225.add (((rd (rd_L1 t217 a1) 1)).toNat * 3)).off + 2, none⟩ = some (.int .i64 ((rd_T60 t221 (rd (rd_L1 t217 a1) 1)).f2)) ∧ w33.cell? ⟨ad224.block, ad224.off + 2, none⟩ = some (.int .i64 (rd (rd_L1 t217 a1) 2)) ∧ w33.cell? (ad225.add (((rd (rd_L1 t217 a1) 2)).toNat * 3)) = some (.int .i64 ((rd_T60 t221 (rd (rd_L1 t217 a1) 2)).f0)) ∧ w33.cell? ⟨(ad225.add (((rd (rd_L1 t217 a1) 2)).toNat * 3)).block, (ad225.add (((rd (rd_L1 t217 a1) 2)).toNat * 3)).off + 1, none⟩ = some (.int .i64 ((rd_T60 t221 (rd (rd_L1 t217 a1) 2)).f1)) ∧ w33.cell? ⟨(ad225.add (((rd (rd_L1 t217 a1) 2)).toNat * 3)).block, (ad225.add (((rd (rd_L1 t217 a1) 2)).toNat * 3)).off + 2, none⟩ = some (.int .i64 ((rd_T60 t221 (rd (rd_L1 t217 a1) 2)).f2)) := hS_
                                        refine norm_ (a' := ?_) ?_ ?_
                                        rotate_left
                                        · simp only [putAll, Act.put, List.setIfInBounds_toArray, List.set_cons_zero, List.set_cons_succ]
                                          rfl
                                        refine two_ (i := 19) (j := 20) (Ni := some 11) (Nj := some 12) #[true, true, true, true, true, true, true, true, true, true, true, true, true, true, true, true, true, true, true, true, false, false, false, false] #[true, true, true, true, true, true, true, true, true, true, true, true, true, true, true, true, true, true, true, false, true, false, false, false] rfl rfl rfl rfl (two_of HT_.out (by kernel_rfl)) (by decide) (by decide) (fun K hK => ?_) (fun K hK => ?_)
                                        · skip
                                          refine box_step ?hg (N := 11) ?hd (cs := #[.int .i64 0, .int .i64 0, .int .i64 0]) (t := 60) ?hr ?_; (case hd => rfl); (case hg => rfl); (case hr => first | (go_simp; done) | (go_simp; rfl))
                                          intro gb231 hg w34 hbox hb
                                          have HS0_ := (hb.cell (World.block_lt_of_cell? _ _ (hHeld.1))).trans (hHeld.1)
                                          have HS1_ := (hb.cell (World.block_lt_of_cell? _ _ (hHeld.2.1))).trans (hHeld.2.1)
                                          have HS2_ := (hb.cell (World.block_lt_of_cell? _ _ (hHeld.2.2.1))).trans (hHeld.2.2.1)
                                          have HS3_ := (hb.cell (World.block_lt_of_cell? _ _ (hHeld.2.2.2.1))).trans (hHeld.2.2.2.1)
                                          have HS4_ := (hb.cell (World.block_lt_of_cell? _ _ (hHeld.2.2.2.2.1))).trans (hHeld.2.2.2.2.1)
                                          have HS5_ := (hb.cell (World.block_lt_of_cell? _ _ (hHeld.2.2.2.2.2.1))).trans (hHeld.2.2.2.2.2.1)
                                          have HS6_ := (hb.cell (World.block_lt_of_cell? _ _ (hHeld.2.2.2.2.2.2.1))).trans (hHeld.2.2.2.2.2.2.1)
                                          have HS7_ := (hb.cell (World.block_lt_of_cell? _ _ (hHeld.2.2.2.2.2.2.2.1))).trans (hHeld.2.2.2.2.2.2.2.1)
                                          have HS8_ := (hb.cell (World.block_lt_of_cell? _ _ (hHeld.2.2.2.2.2.2.2.2.1))).trans (hHeld.2.2.2.2.2.2.2.2.1)
                                          have HS9_ := (hb.cell (World.block_lt_of_cell? _ _ (hHeld.2.2.2.2.2.2.2.2.2.1))).trans (hHeld.2.2.2.2.2.2.2.2.2.1)
                                          have HS10_ := (hb.cell (World.block_lt_of_cell? _ _ (hHeld.2.2.2.2.2.2.2.2.2.2.1))).trans (hHeld.2.2.2.2.2.2.2.2.2.2.1)
                                          have HS11_ := (hb.cell (World.block_lt_of_cell? _ _ (hHeld.2.2.2.2.2.2.2.2.2.2.2))).trans (hHeld.2.2.2.2.2.2.2.2.2.2.2)
                                          have n0_ := Aside0.mk (Kd.S_below (by (with_reducible repeat (first | apply Kd.S_alloc | apply Kd.S_drewN | apply Kd.S_drew)); exact HO219.out) hb)
                                          have n1_ := Aside0.mk (Kd.R_below (by (with_reducible repeat (first | apply Kd.R_alloc | apply Kd.R_drewN | apply Kd.R_drew)); exact HL220_0.out) hb)
                                          have n2_ := Aside0.mk (Kd.R_below (Kd.R_elderB (by (with_reducible repeat (first | apply Kd.R_alloc | apply Kd.R_drewN | apply Kd.R_drew)); exact HO223.out) gb231 (Nat.le_of_eq hg.symm)) hb)
                                          have n3_ := Aside0.mk (blk_below (g := gb230) (o := .cells #[.int .i64 0, .int .i64 0, .int .i64 0] 60 (0, 0)) (by (with_reducible repeat (first | refine blk_drewN ?_ _ | refine blk_drew ?_ | refine blk_alloc ?_ _)); exact BK230.out) hb)
                                          have n4_ := Aside0.mk (below_step (by repeat (first | (with_reducible first | exact HB.out | apply below_alloc | apply pw_below_drewN | apply below_drew1 | refine below_set ?_ GE230.out) | exact HB.out)) hb)
                                          have n5_ := Aside0.mk (hbox)
                                          have n6_ := Aside0.mk ((by rw [hg]; exact (below_size (by repeat (first | (with_reducible first | exact HB.out | apply below_alloc | apply pw_below_drewN | apply below_drew1 | refine below_set ?_ GE230.out) | exact HB.out))) : w.heap.size ≤ gb231))
                                          have n7_ := Aside0.mk ((by rw [hg]; exact (below_size (by repeat (first | (with_reducible first | exact HB.out | apply below_alloc | apply pw_below_drewN | apply below_drew1 | refine below_set ?_ GE230.out) | exact HB.out))) : w.heap.size ≤ gb231))
                                          have n8_ := Aside0.mk ((by rw [hg]; exact Nat.ne_of_lt (blk_lt (g := gb230) (o := .cells #[.int .i64 0, .int .i64 0, .int .i64 0] 60 (0, 0)) (by (with_reducible repeat (first | refine blk_drewN ?_ _ | refine blk_drew ?_ | refine blk_alloc ?_ _)); exact BK230.out)) : gb230 ≠ gb231))
                                          have n9_ := Aside0.mk ((by rw [hg]; exact Nat.ne_of_gt (blk_lt (g := gb230) (o := .cells #[.int .i64 0, .int .i64 0, .int .i64 0] 60 (0, 0)) (by (with_reducible repeat (first | refine blk_drewN ?_ _ | refine blk_drew ?_ | refine blk_alloc ?_ _)); exact BK230.out)) : gb231 ≠ gb230))
                                          clear HO219
                                          clear HL220_0
                                          clear HO223
                                          clear BK230
                                          clear HB
                                          have HO219 := n0_
                                          have HL220_0 := n1_
                                          have HO223 := n2_
                                          have BK230 := n3_
                                          have HB := n4_
                                          have BK231 := n5_
                                          have GW231 := n6_
                                          have GE231 := n7_
                                          have NB230_231 := n8_
                                          have NB231_230 := n9_
                                          clear n0_ n1_ n2_ n3_ n4_ n5_ n6_ n7_ n8_ n9_
                                          clear hb hbox hg
                                          refine hK.out _ _ ⟨HS0_, HS1_, HS2_, HS3_, HS4_, HS5_, HS6_, HS7_, HS8_, HS9_, HS10_, HS11_⟩ (fun hHeld => ?_)
                                          clear hK K
                                          refine norm_ (a' := ?_) ?_ ?_
                                          rotate_left
                                          · show Act.put _ (some 11) _ = _
                                            simp only [Act.put, List.setIfInBounds_toArray, List.set_cons_zero, List.set_cons_succ, i64_w, i32_w]
                                            rfl
                                          exact norm_ (by first | (simp only [putAll, Act.put, List.setIfInBounds_toArray, List.set_cons_zero, List.set_cons_succ]; done) | (simp only [putAll, Act.put, List.setIfInBounds_toArray, List.set_cons_zero, List.set_cons_succ]; rfl)) (hJ18_19 (gb230, gb231) _ ⟨hHeld, (by (with_reducible repeat (first | apply Kd.R_alloc | apply Kd.R_drewN | apply Kd.R_drew)); exact HL220_0.out), (by (with_reducible repeat (first | apply Kd.S_alloc | apply Kd.S_drewN | apply Kd.S_drew)); exact HO219.out), (by (with_reducible repeat (first | apply Kd.R_alloc | apply Kd.R_drewN | apply Kd.R_drew)); exact HO223.out), (by (with_reducible repeat (first | refine blk_drewN ?_ _ | refine blk_drew ?_ | refine blk_alloc ?_ _)); exact BK230.out), (by (with_reducible repeat (first | refine blk_drewN ?_ _ | refine blk_drew ?_ | refine blk_alloc ?_ _)); exact BK231.out), GW230.out, GE230.out, NB231_230.out, NB230_231.out, GW231.out, GE231.out, (by repeat (first | (with_reducible first | exact HB.out | apply below_alloc | apply pw_below_drewN | apply below_drew1 | refine below_set ?_ GE230.out | refine below_set ?_ GE231.out) | exact HB.out))⟩)
                                        · skip
                                          refine box_step ?hg (N := 12) ?hd (cs := #[.int .i64 0, .int .i64 0, .int .i64 0]) (t := 60) ?hr ?_; (case hd => rfl); (case hg => rfl); (case hr => first | (go_simp; done) | (go_simp; rfl))
                                          intro gb232 hg w34 hbox hb
                                          have HS0_ := (hb.cell (World.block_lt_of_cell? _ _ (hHeld.1))).trans (hHeld.1)
                                          have HS1_ := (hb.cell (World.block_lt_of_cell? _ _ (hHeld.2.1))).trans (hHeld.2.1)
                                          have HS2_ := (hb.cell (World.block_lt_of_cell? _ _ (hHeld.2.2.1))).trans (hHeld.2.2.1)
                                          have HS3_ := (hb.cell (World.block_lt_of_cell? _ _ (hHeld.2.2.2.1))).trans (hHeld.2.2.2.1)
                                          have HS4_ := (hb.cell (World.block_lt_of_cell? _ _ (hHeld.2.2.2.2.1))).trans (hHeld.2.2.2.2.1)
                                          have HS5_ := (hb.cell (World.block_lt_of_cell? _ _ (hHeld.2.2.2.2.2.1))).trans (hHeld.2.2.2.2.2.1)
                                          have HS6_ := (hb.cell (World.block_lt_of_cell? _ _ (hHeld.2.2.2.2.2.2.1))).trans (hHeld.2.2.2.2.2.2.1)
                                          have HS7_ := (hb.cell (World.block_lt_of_cell? _ _ (hHeld.2.2.2.2.2.2.2.1))).trans (hHeld.2.2.2.2.2.2.2.1)
                                          have HS8_ := (hb.cell (World.block_lt_of_cell? _ _ (hHeld.2.2.2.2.2.2.2.2.1))).trans (hHeld.2.2.2.2.2.2.2.2.1)
                                          have HS9_ := (hb.cell (World.block_lt_of_cell? _ _ (hHeld.2.2.2.2.2.2.2.2.2.1))).trans (hHeld.2.2.2.2.2.2.2.2.2.1)
                                          have HS10_ := (hb.cell (World.block_lt_of_cell? _ _ (hHeld.2.2.2.2.2.2.2.2.2.2.1))).trans (hHeld.2.2.2.2.2.2.2.2.2.2.1)
                                          have HS11_ := (hb.cell (World.block_lt_of_cell? _ _ (hHeld.2.2.2.2.2.2.2.2.2.2.2))).trans (hHeld.2.2.2.2.2.2.2.2.2.2.2)
                                          have n0_ := Aside0.mk (Kd.S_below (by (with_reducible repeat (first | apply Kd.S_alloc | apply Kd.S_drewN | apply Kd.S_drew)); exact HO219.out) hb)
                                          have n1_ := Aside0.mk (Kd.R_below (by (with_reducible repeat (first | apply Kd.R_alloc | apply Kd.R_drewN | apply Kd.R_drew)); exact HL220_0.out) hb)
                                          have n2_ := Aside0.mk (Kd.R_below (Kd.R_elderB (by (with_reducible repeat (first | apply Kd.R_alloc | apply Kd.R_drewN | apply Kd.R_drew)); exact HO223.out) gb232 (Nat.le_of_eq hg.symm)) hb)
                                          have n3_ := Aside0.mk (blk_below (g := gb230) (o := .cells #[.int .i64 0, .int .i64 0, .int .i64 0] 60 (0, 0)) (by (with_reducible repeat (first | refine blk_drewN ?_ _ | refine blk_drew ?_ | refine blk_alloc ?_ _)); exact BK230.out) hb)
                                          have n4_ := Aside0.mk (below_step (by repeat (first | (with_reducible first | exact HB.out | apply below_alloc | apply pw_below_drewN | apply below_drew1 | refine below_set ?_ GE230.out) | exact HB.out)) hb)
                                          have n5_ := Aside0.mk (hbox)
                                          have n6_ := Aside0.mk ((by rw [hg]; exact (below_size (by repeat (first | (with_reducible first | exact HB.out | apply below_alloc | apply pw_below_drewN | apply below_drew1 | refine below_set ?_ GE230.out) | exact HB.out))) : w.heap.size ≤ gb232))
                                          have n7_ := Aside0.mk ((by rw [hg]; exact (below_size (by repeat (first | (with_reducible first | exact HB.out | apply below_alloc | apply pw_below_drewN | apply below_drew1 | refine below_set ?_ GE230.out) | exact HB.out))) : w.heap.size ≤ gb232))
                                          have n8_ := Aside0.mk ((by rw [hg]; exact Nat.ne_of_lt (blk_lt (g := gb230) (o := .cells #[.int .i64 0, .int .i64 0, .int .i64 0] 60 (0, 0)) (by (with_reducible repeat (first | refine blk_drewN ?_ _ | refine blk_drew ?_ | refine blk_alloc ?_ _)); exact BK230.out)) : gb230 ≠ gb232))
                                          have n9_ := Aside0.mk ((by rw [hg]; exact Nat.ne_of_gt (blk_lt (g := gb230) (o := .cells #[.int .i64 0, .int .i64 0, .int .i64 0] 60 (0, 0)) (by (with_reducible repeat (first | refine blk_drewN ?_ _ | refine blk_drew ?_ | refine blk_alloc ?_ _)); exact BK230.out)) : gb232 ≠ gb230))
                                          clear HO219
                                          clear HL220_0
                                          clear HO223
                                          clear BK230
                                          clear HB
                                          have HO219 := n0_
                                          have HL220_0 := n1_
                                          have HO223 := n2_
                                          have BK230 := n3_
                                          have HB := n4_
                                          have BK232 := n5_
                                          have GW232 := n6_
                                          have GE232 := n7_
                                          have NB230_232 := n8_
                                          have NB232_230 := n9_
                                          clear n0_ n1_ n2_ n3_ n4_ n5_ n6_ n7_ n8_ n9_
                                          clear hb hbox hg
                                          refine hK.out _ _ ⟨HS0_, HS1_, HS2_, HS3_, HS4_, HS5_, HS6_, HS7_, HS8_, HS9_, HS10_, HS11_⟩ (fun hHeld => ?_)
                                          clear hK K
                                          refine norm_ (a' := ?_) ?_ ?_
                                          rotate_left
                                          · show Act.put _ (some 12) _ = _
                                            simp only [Act.put, List.setIfInBounds_toArray, List.set_cons_zero, List.set_cons_succ, i64_w, i32_w]
                                            rfl
                                          exact norm_ (by first | (simp only [putAll, Act.put, List.setIfInBounds_toArray, List.set_cons_zero, List.set_cons_succ]; done) | (simp only [putAll, Act.put, List.setIfInBounds_toArray, List.set_cons_zero, List.set_cons_succ]; rfl)) (hJ18_20 (gb230, gb232) _ ⟨hHeld, (by (with_reducible repeat (first | apply Kd.R_alloc | apply Kd.R_drewN | apply Kd.R_drew)); exact HL220_0.out), (by (with_reducible repeat (first | apply Kd.S_alloc | apply Kd.S_drewN | apply Kd.S_drew)); exact HO219.out), (by (with_reducible repeat (first | apply Kd.R_alloc | apply Kd.R_drewN | apply Kd.R_drew)); exact HO223.out), (by (with_reducible repeat (first | refine blk_drewN ?_ _ | refine blk_drew ?_ | refine blk_alloc ?_ _)); exact BK230.out), (by (with_reducible repeat (first | refine blk_drewN ?_ _ | refine blk_drew ?_ | refine blk_alloc ?_ _)); exact BK232.out), GW230.out, GE230.out, NB232_230.out, NB230_232.out, GW232.out, GE232.out, (by repeat (first | (with_reducible first | exact HB.out | apply below_alloc | apply pw_below_drewN | apply below_drew1 | refine below_set ?_ GE230.out | refine below_set ?_ GE232.out) | exact HB.out))⟩)
                                    · skip
                                      rintro ⟨gb231, gb232⟩ w34 ⟨hS_, h0_, h1_, h2_, h3_, h4_, h5_, h6_, h7_, h8_, h9_, h10_, h11_⟩
                                      have n0_ : Aside0 (Kd.R (Kd.int .i64) 3 w34 w.heap.size (fun k_ => some k_ ≠ (.slice (some ad220) t217.length co28 : Value).ownBlock) (.slice (some ad224) (rd_L1 t217 a1).length c220_0) (rd_L1 t217 a1)) := ⟨h0_⟩
                                      have n1_ : Aside0 (Kd.S (Kd.slice 3 (Kd.int .i64)) 27 w34 w.heap.size (fun _ => True) (.slice (some ad220) t217.length co28) t217) := ⟨h1_⟩
                                      have n2_ : Aside0 (Kd.R k60 60 w34 w.heap.size (fun k_ => k_ ≠ gb231 ∧ k_ ≠ gb232) (.slice (some ad225) t221.length co31) t221) := ⟨h2_⟩
                                      have n3_ : Aside0 (w34.heap[gb231]? = some (.cells #[.int .i64 0, .int .i64 0, .int .i64 0] 60 (0, 0))) := ⟨h3_⟩
                                      have n4_ : Aside0 (w34.heap[gb232]? = some (.cells #[.int .i64 0, .int .i64 0, .int .i64 0] 60 (0, 0))) := ⟨h4_⟩
                                      have n5_ : Aside0 (w.heap.size ≤ gb231) := ⟨h5_⟩
                                      have n6_ : Aside0 (w.heap.size ≤ gb231) := ⟨h6_⟩
                                      have n7_ : Aside0 (gb232 ≠ gb231) := ⟨h7_⟩
                                      have n8_ : Aside0 (gb231 ≠ gb232) := ⟨h8_⟩
                                      have n9_ : Aside0 (w.heap.size ≤ gb232) := ⟨h9_⟩
                                      have n10_ : Aside0 (w.heap.size ≤ gb232) := ⟨h10_⟩
                                      have n11_ : Aside0 (Below w.heap.size w w34) := ⟨h11_⟩
                                      clear HO219
                                      clear HL220_0
                                      clear HO223
                                      clear HR220_0
                                      clear HB
                                      clear h0_ h1_ h2_ h3_ h4_ h5_ h6_ h7_ h8_ h9_ h10_ h11_
                                      have HL220_0 := n0_
                                      have HO219 := n1_
                                      have HO223 := n2_
                                      have BK231 := n3_
                                      have BK232 := n4_
                                      have GW231 := n5_
                                      have GE231 := n6_
                                      have NB232_231 := n7_
                                      have NB231_232 := n8_
                                      have GW232 := n9_
                                      have GE232 := n10_
                                      have HB := n11_
                                      clear n0_ n1_ n2_ n3_ n4_ n5_ n6_ n7_ n8_ n9_ n10_ n11_
                                      have hHeld : w34.cell? ad224 = some (.int .i64 (rd (rd_L1 t217 a1) 0)) ∧ w34.cell? (ad225.add (((rd (rd_L1 t217 a1) 0)).toNat * 3)) = some (.int .i64 ((rd_T60 t221 (rd (rd_L1 t217 a1) 0)).f0)) ∧ w34.cell? ⟨(ad225.add (((rd (rd_L1 t217 a1) 0)).toNat * 3)).block, (ad225.add (((rd (rd_L1 t217 a1) 0)).toNat * 3)).off + 1, none⟩ = some (.int .i64 ((rd_T60 t221 (rd (rd_L1 t217 a1) 0)).f1)) ∧ w34.cell? ⟨(ad225.add (((rd (rd_L1 t217 a1) 0)).toNat * 3)).block, (ad225.add (((rd (rd_L1 t217 a1) 0)).toNat * 3)).off + 2, none⟩ = some (.int .i64 ((rd_T60 t221 (rd (rd_L1 t217 a1) 0)).f2)) ∧ w34.cell? ⟨ad224.block, ad224.off + 1, none⟩ = some (.int .i64 (rd (rd_L1 t217 a1) 1)) ∧ w34.cell? (ad225.add (((rd (rd_L1 t217 a1) 1)).toNat * 3)) = some (.int .i64 ((rd_T60 t221 (rd (rd_L1 t217 a1) 1)).f0)) ∧ w34.cell? ⟨(ad225.add (((rd (rd_L1 t217 a1) 1)).toNat * 3)).block, (ad225.add (((rd (rd_L1 t217 a1) 1)).toNat * 3)).off + 1, none⟩ = some (.int .i64 ((rd_T60 t221 (rd (rd_L1 t217 a1) 1)).f1)) ∧ w34.cell? ⟨(ad225.add (((rd (rd_L1 t217 a1) 1)).toNat * 3)).block, (ad225.add (((rd (rd_L1 t217 a1) 1)).toNat * 3)).off + 2, none⟩ = some (.int .i64 ((rd_T60 t221 (rd (rd_L1 t217 a1) 1)).f2)) ∧ w34.cell? ⟨ad224.block, ad224.off + 2, none⟩ = some (.int .i64 (rd (rd_L1 t217 a1) 2)) ∧ w34.cell? (ad225.add (((rd (rd_L1 t217 a1) 2)).toNat * 3)) = some (.int .i64 ((rd_T60 t221 (rd (rd_L1 t217 a1) 2)).f0)) ∧ w34.cell? ⟨(ad225.add (((rd (rd_L1 t217 a1) 2)).toNat * 3)).block, (ad225.add (((rd (rd_L1 t217 a1) 2)).toNat * 3)).off + 1, none⟩ = some (.int .i64 ((rd_T60 t221 (rd (rd_L1 t217 a1) 2)).f1)) ∧ w34.cell? ⟨(ad225.add (((rd (rd_L1 t217 a1) 2)).toNat * 3)).block, (ad225.add (((rd (rd_L1 t217 a1) 2)).toNat * 3)).off + 2, none⟩ = some (.int .i64 ((rd_T60 t221 (rd (rd_L1 t217 a1) 2)).f2)) := hS_
                                      refine norm_ (a' := ?_) ?_ ?_
                                      rotate_left
                                      · simp only [putAll, Act.put, List.setIfInBounds_toArray, List.set_cons_zero, List.set_cons_succ]
                                        rfl
                                      refine one_ (i := 18) (N := some 10) #[true, true, true, true, true, true, true, true, true, true, true, true, true, true, true, true, true, true, true, true, true, false, false, false] rfl rfl (one_of HT_.out (by kernel_rfl)) (by decide) (fun K hK => ?_)
                                      refine box_step ?hg (N := 10) ?hd (cs := #[.int .i64 0, .int .i64 0, .int .i64 0]) (t := 60) ?hr ?_; (case hd => rfl); (case hg => rfl); (case hr => first | (go_simp; done) | (go_simp; rfl))
                                      intro gb230 hg w35 hbox hb
                                      have HS0_ := (hb.cell (World.block_lt_of_cell? _ _ (hHeld.1))).trans (hHeld.1)
                                      have HS1_ := (hb.cell (World.block_lt_of_cell? _ _ (hHeld.2.1))).trans (hHeld.2.1)
                                      have HS2_ := (hb.cell (World.block_lt_of_cell? _ _ (hHeld.2.2.1))).trans (hHeld.2.2.1)
                                      have HS3_ := (hb.cell (World.block_lt_of_cell? _ _ (hHeld.2.2.2.1))).trans (hHeld.2.2.2.1)
                                      have HS4_ := (hb.cell (World.block_lt_of_cell? _ _ (hHeld.2.2.2.2.1))).trans (hHeld.2.2.2.2.1)
                                      have HS5_ := (hb.cell (World.block_lt_of_cell? _ _ (hHeld.2.2.2.2.2.1))).trans (hHeld.2.2.2.2.2.1)
                                      have HS6_ := (hb.cell (World.block_lt_of_cell? _ _ (hHeld.2.2.2.2.2.2.1))).trans (hHeld.2.2.2.2.2.2.1)
                                      have HS7_ := (hb.cell (World.block_lt_of_cell? _ _ (hHeld.2.2.2.2.2.2.2.1))).trans (hHeld.2.2.2.2.2.2.2.1)
                                      have HS8_ := (hb.cell (World.block_lt_of_cell? _ _ (hHeld.2.2.2.2.2.2.2.2.1))).trans (hHeld.2.2.2.2.2.2.2.2.1)
                                      have HS9_ := (hb.cell (World.block_lt_of_cell? _ _ (hHeld.2.2.2.2.2.2.2.2.2.1))).trans (hHeld.2.2.2.2.2.2.2.2.2.1)
                                      have HS10_ := (hb.cell (World.block_lt_of_cell? _ _ (hHeld.2.2.2.2.2.2.2.2.2.2.1))).trans (hHeld.2.2.2.2.2.2.2.2.2.2.1)
                                      have HS11_ := (hb.cell (World.block_lt_of_cell? _ _ (hHeld.2.2.2.2.2.2.2.2.2.2.2))).trans (hHeld.2.2.2.2.2.2.2.2.2.2.2)
                                      have n0_ := Aside0.mk (Kd.S_below (by (with_reducible repeat (first | apply Kd.S_alloc | apply Kd.S_drewN | apply Kd.S_drew)); exact HO219.out) hb)
                                      have n1_ := Aside0.mk (Kd.R_below (by (with_reducible repeat (first | apply Kd.R_alloc | apply Kd.R_drewN | apply Kd.R_drew)); exact HL220_0.out) hb)
                                      have n2_ := Aside0.mk (Kd.R_below (Kd.R_elderB (by (with_reducible repeat (first | apply Kd.R_alloc | apply Kd.R_drewN | apply Kd.R_drew)); exact HO223.out) gb230 (Nat.le_of_eq hg.symm)) hb)
                                      have n3_ := Aside0.mk (blk_below (g := gb231) (o := .cells #[.int .i64 0, .int .i64 0, .int .i64 0] 60 (0, 0)) (by (with_reducible repeat (first | refine blk_drewN ?_ _ | refine blk_drew ?_ | refine blk_alloc ?_ _)); exact BK231.out) hb)
                                      have n4_ := Aside0.mk (blk_below (g := gb232) (o := .cells #[.int .i64 0, .int .i64 0, .int .i64 0] 60 (0, 0)) (by (with_reducible repeat (first | refine blk_drewN ?_ _ | refine blk_drew ?_ | refine blk_alloc ?_ _)); exact BK232.out) hb)
                                      have n5_ := Aside0.mk (below_step (by repeat (first | (with_reducible first | exact HB.out | apply below_alloc | apply pw_below_drewN | apply below_drew1 | refine below_set ?_ GE231.out | refine below_set ?_ GE232.out) | exact HB.out)) hb)
                                      have n6_ := Aside0.mk (hbox)
                                      have n7_ := Aside0.mk ((by rw [hg]; exact (below_size (by repeat (first | (with_reducible first | exact HB.out | apply below_alloc | apply pw_below_drewN | apply below_drew1 | refine below_set ?_ GE231.out | refine below_set ?_ GE232.out) | exact HB.out))) : w.heap.size ≤ gb230))
                                      have n8_ := Aside0.mk ((by rw [hg]; exact (below_size (by repeat (first | (with_reducible first | exact HB.out | apply below_alloc | apply pw_below_drewN | apply below_drew1 | refine below_set ?_ GE231.out | refine below_set ?_ GE232.out) | exact HB.out))) : w.heap.size ≤ gb230))
                                      have n9_ := Aside0.mk ((by rw [hg]; exact Nat.ne_of_lt (blk_lt (g := gb231) (o := .cells #[.int .i64 0, .int .i64 0, .int .i64 0] 60 (0, 0)) (by (with_reducible repeat (first | refine blk_drewN ?_ _ | refine blk_drew ?_ | refine blk_alloc ?_ _)); exact BK231.out)) : gb231 ≠ gb230))
                                      have n10_ := Aside0.mk ((by rw [hg]; exact Nat.ne_of_gt (blk_lt (g := gb231) (o := .cells #[.int .i64 0, .int .i64 0, .int .i64 0] 60 (0, 0)) (by (with_reducible repeat (first | refine blk_drewN ?_ _ | refine blk_drew ?_ | refine blk_alloc ?_ _)); exact BK231.out)) : gb230 ≠ gb231))
                                      have n11_ := Aside0.mk ((by rw [hg]; exact Nat.ne_of_lt (blk_lt (g := gb232) (o := .cells #[.int .i64 0, .int .i64 0, .int .i64 0] 60 (0, 0)) (by (with_reducible repeat (first | refine blk_drewN ?_ _ | refine blk_drew ?_ | refine blk_alloc ?_ _)); exact BK232.out)) : gb232 ≠ gb230))
                                      have n12_ := Aside0.mk ((by rw [hg]; exact Nat.ne_of_gt (blk_lt (g := gb232) (o := .cells #[.int .i64 0, .int .i64 0, .int .i64 0] 60 (0, 0)) (by (with_reducible repeat (first | refine blk_drewN ?_ _ | refine blk_drew ?_ | refine blk_alloc ?_ _)); exact BK232.out)) : gb230 ≠ gb232))
                                      clear HO219
                                      clear HL220_0
                                      clear HO223
                                      clear BK231
                                      clear BK232
                                      clear HB
                                      have HO219 := n0_
                                      have HL220_0 := n1_
                                      have HO223 := n2_
                                      have BK231 := n3_
                                      have BK232 := n4_
                                      have HB := n5_
                                      have BK230 := n6_
                                      have GW230 := n7_
                                      have GE230 := n8_
                                      have NB231_230 := n9_
                                      have NB230_231 := n10_
                                      have NB232_230 := n11_
                                      have NB230_232 := n12_
                                      clear n0_ n1_ n2_ n3_ n4_ n5_ n6_ n7_ n8_ n9_ n10_ n11_ n12_
                                      clear hb hbox hg
                                      refine hK.out _ _ ⟨HS0_, HS1_, HS2_, HS3_, HS4_, HS5_, HS6_, HS7_, HS8_, HS9_, HS10_, HS11_⟩ (fun hHeld => ?_)
                                      clear hK K
                                      refine norm_ (a' := ?_) ?_ ?_
                                      rotate_left
                                      · show Act.put _ (some 10) _ = _
                                        simp only [Act.put, List.setIfInBounds_toArray, List.set_cons_zero, List.set_cons_succ, i64_w, i32_w]
                                        rfl
                                      exact norm_ (by first | (simp only [putAll, Act.put, List.setIfInBounds_toArray, List.set_cons_zero, List.set_cons_succ]; done) | (simp only [putAll, Act.put, List.setIfInBounds_toArray, List.set_cons_zero, List.set_cons_succ]; rfl)) (hJ18_19_20 (gb230, gb231, gb232) _ ⟨hHeld, (by (with_reducible repeat (first | apply Kd.R_alloc | apply Kd.R_drewN | apply Kd.R_drew)); exact HL220_0.out), (by (with_reducible repeat (first | apply Kd.S_alloc | apply Kd.S_drewN | apply Kd.S_drew)); exact HO219.out), (by (with_reducible repeat (first | apply Kd.R_alloc | apply Kd.R_drewN | apply Kd.R_drew)); exact Kd.R_mono HO223.out (fun _ hk => ⟨hk.2, ⟨hk.1.1, hk.1.2⟩⟩)), (by (with_reducible repeat (first | refine blk_drewN ?_ _ | refine blk_drew ?_ | refine blk_alloc ?_ _)); exact BK230.out), (by (with_reducible repeat (first | refine blk_drewN ?_ _ | refine blk_drew ?_ | refine blk_alloc ?_ _)); exact BK231.out), (by (with_reducible repeat (first | refine blk_drewN ?_ _ | refine blk_drew ?_ | refine blk_alloc ?_ _)); exact BK232.out), GW230.out, GE230.out, NB231_230.out, NB230_231.out, NB232_230.out, NB230_232.out, GW231.out, GE231.out, NB232_231.out, NB231_232.out, GW232.out, GE232.out, (by repeat (first | (with_reducible first | exact HB.out | apply below_alloc | apply pw_below_drewN | apply below_drew1 | refine below_set ?_ GE231.out | refine below_set ?_ GE232.out | refine below_set ?_ GE230.out) | exact HB.out))⟩)
                                  · skip
                                    rintro ⟨gb230, gb232⟩ w34 ⟨hS_, h0_, h1_, h2_, h3_, h4_, h5_, h6_, h7_, h8_, h9_, h10_, h11_⟩
                                    have n0_ : Aside0 (Kd.R (Kd.int .i64) 3 w34 w.heap.size (fun k_ => some k_ ≠ (.slice (some ad220) t217.length co28 : Value).ownBlock) (.slice (some ad224) (rd_L1 t217 a1).length c220_0) (rd_L1 t217 a1)) := ⟨h0_⟩
                                    have n1_ : Aside0 (Kd.S (Kd.slice 3 (Kd.int .i64)) 27 w34 w.heap.size (fun _ => True) (.slice (some ad220) t217.length co28) t217) := ⟨h1_⟩
                                    have n2_ : Aside0 (Kd.R k60 60 w34 w.heap.size (fun k_ => k_ ≠ gb230 ∧ k_ ≠ gb232) (.slice (some ad225) t221.length co31) t221) := ⟨h2_⟩
                                    have n3_ : Aside0 (w34.heap[gb230]? = some (.cells #[.int .i64 0, .int .i64 0, .int .i64 0] 60 (0, 0))) := ⟨h3_⟩
                                    have n4_ : Aside0 (w34.heap[gb232]? = some (.cells #[.int .i64 0, .int .i64 0, .int .i64 0] 60 (0, 0))) := ⟨h4_⟩
                                    have n5_ : Aside0 (w.heap.size ≤ gb230) := ⟨h5_⟩
                                    have n6_ : Aside0 (w.heap.size ≤ gb230) := ⟨h6_⟩
                                    have n7_ : Aside0 (gb232 ≠ gb230) := ⟨h7_⟩
                                    have n8_ : Aside0 (gb230 ≠ gb232) := ⟨h8_⟩
                                    have n9_ : Aside0 (w.heap.size ≤ gb232) := ⟨h9_⟩
                                    have n10_ : Aside0 (w.heap.size ≤ gb232) := ⟨h10_⟩
                                    have n11_ : Aside0 (Below w.heap.size w w34) := ⟨h11_⟩
                                    clear HO219
                                    clear HL220_0
                                    clear HO223
                                    clear HR220_0
                                    clear HB
                                    clear h0_ h1_ h2_ h3_ h4_ h5_ h6_ h7_ h8_ h9_ h10_ h11_
                                    have HL220_0 := n0_
                                    have HO219 := n1_
                                    have HO223 := n2_
                                    have BK230 := n3_
                                    have BK232 := n4_
                                    have GW230 := n5_
                                    have GE230 := n6_
                                    have NB232_230 := n7_
                                    have NB230_232 := n8_
                                    have GW232 := n9_
                                    have GE232 := n10_
                                    have HB := n11_
                                    clear n0_ n1_ n2_ n3_ n4_ n5_ n6_ n7_ n8_ n9_ n10_ n11_
                                    have hHeld : w34.cell? ad224 = some (.int .i64 (rd (rd_L1 t217 a1) 0)) ∧ w34.cell? (ad225.add (((rd (rd_L1 t217 a1) 0)).toNat * 3)) = some (.int .i64 ((rd_T60 t221 (rd (rd_L1 t217 a1) 0)).f0)) ∧ w34.cell? ⟨(ad225.add (((rd (rd_L1 t217 a1) 0)).toNat * 3)).block, (ad225.add (((rd (rd_L1 t217 a1) 0)).toNat * 3)).off + 1, none⟩ = some (.int .i64 ((rd_T60 t221 (rd (rd_L1 t217 a1) 0)).f1)) ∧ w34.cell? ⟨(ad225.add (((rd (rd_L1 t217 a1) 0)).toNat * 3)).block, (ad225.add (((rd (rd_L1 t217 a1) 0)).toNat * 3)).off + 2, none⟩ = some (.int .i64 ((rd_T60 t221 (rd (rd_L1 t217 a1) 0)).f2)) ∧ w34.cell? ⟨ad224.block, ad224.off + 1, none⟩ = some (.int .i64 (rd (rd_L1 t217 a1) 1)) ∧ w34.cell? (ad225.add (((rd (rd_L1 t217 a1) 1)).toNat * 3)) = some (.int .i64 ((rd_T60 t221 (rd (rd_L1 t217 a1) 1)).f0)) ∧ w34.cell? ⟨(ad225.add (((rd (rd_L1 t217 a1) 1)).toNat * 3)).block, (ad225.add (((rd (rd_L1 t217 a1) 1)).toNat * 3)).off + 1, none⟩ = some (.int .i64 ((rd_T60 t221 (rd (rd_L1 t217 a1) 1)).f1)) ∧ w34.cell? ⟨(ad225.add (((rd (rd_L1 t217 a1) 1)).toNat * 3)).block, (ad225.add (((rd (rd_L1 t217 a1) 1)).toNat * 3)).off + 2, none⟩ = some (.int .i64 ((rd_T60 t221 (rd (rd_L1 t217 a1) 1)).f2)) ∧ w34.cell? ⟨ad224.block, ad224.off + 2, none⟩ = some (.int .i64 (rd (rd_L1 t217 a1) 2)) ∧ w34.cell? (ad225.add (((rd (rd_L1 t217 a1) 2)).toNat * 3)) = some (.int .i64 ((rd_T60 t221 (rd (rd_L1 t217 a1) 2)).f0)) ∧ w34.cell? ⟨(ad225.add (((rd (rd_L1 t217 a1) 2)).toNat * 3)).block, (ad225.add (((rd (rd_L1 t217 a1) 2)).toNat * 3)).off + 1, none⟩ = some (.int .i64 ((rd_T60 t221 (rd (rd_L1 t217 a1) 2)).f1)) ∧ w34.cell? ⟨(ad225.add (((rd (rd_L1 t217 a1) 2)).toNat * 3)).block, (ad225.add (((rd (rd_L1 t217 a1) 2)).toNat * 3)).off + 2, none⟩ = some (.int .i64 ((rd_T60 t221 (rd (rd_L1 t217 a1) 2)).f2)) := hS_
                                    refine norm_ (a' := ?_) ?_ ?_
                                    rotate_left
                                    · simp only [putAll, Act.put, List.setIfInBounds_toArray, List.set_cons_zero, List.set_cons_succ]
                                      rfl
                                    refine one_ (i := 19) (N := some 11) #[true, true, true, true, true, true, true, true, true, true, true, true, true, true, true, true, true, true, true, true, true, false, false, false] rfl rfl (one_of HT_.out (by kernel_rfl)) (by decide) (fun K hK => ?_)
                                    refine box_step ?hg (N := 11) ?hd (cs := #[.int .i64 0, .int .i64 0, .int .i64 0]) (t := 60) ?hr ?_; (case hd => rfl); (case hg => rfl); (case hr => first | (go_simp; done) | (go_simp; rfl))
                                    intro gb231 hg w35 hbox hb
                                    have HS0_ := (hb.cell (World.block_lt_of_cell? _ _ (hHeld.1))).trans (hHeld.1)
                                    have HS1_ := (hb.cell (World.block_lt_of_cell? _ _ (hHeld.2.1))).trans (hHeld.2.1)
                                    have HS2_ := (hb.cell (World.block_lt_of_cell? _ _ (hHeld.2.2.1))).trans (hHeld.2.2.1)
                                    have HS3_ := (hb.cell (World.block_lt_of_cell? _ _ (hHeld.2.2.2.1))).trans (hHeld.2.2.2.1)
                                    have HS4_ := (hb.cell (World.block_lt_of_cell? _ _ (hHeld.2.2.2.2.1))).trans (hHeld.2.2.2.2.1)
                                    have HS5_ := (hb.cell (World.block_lt_of_cell? _ _ (hHeld.2.2.2.2.2.1))).trans (hHeld.2.2.2.2.2.1)
                                    have HS6_ := (hb.cell (World.block_lt_of_cell? _ _ (hHeld.2.2.2.2.2.2.1))).trans (hHeld.2.2.2.2.2.2.1)
                                    have HS7_ := (hb.cell (World.block_lt_of_cell? _ _ (hHeld.2.2.2.2.2.2.2.1))).trans (hHeld.2.2.2.2.2.2.2.1)
                                    have HS8_ := (hb.cell (World.block_lt_of_cell? _ _ (hHeld.2.2.2.2.2.2.2.2.1))).trans (hHeld.2.2.2.2.2.2.2.2.1)
                                    have HS9_ := (hb.cell (World.block_lt_of_cell? _ _ (hHeld.2.2.2.2.2.2.2.2.2.1))).trans (hHeld.2.2.2.2.2.2.2.2.2.1)
                                    have HS10_ := (hb.cell (World.block_lt_of_cell? _ _ (hHeld.2.2.2.2.2.2.2.2.2.2.1))).trans (hHeld.2.2.2.2.2.2.2.2.2.2.1)
                                    have HS11_ := (hb.cell (World.block_lt_of_cell? _ _ (hHeld.2.2.2.2.2.2.2.2.2.2.2))).trans (hHeld.2.2.2.2.2.2.2.2.2.2.2)
                                    have n0_ := Aside0.mk (Kd.S_below (by (with_reducible repeat (first | apply Kd.S_alloc | apply Kd.S_drewN | apply Kd.S_drew)); exact HO219.out) hb)
                                    have n1_ := Aside0.mk (Kd.R_below (by (with_reducible repeat (first | apply Kd.R_alloc | apply Kd.R_drewN | apply Kd.R_drew)); exact HL220_0.out) hb)
                                    have n2_ := Aside0.mk (Kd.R_below (Kd.R_elderB (by (with_reducible repeat (first | apply Kd.R_alloc | apply Kd.R_drewN | apply Kd.R_drew)); exact HO223.out) gb231 (Nat.le_of_eq hg.symm)) hb)
                                    have n3_ := Aside0.mk (blk_below (g := gb230) (o := .cells #[.int .i64 0, .int .i64 0, .int .i64 0] 60 (0, 0)) (by (with_reducible repeat (first | refine blk_drewN ?_ _ | refine blk_drew ?_ | refine blk_alloc ?_ _)); exact BK230.out) hb)
                                    have n4_ := Aside0.mk (blk_below (g := gb232) (o := .cells #[.int .i64 0, .int .i64 0, .int .i64 0] 60 (0, 0)) (by (with_reducible repeat (first | refine blk_drewN ?_ _ | refine blk_drew ?_ | refine blk_alloc ?_ _)); exact BK232.out) hb)
                                    have n5_ := Aside0.mk (below_step (by repeat (first | (with_reducible first | exact HB.out | apply below_alloc | apply pw_below_drewN | apply below_drew1 | refine below_set ?_ GE230.out | refine below_set ?_ GE232.out) | exact HB.out)) hb)
                                    have n6_ := Aside0.mk (hbox)
                                    have n7_ := Aside0.mk ((by rw [hg]; exact (below_size (by repeat (first | (with_reducible first | exact HB.out | apply below_alloc | apply pw_below_drewN | apply below_drew1 | refine below_set ?_ GE230.out | refine below_set ?_ GE232.out) | exact HB.out))) : w.heap.size ≤ gb231))
                                    have n8_ := Aside0.mk ((by rw [hg]; exact (below_size (by repeat (first | (with_reducible first | exact HB.out | apply below_alloc | apply pw_below_drewN | apply below_drew1 | refine below_set ?_ GE230.out | refine below_set ?_ GE232.out) | exact HB.out))) : w.heap.size ≤ gb231))
                                    have n9_ := Aside0.mk ((by rw [hg]; exact Nat.ne_of_lt (blk_lt (g := gb230) (o := .cells #[.int .i64 0, .int .i64 0, .int .i64 0] 60 (0, 0)) (by (with_reducible repeat (first | refine blk_drewN ?_ _ | refine blk_drew ?_ | refine blk_alloc ?_ _)); exact BK230.out)) : gb230 ≠ gb231))
                                    have n10_ := Aside0.mk ((by rw [hg]; exact Nat.ne_of_gt (blk_lt (g := gb230) (o := .cells #[.int .i64 0, .int .i64 0, .int .i64 0] 60 (0, 0)) (by (with_reducible repeat (first | refine blk_drewN ?_ _ | refine blk_drew ?_ | refine blk_alloc ?_ _)); exact BK230.out)) : gb231 ≠ gb230))
                                    have n11_ := Aside0.mk ((by rw [hg]; exact Nat.ne_of_lt (blk_lt (g := gb232) (o := .cells #[.int .i64 0, .int .i64 0, .int .i64 0] 60 (0, 0)) (by (with_reducible repeat (first | refine blk_drewN ?_ _ | refine blk_drew ?_ | refine blk_alloc ?_ _)); exact BK232.out)) : gb232 ≠ gb231))
                                    have n12_ := Aside0.mk ((by rw [hg]; exact Nat.ne_of_gt (blk_lt (g := gb232) (o := .cells #[.int .i64 0, .int .i64 0, .int .i64 0] 60 (0, 0)) (by (with_reducible repeat (first | refine blk_drewN ?_ _ | refine blk_drew ?_ | refine blk_alloc ?_ _)); exact BK232.out)) : gb231 ≠ gb232))
                                    clear HO219
                                    clear HL220_0
                                    clear HO223
                                    clear BK230
                                    clear BK232
                                    clear HB
                                    have HO219 := n0_
                                    have HL220_0 := n1_
                                    have HO223 := n2_
                                    have BK230 := n3_
                                    have BK232 := n4_
                                    have HB := n5_
                                    have BK231 := n6_
                                    have GW231 := n7_
                                    have GE231 := n8_
                                    have NB230_231 := n9_
                                    have NB231_230 := n10_
                                    have NB232_231 := n11_
                                    have NB231_232 := n12_
                                    clear n0_ n1_ n2_ n3_ n4_ n5_ n6_ n7_ n8_ n9_ n10_ n11_ n12_
                                    clear hb hbox hg
                                    refine hK.out _ _ ⟨HS0_, HS1_, HS2_, HS3_, HS4_, HS5_, HS6_, HS7_, HS8_, HS9_, HS10_, HS11_⟩ (fun hHeld => ?_)
                                    clear hK K
                                    refine norm_ (a' := ?_) ?_ ?_
                                    rotate_left
                                    · show Act.put _ (some 11) _ = _
                                      simp only [Act.put, List.setIfInBounds_toArray, List.set_cons_zero, List.set_cons_succ, i64_w, i32_w]
                                      rfl
                                    exact norm_ (by first | (simp only [putAll, Act.put, List.setIfInBounds_toArray, List.set_cons_zero, List.set_cons_succ]; done) | (simp only [putAll, Act.put, List.setIfInBounds_toArray, List.set_cons_zero, List.set_cons_succ]; rfl)) (hJ18_19_20 (gb230, gb231, gb232) _ ⟨hHeld, (by (with_reducible repeat (first | apply Kd.R_alloc | apply Kd.R_drewN | apply Kd.R_drew)); exact HL220_0.out), (by (with_reducible repeat (first | apply Kd.S_alloc | apply Kd.S_drewN | apply Kd.S_drew)); exact HO219.out), (by (with_reducible repeat (first | apply Kd.R_alloc | apply Kd.R_drewN | apply Kd.R_drew)); exact Kd.R_mono HO223.out (fun _ hk => ⟨hk.1.1, ⟨hk.2, hk.1.2⟩⟩)), (by (with_reducible repeat (first | refine blk_drewN ?_ _ | refine blk_drew ?_ | refine blk_alloc ?_ _)); exact BK230.out), (by (with_reducible repeat (first | refine blk_drewN ?_ _ | refine blk_drew ?_ | refine blk_alloc ?_ _)); exact BK231.out), (by (with_reducible repeat (first | refine blk_drewN ?_ _ | refine blk_drew ?_ | refine blk_alloc ?_ _)); exact BK232.out), GW230.out, GE230.out, NB231_230.out, NB230_231.out, NB232_230.out, NB230_232.out, GW231.out, GE231.out, NB232_231.out, NB231_232.out, GW232.out, GE232.out, (by repeat (first | (with_reducible first | exact HB.out | apply below_alloc | apply pw_below_drewN | apply below_drew1 | refine below_set ?_ GE230.out | refine below_set ?_ GE232.out | refine below_set ?_ GE231.out) | exact HB.out))⟩)
                                · skip
                                  rintro ⟨gb230, gb231⟩ w34 ⟨hS_, h0_, h1_, h2_, h3_, h4_, h5_, h6_, h7_, h8_, h9_, h10_, h11_⟩
                                  have n0_ : Aside0 (Kd.R (Kd.int .i64) 3 w34 w.heap.size (fun k_ => some k_ ≠ (.slice (some ad220) t217.length co28 : Value).ownBlock) (.slice (some ad224) (rd_L1 t217 a1).length c220_0) (rd_L1 t217 a1)) := ⟨h0_⟩
                                  have n1_ : Aside0 (Kd.S (Kd.slice 3 (Kd.int .i64)) 27 w34 w.heap.size (fun _ => True) (.slice (some ad220) t217.length co28) t217) := ⟨h1_⟩
                                  have n2_ : Aside0 (Kd.R k60 60 w34 w.heap.size (fun k_ => k_ ≠ gb230 ∧ k_ ≠ gb231) (.slice (some ad225) t221.length co31) t221) := ⟨h2_⟩
                                  have n3_ : Aside0 (w34.heap[gb230]? = some (.cells #[.int .i64 0, .int .i64 0, .int .i64 0] 60 (0, 0))) := ⟨h3_⟩
                                  have n4_ : Aside0 (w34.heap[gb231]? = some (.cells #[.int .i64 0, .int .i64 0, .int .i64 0] 60 (0, 0))) := ⟨h4_⟩
                                  have n5_ : Aside0 (w.heap.size ≤ gb230) := ⟨h5_⟩
                                  have n6_ : Aside0 (w.heap.size ≤ gb230) := ⟨h6_⟩
                                  have n7_ : Aside0 (gb231 ≠ gb230) := ⟨h7_⟩
                                  have n8_ : Aside0 (gb230 ≠ gb231) := ⟨h8_⟩
                                  have n9_ : Aside0 (w.heap.size ≤ gb231) := ⟨h9_⟩
                                  have n10_ : Aside0 (w.heap.size ≤ gb231) := ⟨h10_⟩
                                  have n11_ : Aside0 (Below w.heap.size w w34) := ⟨h11_⟩
                                  clear HO219
                                  clear HL220_0
                                  clear HO223
                                  clear HR220_0
                                  clear HB
                                  clear h0_ h1_ h2_ h3_ h4_ h5_ h6_ h7_ h8_ h9_ h10_ h11_
                                  have HL220_0 := n0_
                                  have HO219 := n1_
                                  have HO223 := n2_
                                  have BK230 := n3_
                                  have BK231 := n4_
                                  have GW230 := n5_
                                  have GE230 := n6_
                                  have NB231_230 := n7_
                                  have NB230_231 := n8_
                                  have GW231 := n9_
                                  have GE231 := n10_
                                  have HB := n11_
                                  clear n0_ n1_ n2_ n3_ n4_ n5_ n6_ n7_ n8_ n9_ n10_ n11_
                                  have hHeld : w34.cell? ad224 = some (.int .i64 (rd (rd_L1 t217 a1) 0)) ∧ w34.cell? (ad225.add (((rd (rd_L1 t217 a1) 0)).toNat * 3)) = some (.int .i64 ((rd_T60 t221 (rd (rd_L1 t217 a1) 0)).f0)) ∧ w34.cell? ⟨(ad225.add (((rd (rd_L1 t217 a1) 0)).toNat * 3)).block, (ad225.add (((rd (rd_L1 t217 a1) 0)).toNat * 3)).off + 1, none⟩ = some (.int .i64 ((rd_T60 t221 (rd (rd_L1 t217 a1) 0)).f1)) ∧ w34.cell? ⟨(ad225.add (((rd (rd_L1 t217 a1) 0)).toNat * 3)).block, (ad225.add (((rd (rd_L1 t217 a1) 0)).toNat * 3)).off + 2, none⟩ = some (.int .i64 ((rd_T60 t221 (rd (rd_L1 t217 a1) 0)).f2)) ∧ w34.cell? ⟨ad224.block, ad224.off + 1, none⟩ = some (.int .i64 (rd (rd_L1 t217 a1) 1)) ∧ w34.cell? (ad225.add (((rd (rd_L1 t217 a1) 1)).toNat * 3)) = some (.int .i64 ((rd_T60 t221 (rd (rd_L1 t217 a1) 1)).f0)) ∧ w34.cell? ⟨(ad225.add (((rd (rd_L1 t217 a1) 1)).toNat * 3)).block, (ad225.add (((rd (rd_L1 t217 a1) 1)).toNat * 3)).off + 1, none⟩ = some (.int .i64 ((rd_T60 t221 (rd (rd_L1 t217 a1) 1)).f1)) ∧ w34.cell? ⟨(ad225.add (((rd (rd_L1 t217 a1) 1)).toNat * 3)).block, (ad225.add (((rd (rd_L1 t217 a1) 1)).toNat * 3)).off + 2, none⟩ = some (.int .i64 ((rd_T60 t221 (rd (rd_L1 t217 a1) 1)).f2)) ∧ w34.cell? ⟨ad224.block, ad224.off + 2, none⟩ = some (.int .i64 (rd (rd_L1 t217 a1) 2)) ∧ w34.cell? (ad225.add (((rd (rd_L1 t217 a1) 2)).toNat * 3)) = some (.int .i64 ((rd_T60 t221 (rd (rd_L1 t217 a1) 2)).f0)) ∧ w34.cell? ⟨(ad225.add (((rd (rd_L1 t217 a1) 2)).toNat * 3)).block, (ad225.add (((rd (rd_L1 t217 a1) 2)).toNat * 3)).off + 1, none⟩ = some (.int .i64 ((rd_T60 t221 (rd (rd_L1 t217 a1) 2)).f1)) ∧ w34.cell? ⟨(ad225.add (((rd (rd_L1 t217 a1) 2)).toNat * 3)).block, (ad225.add (((rd (rd_L1 t217 a1) 2)).toNat * 3)).off + 2, none⟩ = some (.int .i64 ((rd_T60 t221 (rd (rd_L1 t217 a1) 2)).f2)) := hS_
                                  refine norm_ (a' := ?_) ?_ ?_
                                  rotate_left
                                  · simp only [putAll, Act.put, List.setIfInBounds_toArray, List.set_cons_zero, List.set_cons_succ]
                                    rfl
                                  refine one_ (i := 20) (N := some 12) #[true, true, true, true, true, true, true, true, true, true, true, true, true, true, true, true, true, true, true, true, true, false, false, false] rfl rfl (one_of HT_.out (by kernel_rfl)) (by decide) (fun K hK => ?_)
                                  refine box_step ?hg (N := 12) ?hd (cs := #[.int .i64 0, .int .i64 0, .int .i64 0]) (t := 60) ?hr ?_; (case hd => rfl); (case hg => rfl); (case hr => first | (go_simp; done) | (go_simp; rfl))
                                  intro gb232 hg w35 hbox hb
                                  have HS0_ := (hb.cell (World.block_lt_of_cell? _ _ (hHeld.1))).trans (hHeld.1)
                                  have HS1_ := (hb.cell (World.block_lt_of_cell? _ _ (hHeld.2.1))).trans (hHeld.2.1)
                                  have HS2_ := (hb.cell (World.block_lt_of_cell? _ _ (hHeld.2.2.1))).trans (hHeld.2.2.1)
                                  have HS3_ := (hb.cell (World.block_lt_of_cell? _ _ (hHeld.2.2.2.1))).trans (hHeld.2.2.2.1)
                                  have HS4_ := (hb.cell (World.block_lt_of_cell? _ _ (hHeld.2.2.2.2.1))).trans (hHeld.2.2.2.2.1)
                                  have HS5_ := (hb.cell (World.block_lt_of_cell? _ _ (hHeld.2.2.2.2.2.1))).trans (hHeld.2.2.2.2.2.1)
                                  have HS6_ := (hb.cell (World.block_lt_of_cell? _ _ (hHeld.2.2.2.2.2.2.1))).trans (hHeld.2.2.2.2.2.2.1)
                                  have HS7_ := (hb.cell (World.block_lt_of_cell? _ _ (hHeld.2.2.2.2.2.2.2.1))).trans (hHeld.2.2.2.2.2.2.2.1)
                                  have HS8_ := (hb.cell (World.block_lt_of_cell? _ _ (hHeld.2.2.2.2.2.2.2.2.1))).trans (hHeld.2.2.2.2.2.2.2.2.1)
                                  have HS9_ := (hb.cell (World.block_lt_of_cell? _ _ (hHeld.2.2.2.2.2.2.2.2.2.1))).trans (hHeld.2.2.2.2.2.2.2.2.2.1)
                                  have HS10_ := (hb.cell (World.block_lt_of_cell? _ _ (hHeld.2.2.2.2.2.2.2.2.2.2.1))).trans (hHeld.2.2.2.2.2.2.2.2.2.2.1)
                                  have HS11_ := (hb.cell (World.block_lt_of_cell? _ _ (hHeld.2.2.2.2.2.2.2.2.2.2.2))).trans (hHeld.2.2.2.2.2.2.2.2.2.2.2)
                                  have n0_ := Aside0.mk (Kd.S_below (by (with_reducible repeat (first | apply Kd.S_alloc | apply Kd.S_drewN | apply Kd.S_drew)); exact HO219.out) hb)
                                  have n1_ := Aside0.mk (Kd.R_below (by (with_reducible repeat (first | apply Kd.R_alloc | apply Kd.R_drewN | apply Kd.R_drew)); exact HL220_0.out) hb)
                                  have n2_ := Aside0.mk (Kd.R_below (Kd.R_elderB (by (with_reducible repeat (first | apply Kd.R_alloc | apply Kd.R_drewN | apply Kd.R_drew)); exact HO223.out) gb232 (Nat.le_of_eq hg.symm)) hb)
                                  have n3_ := Aside0.mk (blk_below (g := gb230) (o := .cells #[.int .i64 0, .int .i64 0, .int .i64 0] 60 (0, 0)) (by (with_reducible repeat (first | refine blk_drewN ?_ _ | refine blk_drew ?_ | refine blk_alloc ?_ _)); exact BK230.out) hb)
                                  have n4_ := Aside0.mk (blk_below (g := gb231) (o := .cells #[.int .i64 0, .int .i64 0, .int .i64 0] 60 (0, 0)) (by (with_reducible repeat (first | refine blk_drewN ?_ _ | refine blk_drew ?_ | refine blk_alloc ?_ _)); exact BK231.out) hb)
                                  have n5_ := Aside0.mk (below_step (by repeat (first | (with_reducible first | exact HB.out | apply below_alloc | apply pw_below_drewN | apply below_drew1 | refine below_set ?_ GE230.out | refine below_set ?_ GE231.out) | exact HB.out)) hb)
                                  have n6_ := Aside0.mk (hbox)
                                  have n7_ := Aside0.mk ((by rw [hg]; exact (below_size (by repeat (first | (with_reducible first | exact HB.out | apply below_alloc | apply pw_below_drewN | apply below_drew1 | refine below_set ?_ GE230.out | refine below_set ?_ GE231.out) | exact HB.out))) : w.heap.size ≤ gb232))
                                  have n8_ := Aside0.mk ((by rw [hg]; exact (below_size (by repeat (first | (with_reducible first | exact HB.out | apply below_alloc | apply pw_below_drewN | apply below_drew1 | refine below_set ?_ GE230.out | refine below_set ?_ GE231.out) | exact HB.out))) : w.heap.size ≤ gb232))
                                  have n9_ := Aside0.mk ((by rw [hg]; exact Nat.ne_of_lt (blk_lt (g := gb230) (o := .cells #[.int .i64 0, .int .i64 0, .int .i64 0] 60 (0, 0)) (by (with_reducible repeat (first | refine blk_drewN ?_ _ | refine blk_drew ?_ | refine blk_alloc ?_ _)); exact BK230.out)) : gb230 ≠ gb232))
                                  have n10_ := Aside0.mk ((by rw [hg]; exact Nat.ne_of_gt (blk_lt (g := gb230) (o := .cells #[.int .i64 0, .int .i64 0, .int .i64 0] 60 (0, 0)) (by (with_reducible repeat (first | refine blk_drewN ?_ _ | refine blk_drew ?_ | refine blk_alloc ?_ _)); exact BK230.out)) : gb232 ≠ gb230))
                                  have n11_ := Aside0.mk ((by rw [hg]; exact Nat.ne_of_lt (blk_lt (g := gb231) (o := .cells #[.int .i64 0, .int .i64 0, .int .i64 0] 60 (0, 0)) (by (with_reducible repeat (first | refine blk_drewN ?_ _ | refine blk_drew ?_ | refine blk_alloc ?_ _)); exact BK231.out)) : gb231 ≠ gb232))
                                  have n12_ := Aside0.mk ((by rw [hg]; exact Nat.ne_of_gt (blk_lt (g := gb231) (o := .cells #[.int .i64 0, .int .i64 0, .int .i64 0] 60 (0, 0)) (by (with_reducible repeat (first | refine blk_drewN ?_ _ | refine blk_drew ?_ | refine blk_alloc ?_ _)); exact BK231.out)) : gb232 ≠ gb231))
                                  clear HO219
                                  clear HL220_0
                                  clear HO223
                                  clear BK230
                                  clear BK231
                                  clear HB
                                  have HO219 := n0_
                                  have HL220_0 := n1_
                                  have HO223 := n2_
                                  have BK230 := n3_
                                  have BK231 := n4_
                                  have HB := n5_
                                  have BK232 := n6_
                                  have GW232 := n7_
                                  have GE232 := n8_
                                  have NB230_232 := n9_
                                  have NB232_230 := n10_
                                  have NB231_232 := n11_
                                  have NB232_231 := n12_
                                  clear n0_ n1_ n2_ n3_ n4_ n5_ n6_ n7_ n8_ n9_ n10_ n11_ n12_
                                  clear hb hbox hg
                                  refine hK.out _ _ ⟨HS0_, HS1_, HS2_, HS3_, HS4_, HS5_, HS6_, HS7_, HS8_, HS9_, HS10_, HS11_⟩ (fun hHeld => ?_)
                                  clear hK K
                                  refine norm_ (a' := ?_) ?_ ?_
                                  rotate_left
                                  · show Act.put _ (some 12) _ = _
                                    simp only [Act.put, List.setIfInBounds_toArray, List.set_cons_zero, List.set_cons_succ, i64_w, i32_w]
                                    rfl
                                  exact norm_ (by first | (simp only [putAll, Act.put, List.setIfInBounds_toArray, List.set_cons_zero, List.set_cons_succ]; done) | (simp only [putAll, Act.put, List.setIfInBounds_toArray, List.set_cons_zero, List.set_cons_succ]; rfl)) (hJ18_19_20 (gb230, gb231, gb232) _ ⟨hHeld, (by (with_reducible repeat (first | apply Kd.R_alloc | apply Kd.R_drewN | apply Kd.R_drew)); exact HL220_0.out), (by (with_reducible repeat (first | apply Kd.S_alloc | apply Kd.S_drewN | apply Kd.S_drew)); exact HO219.out), (by (with_reducible repeat (first | apply Kd.R_alloc | apply Kd.R_drewN | apply Kd.R_drew)); exact Kd.R_mono HO223.out (fun _ hk => ⟨hk.1.1, ⟨hk.1.2, hk.2⟩⟩)), (by (with_reducible repeat (first | refine blk_drewN ?_ _ | refine blk_drew ?_ | refine blk_alloc ?_ _)); exact BK230.out), (by (with_reducible repeat (first | refine blk_drewN ?_ _ | refine blk_drew ?_ | refine blk_alloc ?_ _)); exact BK231.out), (by (with_reducible repeat (first | refine blk_drewN ?_ _ | refine blk_drew ?_ | refine blk_alloc ?_ _)); exact BK232.out), GW230.out, GE230.out, NB231_230.out, NB230_231.out, NB232_230.out, NB230_232.out, GW231.out, GE231.out, NB232_231.out, NB231_232.out, GW232.out, GE232.out, (by repeat (first | (with_reducible first | exact HB.out | apply below_alloc | apply pw_below_drewN | apply below_drew1 | refine below_set ?_ GE230.out | refine below_set ?_ GE231.out | refine below_set ?_ GE232.out) | exact HB.out))⟩)
                              rintro ⟨gb230, gb231, gb232⟩ w35 ⟨hS_, h0_, h1_, h2_, h3_, h4_, h5_, h6_, h7_, h8_, h9_, h10_, h11_, h12_, h13_, h14_, h15_, h16_, h17_, h18_⟩
                              have n0_ : Aside0 (Kd.R (Kd.int .i64) 3 w35 w.heap.size (fun k_ => some k_ ≠ (.slice (some ad220) t217.length co28 : Value).ownBlock) (.slice (some ad224) (rd_L1 t217 a1).length c220_0) (rd_L1 t217 a1)) := ⟨h0_⟩
                              have n1_ : Aside0 (Kd.S (Kd.slice 3 (Kd.int .i64)) 27 w35 w.heap.size (fun _ => True) (.slice (some ad220) t217.length co28) t217) := ⟨h1_⟩
                              have n2_ : Aside0 (Kd.R k60 60 w35 w.heap.size (fun k_ => k_ ≠ gb230 ∧ k_ ≠ gb231 ∧ k_ ≠ gb232) (.slice (some ad225) t221.length co31) t221) := ⟨h2_⟩
                              have n3_ : Aside0 (w35.heap[gb230]? = some (.cells #[.int .i64 0, .int .i64 0, .int .i64 0] 60 (0, 0))) := ⟨h3_⟩
                              have n4_ : Aside0 (w35.heap[gb231]? = some (.cells #[.int .i64 0, .int .i64 0, .int .i64 0] 60 (0, 0))) := ⟨h4_⟩
                              have n5_ : Aside0 (w35.heap[gb232]? = some (.cells #[.int .i64 0, .int .i64 0, .int .i64 0] 60 (0, 0))) := ⟨h5_⟩
                              have n6_ : Aside0 (w.heap.size ≤ gb230) := ⟨h6_⟩
                              have n7_ : Aside0 (w.heap.size ≤ gb230) := ⟨h7_⟩
                              have n8_ : Aside0 (gb231 ≠ gb230) := ⟨h8_⟩
                              have n9_ : Aside0 (gb230 ≠ gb231) := ⟨h9_⟩
                              have n10_ : Aside0 (gb232 ≠ gb230) := ⟨h10_⟩
                              have n11_ : Aside0 (gb230 ≠ gb232) := ⟨h11_⟩
                              have n12_ : Aside0 (w.heap.size ≤ gb231) := ⟨h12_⟩
                              have n13_ : Aside0 (w.heap.size ≤ gb231) := ⟨h13_⟩
                              have n14_ : Aside0 (gb232 ≠ gb231) := ⟨h14_⟩
                              have n15_ : Aside0 (gb231 ≠ gb232) := ⟨h15_⟩
                              have n16_ : Aside0 (w.heap.size ≤ gb232) := ⟨h16_⟩
                              have n17_ : Aside0 (w.heap.size ≤ gb232) := ⟨h17_⟩
                              have n18_ : Aside0 (Below w.heap.size w w35) := ⟨h18_⟩
                              clear HO219
                              clear HL220_0
                              clear HO223
                              clear HR220_0
                              clear HB
                              clear h0_ h1_ h2_ h3_ h4_ h5_ h6_ h7_ h8_ h9_ h10_ h11_ h12_ h13_ h14_ h15_ h16_ h17_ h18_
                              have HL220_0 := n0_
                              have HO219 := n1_
                              have HO223 := n2_
                              have BK230 := n3_
                              have BK231 := n4_
                              have BK232 := n5_
                              have GW230 := n6_
                              have GE230 := n7_
                              have NB231_230 := n8_
                              have NB230_231 := n9_
                              have NB232_230 := n10_
                              have NB230_232 := n11_
                              have GW231 := n12_
                              have GE231 := n13_
                              have NB232_231 := n14_
                              have NB231_232 := n15_
                              have GW232 := n16_
                              have GE232 := n17_
                              have HB := n18_
                              clear n0_ n1_ n2_ n3_ n4_ n5_ n6_ n7_ n8_ n9_ n10_ n11_ n12_ n13_ n14_ n15_ n16_ n17_ n18_
                              have hHeld : w35.cell? ad224 = some (.int .i64 (rd (rd_L1 t217 a1) 0)) ∧ w35.cell? (ad225.add (((rd (rd_L1 t217 a1) 0)).toNat * 3)) = some (.int .i64 ((rd_T60 t221 (rd (rd_L1 t217 a1) 0)).f0)) ∧ w35.cell? ⟨(ad225.add (((rd (rd_L1 t217 a1) 0)).toNat * 3)).block, (ad225.add (((rd (rd_L1 t217 a1) 0)).toNat * 3)).off + 1, none⟩ = some (.int .i64 ((rd_T60 t221 (rd (rd_L1 t217 a1) 0)).f1)) ∧ w35.cell? ⟨(ad225.add (((rd (rd_L1 t217 a1) 0)).toNat * 3)).block, (ad225.add (((rd (rd_L1 t217 a1) 0)).toNat * 3)).off + 2, none⟩ = some (.int .i64 ((rd_T60 t221 (rd (rd_L1 t217 a1) 0)).f2)) ∧ w35.cell? ⟨ad224.block, ad224.off + 1, none⟩ = some (.int .i64 (rd (rd_L1 t217 a1) 1)) ∧ w35.cell? (ad225.add (((rd (rd_L1 t217 a1) 1)).toNat * 3)) = some (.int .i64 ((rd_T60 t221 (rd (rd_L1 t217 a1) 1)).f0)) ∧ w35.cell? ⟨(ad225.add (((rd (rd_L1 t217 a1) 1)).toNat * 3)).block, (ad225.add (((rd (rd_L1 t217 a1) 1)).toNat * 3)).off + 1, none⟩ = some (.int .i64 ((rd_T60 t221 (rd (rd_L1 t217 a1) 1)).f1)) ∧ w35.cell? ⟨(ad225.add (((rd (rd_L1 t217 a1) 1)).toNat * 3)).block, (ad225.add (((rd (rd_L1 t217 a1) 1)).toNat * 3)).off + 2, none⟩ = some (.int .i64 ((rd_T60 t221 (rd (rd_L1 t217 a1) 1)).f2)) ∧ w35.cell? ⟨ad224.block, ad224.off + 2, none⟩ = some (.int .i64 (rd (rd_L1 t217 a1) 2)) ∧ w35.cell? (ad225.add (((rd (rd_L1 t217 a1) 2)).toNat * 3)) = some (.int .i64 ((rd_T60 t221 (rd (rd_L1 t217 a1) 2)).f0)) ∧ w35.cell? ⟨(ad225.add (((rd (rd_L1 t217 a1) 2)).toNat * 3)).block, (ad225.add (((rd (rd_L1 t217 a1) 2)).toNat * 3)).off + 1, none⟩ = some (.int .i64 ((rd_T60 t221 (rd (rd_L1 t217 a1) 2)).f1)) ∧ w35.cell? ⟨(ad225.add (((rd (rd_L1 t217 a1) 2)).toNat * 3)).block, (ad225.add (((rd (rd_L1 t217 a1) 2)).toNat * 3)).off + 2, none⟩ = some (.int .i64 ((rd_T60 t221 (rd (rd_L1 t217 a1) 2)).f2)) := hS_
                              refine norm_ (a' := ?_) ?_ ?_
                              rotate_left
                              · simp only [putAll, Act.put, List.setIfInBounds_toArray, List.set_cons_zero, List.set_cons_succ]
                                rfl
                              refine one_ (i := 21) (N := none) #[true, true, true, true, true, true, true, true, true, true, true, true, true, true, true, true, true, true, true, true, true, true, false, false] rfl rfl (one_of HT_.out (by kernel_rfl)) (by decide) (fun K hK => ?_)
                              have hs36 : w35.cell? ⟨gb230, 0, none⟩ = some (.int .i64 0) := (blk_cell BK230.out 0).trans rfl
                              have hfs36 := blk_frozen BK230.out 0
                              have hns36_1 := NB231_230.out
                              have hns36_2 := NB232_230.out
                              have hms36_1 := NB230_231.out
                              have hms36_2 := NB230_232.out
                              have hs37 : w35.cell? ⟨gb230, 1, none⟩ = some (.int .i64 0) := (blk_cell BK230.out 1).trans rfl
                              have hfs37 := blk_frozen BK230.out 1
                              have hns37_1 := NB231_230.out
                              have hns37_2 := NB232_230.out
                              have hms37_1 := NB230_231.out
                              have hms37_2 := NB230_232.out
                              have hs38 : w35.cell? ⟨gb230, 2, none⟩ = some (.int .i64 0) := (blk_cell BK230.out 2).trans rfl
                              have hfs38 := blk_frozen BK230.out 2
                              have hns38_1 := NB231_230.out
                              have hns38_2 := NB232_230.out
                              have hms38_1 := NB230_231.out
                              have hms38_2 := NB230_232.out
                              refine skip_ (w1 := ?_) (by rfl) rfl ?_ ?_
                              rotate_left
                              · go_simp
                                rfl
                              refine hK.out _ _ ⟨((cell_far (p := ⟨gb230, _, none⟩) (by first | exact Kd.own_blk (Kd.R_ne HL220_0.out BK230.out (by decide)) | (rw [add_block]; exact Kd.own_blk (Kd.R_ne HL220_0.out BK230.out (by decide))) | (show (Addr.add _ _).block ≠ _; rw [add_block]; exact Kd.own_blk (Kd.R_ne HL220_0.out BK230.out (by decide))) | (dsimp only; exact Kd.own_blk (Kd.R_ne HL220_0.out BK230.out (by decide)))) _).trans (((cell_far (p := ⟨gb230, _, none⟩) (by first | exact Kd.own_blk (Kd.R_ne HL220_0.out BK230.out (by decide)) | (rw [add_block]; exact Kd.own_blk (Kd.R_ne HL220_0.out BK230.out (by decide))) | (show (Addr.add _ _).block ≠ _; rw [add_block]; exact Kd.own_blk (Kd.R_ne HL220_0.out BK230.out (by decide))) | (dsimp only; exact Kd.own_blk (Kd.R_ne HL220_0.out BK230.out (by decide)))) _).trans (((cell_far (p := ⟨gb230, _, none⟩) (by first | exact Kd.own_blk (Kd.R_ne HL220_0.out BK230.out (by decide)) | (rw [add_block]; exact Kd.own_blk (Kd.R_ne HL220_0.out BK230.out (by decide))) | (show (Addr.add _ _).block ≠ _; rw [add_block]; exact Kd.own_blk (Kd.R_ne HL220_0.out BK230.out (by decide))) | (dsimp only; exact Kd.own_blk (Kd.R_ne HL220_0.out BK230.out (by decide)))) _).trans (hHeld.1)))))), ((cell_far (p := ⟨gb230, _, none⟩) (by first | exact Kd.own_blk (Kd.R_away HO223.out (fun _ hk => hk.1)) | (rw [add_block]; exact Kd.own_blk (Kd.R_away HO223.out (fun _ hk => hk.1))) | (show (Addr.add _ _).block ≠ _; rw [add_block]; exact Kd.own_blk (Kd.R_away HO223.out (fun _ hk => hk.1))) | (dsimp only; exact Kd.own_blk (Kd.R_away HO223.out (fun _ hk => hk.1)))) _).trans (((cell_far (p := ⟨gb230, _, none⟩) (by first | exact Kd.own_blk (Kd.R_away HO223.out (fun _ hk => hk.1)) | (rw [add_block]; exact Kd.own_blk (Kd.R_away HO223.out (fun _ hk => hk.1))) | (show (Addr.add _ _).block ≠ _; rw [add_block]; exact Kd.own_blk (Kd.R_away HO223.out (fun _ hk => hk.1))) | (dsimp only; exact Kd.own_blk (Kd.R_away HO223.out (fun _ hk => hk.1)))) _).trans (((cell_far (p := ⟨gb230, _, none⟩) (by first | exact Kd.own_blk (Kd.R_away HO223.out (fun _ hk => hk.1)) | (rw [add_block]; exact Kd.own_blk (Kd.R_away HO223.out (fun _ hk => hk.1))) | (show (Addr.add _ _).block ≠ _; rw [add_block]; exact Kd.own_blk (Kd.R_away HO223.out (fun _ hk => hk.1))) | (dsimp only; exact Kd.own_blk (Kd.R_away HO223.out (fun _ hk => hk.1)))) _).trans (hHeld.2.1)))))), ((cell_far (p := ⟨gb230, _, none⟩) (by first | exact Kd.own_blk (Kd.R_away HO223.out (fun _ hk => hk.1)) | (rw [add_block]; exact Kd.own_blk (Kd.R_away HO223.out (fun _ hk => hk.1))) | (show (Addr.add _ _).block ≠ _; rw [add_block]; exact Kd.own_blk (Kd.R_away HO223.out (fun _ hk => hk.1))) | (dsimp only; exact Kd.own_blk (Kd.R_away HO223.out (fun _ hk => hk.1)))) _).trans (((cell_far (p := ⟨gb230, _, none⟩) (by first | exact Kd.own_blk (Kd.R_away HO223.out (fun _ hk => hk.1)) | (rw [add_block]; exact Kd.own_blk (Kd.R_away HO223.out (fun _ hk => hk.1))) | (show (Addr.add _ _).block ≠ _; rw [add_block]; exact Kd.own_blk (Kd.R_away HO223.out (fun _ hk => hk.1))) | (dsimp only; exact Kd.own_blk (Kd.R_away HO223.out (fun _ hk => hk.1)))) _).trans (((cell_far (p := ⟨gb230, _, none⟩) (by first | exact Kd.own_blk (Kd.R_away HO223.out (fun _ hk => hk.1)) | (rw [add_block]; exact Kd.own_blk (Kd.R_away HO223.out (fun _ hk => hk.1))) | (show (Addr.add _ _).block ≠ _; rw [add_block]; exact Kd.own_blk (Kd.R_away HO223.out (fun _ hk => hk.1))) | (dsimp only; exact Kd.own_blk (Kd.R_away HO223.out (fun _ hk => hk.1)))) _).trans (hHeld.2.2.1)))))), ((cell_far (p := ⟨gb230, _, none⟩) (by first | exact Kd.own_blk (Kd.R_away HO223.out (fun _ hk => hk.1)) | (rw [add_block]; exact Kd.own_blk (Kd.R_away HO223.out (fun _ hk => hk.1))) | (show (Addr.add _ _).block ≠ _; rw [add_block]; exact Kd.own_blk (Kd.R_away HO223.out (fun _ hk => hk.1))) | (dsimp only; exact Kd.own_blk (Kd.R_away HO223.out (fun _ hk => hk.1)))) _).trans (((cell_far (p := ⟨gb230, _, none⟩) (by first | exact Kd.own_blk (Kd.R_away HO223.out (fun _ hk => hk.1)) | (rw [add_block]; exact Kd.own_blk (Kd.R_away HO223.out (fun _ hk => hk.1))) | (show (Addr.add _ _).block ≠ _; rw [add_block]; exact Kd.own_blk (Kd.R_away HO223.out (fun _ hk => hk.1))) | (dsimp only; exact Kd.own_blk (Kd.R_away HO223.out (fun _ hk => hk.1)))) _).trans (((cell_far (p := ⟨gb230, _, none⟩) (by first | exact Kd.own_blk (Kd.R_away HO223.out (fun _ hk => hk.1)) | (rw [add_block]; exact Kd.own_blk (Kd.R_away HO223.out (fun _ hk => hk.1))) | (show (Addr.add _ _).block ≠ _; rw [add_block]; exact Kd.own_blk (Kd.R_away HO223.out (fun _ hk => hk.1))) | (dsimp only; exact Kd.own_blk (Kd.R_away HO223.out (fun _ hk => hk.1)))) _).trans (hHeld.2.2.2.1)))))), ((cell_far (p := ⟨gb230, _, none⟩) (by first | exact Kd.own_blk (Kd.R_ne HL220_0.out BK230.out (by decide)) | (rw [add_block]; exact Kd.own_blk (Kd.R_ne HL220_0.out BK230.out (by decide))) | (show (Addr.add _ _).block ≠ _; rw [add_block]; exact Kd.own_blk (Kd.R_ne HL220_0.out BK230.out (by decide))) | (dsimp only; exact Kd.own_blk (Kd.R_ne HL220_0.out BK230.out (by decide)))) _).trans (((cell_far (p := ⟨gb230, _, none⟩) (by first | exact Kd.own_blk (Kd.R_ne HL220_0.out BK230.out (by decide)) | (rw [add_block]; exact Kd.own_blk (Kd.R_ne HL220_0.out BK230.out (by decide))) | (show (Addr.add _ _).block ≠ _; rw [add_block]; exact Kd.own_blk (Kd.R_ne HL220_0.out BK230.out (by decide))) | (dsimp only; exact Kd.own_blk (Kd.R_ne HL220_0.out BK230.out (by decide)))) _).trans (((cell_far (p := ⟨gb230, _, none⟩) (by first | exact Kd.own_blk (Kd.R_ne HL220_0.out BK230.out (by decide)) | (rw [add_block]; exact Kd.own_blk (Kd.R_ne HL220_0.out BK230.out (by decide))) | (show (Addr.add _ _).block ≠ _; rw [add_block]; exact Kd.own_blk (Kd.R_ne HL220_0.out BK230.out (by decide))) | (dsimp only; exact Kd.own_blk (Kd.R_ne HL220_0.out BK230.out (by decide)))) _).trans (hHeld.2.2.2.2.1)))))), ((cell_far (p := ⟨gb230, _, none⟩) (by first | exact Kd.own_blk (Kd.R_away HO223.out (fun _ hk => hk.1)) | (rw [add_block]; exact Kd.own_blk (Kd.R_away HO223.out (fun _ hk => hk.1))) | (show (Addr.add _ _).block ≠ _; rw [add_block]; exact Kd.own_blk (Kd.R_away HO223.out (fun _ hk => hk.1))) | (dsimp only; exact Kd.own_blk (Kd.R_away HO223.out (fun _ hk => hk.1)))) _).trans (((cell_far (p := ⟨gb230, _, none⟩) (by first | exact Kd.own_blk (Kd.R_away HO223.out (fun _ hk => hk.1)) | (rw [add_block]; exact Kd.own_blk (Kd.R_away HO223.out (fun _ hk => hk.1))) | (show (Addr.add _ _).block ≠ _; rw [add_block]; exact Kd.own_blk (Kd.R_away HO223.out (fun _ hk => hk.1))) | (dsimp only; exact Kd.own_blk (Kd.R_away HO223.out (fun _ hk => hk.1)))) _).trans (((cell_far (p := ⟨gb230, _, none⟩) (by first | exact Kd.own_blk (Kd.R_away HO223.out (fun _ hk => hk.1)) | (rw [add_block]; exact Kd.own_blk (Kd.R_away HO223.out (fun _ hk => hk.1))) | (show (Addr.add _ _).block ≠ _; rw [add_block]; exact Kd.own_blk (Kd.R_away HO223.out (fun _ hk => hk.1))) | (dsimp only; exact Kd.own_blk (Kd.R_away HO223.out (fun _ hk => hk.1)))) _).trans (hHeld.2.2.2.2.2.1)))))), ((cell_far (p := ⟨gb230, _, none⟩) (by first | exact Kd.own_blk (Kd.R_away HO223.out (fun _ hk => hk.1)) | (rw [add_block]; exact Kd.own_blk (Kd.R_away HO223.out (fun _ hk => hk.1))) | (show (Addr.add _ _).block ≠ _; rw [add_block]; exact Kd.own_blk (Kd.R_away HO223.out (fun _ hk => hk.1))) | (dsimp only; exact Kd.own_blk (Kd.R_away HO223.out (fun _ hk => hk.1)))) _).trans (((cell_far (p := ⟨gb230, _, none⟩) (by first | exact Kd.own_blk (Kd.R_away HO223.out (fun _ hk => hk.1)) | (rw [add_block]; exact Kd.own_blk (Kd.R_away HO223.out (fun _ hk => hk.1))) | (show (Addr.add _ _).block ≠ _; rw [add_block]; exact Kd.own_blk (Kd.R_away HO223.out (fun _ hk => hk.1))) | (dsimp only; exact Kd.own_blk (Kd.R_away HO223.out (fun _ hk => hk.1)))) _).trans (((cell_far (p := ⟨gb230, _, none⟩) (by first | exact Kd.own_blk (Kd.R_away HO223.out (fun _ hk => hk.1)) | (rw [add_block]; exact Kd.own_blk (Kd.R_away HO223.out (fun _ hk => hk.1))) | (show (Addr.add _ _).block ≠ _; rw [add_block]; exact Kd.own_blk (Kd.R_away HO223.out (fun _ hk => hk.1))) | (dsimp only; exact Kd.own_blk (Kd.R_away HO223.out (fun _ hk => hk.1)))) _).trans (hHeld.2.2.2.2.2.2.1)))))), ((cell_far (p := ⟨gb230, _, none⟩) (by first | exact Kd.own_blk (Kd.R_away HO223.out (fun _ hk => hk.1)) | (rw [add_block]; exact Kd.own_blk (Kd.R_away HO223.out (fun _ hk => hk.1))) | (show (Addr.add _ _).block ≠ _; rw [add_block]; exact Kd.own_blk (Kd.R_away HO223.out (fun _ hk => hk.1))) | (dsimp only; exact Kd.own_blk (Kd.R_away HO223.out (fun _ hk => hk.1)))) _).trans (((cell_far (p := ⟨gb230, _, none⟩) (by first | exact Kd.own_blk (Kd.R_away HO223.out (fun _ hk => hk.1)) | (rw [add_block]; exact Kd.own_blk (Kd.R_away HO223.out (fun _ hk => hk.1))) | (show (Addr.add _ _).block ≠ _; rw [add_block]; exact Kd.own_blk (Kd.R_away HO223.out (fun _ hk => hk.1))) | (dsimp only; exact Kd.own_blk (Kd.R_away HO223.out (fun _ hk => hk.1)))) _).trans (((cell_far (p := ⟨gb230, _, none⟩) (by first | exact Kd.own_blk (Kd.R_away HO223.out (fun _ hk => hk.1)) | (rw [add_block]; exact Kd.own_blk (Kd.R_away HO223.out (fun _ hk => hk.1))) | (show (Addr.add _ _).block ≠ _; rw [add_block]; exact Kd.own_blk (Kd.R_away HO223.out (fun _ hk => hk.1))) | (dsimp only; exact Kd.own_blk (Kd.R_away HO223.out (fun _ hk => hk.1)))) _).trans (hHeld.2.2.2.2.2.2.2.1)))))), ((cell_far (p := ⟨gb230, _, none⟩) (by first | exact Kd.own_blk (Kd.R_ne HL220_0.out BK230.out (by decide)) | (rw [add_block]; exact Kd.own_blk (Kd.R_ne HL220_0.out BK230.out (by decide))) | (show (Addr.add _ _).block ≠ _; rw [add_block]; exact Kd.own_blk (Kd.R_ne HL220_0.out BK230.out (by decide))) | (dsimp only; exact Kd.own_blk (Kd.R_ne HL220_0.out BK230.out (by decide)))) _).trans (((cell_far (p := ⟨gb230, _, none⟩) (by first | exact Kd.own_blk (Kd.R_ne HL220_0.out BK230.out (by decide)) | (rw [add_block]; exact Kd.own_blk (Kd.R_ne HL220_0.out BK230.out (by decide))) | (show (Addr.add _ _).block ≠ _; rw [add_block]; exact Kd.own_blk (Kd.R_ne HL220_0.out BK230.out (by decide))) | (dsimp only; exact Kd.own_blk (Kd.R_ne HL220_0.out BK230.out (by decide)))) _).trans (((cell_far (p := ⟨gb230, _, none⟩) (by first | exact Kd.own_blk (Kd.R_ne HL220_0.out BK230.out (by decide)) | (rw [add_block]; exact Kd.own_blk (Kd.R_ne HL220_0.out BK230.out (by decide))) | (show (Addr.add _ _).block ≠ _; rw [add_block]; exact Kd.own_blk (Kd.R_ne HL220_0.out BK230.out (by decide))) | (dsimp only; exact Kd.own_blk (Kd.R_ne HL220_0.out BK230.out (by decide)))) _).trans (hHeld.2.2.2.2.2.2.2.2.1)))))), ((cell_far (p := ⟨gb230, _, none⟩) (by first | exact Kd.own_blk (Kd.R_away HO223.out (fun _ hk => hk.1)) | (rw [add_block]; exact Kd.own_blk (Kd.R_away HO223.out (fun _ hk => hk.1))) | (show (Addr.add _ _).block ≠ _; rw [add_block]; exact Kd.own_blk (Kd.R_away HO223.out (fun _ hk => hk.1))) | (dsimp only; exact Kd.own_blk (Kd.R_away HO223.out (fun _ hk => hk.1)))) _).trans (((cell_far (p := ⟨gb230, _, none⟩) (by first | exact Kd.own_blk (Kd.R_away HO223.out (fun _ hk => hk.1)) | (rw [add_block]; exact Kd.own_blk (Kd.R_away HO223.out (fun _ hk => hk.1))) | (show (Addr.add _ _).block ≠ _; rw [add_block]; exact Kd.own_blk (Kd.R_away HO223.out (fun _ hk => hk.1))) | (dsimp only; exact Kd.own_blk (Kd.R_away HO223.out (fun _ hk => hk.1)))) _).trans (((cell_far (p := ⟨gb230, _, none⟩) (by first | exact Kd.own_blk (Kd.R_away HO223.out (fun _ hk => hk.1)) | (rw [add_block]; exact Kd.own_blk (Kd.R_away HO223.out (fun _ hk => hk.1))) | (show (Addr.add _ _).block ≠ _; rw [add_block]; exact Kd.own_blk (Kd.R_away HO223.out (fun _ hk => hk.1))) | (dsimp only; exact Kd.own_blk (Kd.R_away HO223.out (fun _ hk => hk.1)))) _).trans (hHeld.2.2.2.2.2.2.2.2.2.1)))))), ((cell_far (p := ⟨gb230, _, none⟩) (by first | exact Kd.own_blk (Kd.R_away HO223.out (fun _ hk => hk.1)) | (rw [add_block]; exact Kd.own_blk (Kd.R_away HO223.out (fun _ hk => hk.1))) | (show (Addr.add _ _).block ≠ _; rw [add_block]; exact Kd.own_blk (Kd.R_away HO223.out (fun _ hk => hk.1))) | (dsimp only; exact Kd.own_blk (Kd.R_away HO223.out (fun _ hk => hk.1)))) _).trans (((cell_far (p := ⟨gb230, _, none⟩) (by first | exact Kd.own_blk (Kd.R_away HO223.out (fun _ hk => hk.1)) | (rw [add_block]; exact Kd.own_blk (Kd.R_away HO223.out (fun _ hk => hk.1))) | (show (Addr.add _ _).block ≠ _; rw [add_block]; exact Kd.own_blk (Kd.R_away HO223.out (fun _ hk => hk.1))) | (dsimp only; exact Kd.own_blk (Kd.R_away HO223.out (fun _ hk => hk.1)))) _).trans (((cell_far (p := ⟨gb230, _, none⟩) (by first | exact Kd.own_blk (Kd.R_away HO223.out (fun _ hk => hk.1)) | (rw [add_block]; exact Kd.own_blk (Kd.R_away HO223.out (fun _ hk => hk.1))) | (show (Addr.add _ _).block ≠ _; rw [add_block]; exact Kd.own_blk (Kd.R_away HO223.out (fun _ hk => hk.1))) | (dsimp only; exact Kd.own_blk (Kd.R_away HO223.out (fun _ hk => hk.1)))) _).trans (hHeld.2.2.2.2.2.2.2.2.2.2.1)))))), ((cell_far (p := ⟨gb230, _, none⟩) (by first | exact Kd.own_blk (Kd.R_away HO223.out (fun _ hk => hk.1)) | (rw [add_block]; exact Kd.own_blk (Kd.R_away HO223.out (fun _ hk => hk.1))) | (show (Addr.add _ _).block ≠ _; rw [add_block]; exact Kd.own_blk (Kd.R_away HO223.out (fun _ hk => hk.1))) | (dsimp only; exact Kd.own_blk (Kd.R_away HO223.out (fun _ hk => hk.1)))) _).trans (((cell_far (p := ⟨gb230, _, none⟩) (by first | exact Kd.own_blk (Kd.R_away HO223.out (fun _ hk => hk.1)) | (rw [add_block]; exact Kd.own_blk (Kd.R_away HO223.out (fun _ hk => hk.1))) | (show (Addr.add _ _).block ≠ _; rw [add_block]; exact Kd.own_blk (Kd.R_away HO223.out (fun _ hk => hk.1))) | (dsimp only; exact Kd.own_blk (Kd.R_away HO223.out (fun _ hk => hk.1)))) _).trans (((cell_far (p := ⟨gb230, _, none⟩) (by first | exact Kd.own_blk (Kd.R_away HO223.out (fun _ hk => hk.1)) | (rw [add_block]; exact Kd.own_blk (Kd.R_away HO223.out (fun _ hk => hk.1))) | (show (Addr.add _ _).block ≠ _; rw [add_block]; exact Kd.own_blk (Kd.R_away HO223.out (fun _ hk => hk.1))) | (dsimp only; exact Kd.own_blk (Kd.R_away HO223.out (fun _ hk => hk.1)))) _).trans (hHeld.2.2.2.2.2.2.2.2.2.2.2))))))⟩ (fun hHeld => ?_)
                              clear hK K
                              refine one_ (i := 22) (N := none) #[true, true, true, true, true, true, true, true, true, true, true, true, true, true, true, true, true, true, true, true, true, true, true, false] rfl rfl (one_of HT_.out (by kernel_rfl)) (by decide) (fun K hK => ?_)
                              have hs39 : w35.cell? ⟨gb231, 0, none⟩ = some (.int .i64 0) := (blk_cell BK231.out 0).trans rfl
                              have hfs39 := blk_frozen BK231.out 0
                              have hns39_0 := NB230_231.out
                              have hns39_2 := NB232_231.out
                              have hms39_0 := NB231_230.out
                              have hms39_2 := NB231_232.out
                              have hs40 : w35.cell? ⟨gb231, 1, none⟩ = some (.int .i64 0) := (blk_cell BK231.out 1).trans rfl
                              have hfs40 := blk_frozen BK231.out 1
                              have hns40_0 := NB230_231.out
                              have hns40_2 := NB232_231.out
                              have hms40_0 := NB231_230.out
                              have hms40_2 := NB231_232.out
                              have hs41 : w35.cell? ⟨gb231, 2, none⟩ = some (.int .i64 0) := (blk_cell BK231.out 2).trans rfl
                              have hfs41 := blk_frozen BK231.out 2
                              have hns41_0 := NB230_231.out
                              have hns41_2 := NB232_231.out
                              have hms41_0 := NB231_230.out
                              have hms41_2 := NB231_232.out
                              refine skip_ (w1 := ?_) (by rfl) rfl ?_ ?_
                              rotate_left
                              · go_simp
                                rfl
                              refine hK.out _ _ ⟨((cell_far (p := ⟨gb231, _, none⟩) (by first | exact Kd.own_blk (Kd.R_ne HL220_0.out BK231.out (by decide)) | (rw [add_block]; exact Kd.own_blk (Kd.R_ne HL220_0.out BK231.out (by decide))) | (show (Addr.add _ _).block ≠ _; rw [add_block]; exact Kd.own_blk (Kd.R_ne HL220_0.out BK231.out (by decide))) | (dsimp only; exact Kd.own_blk (Kd.R_ne HL220_0.out BK231.out (by decide)))) _).trans (((cell_far (p := ⟨gb231, _, none⟩) (by first | exact Kd.own_blk (Kd.R_ne HL220_0.out BK231.out (by decide)) | (rw [add_block]; exact Kd.own_blk (Kd.R_ne HL220_0.out BK231.out (by decide))) | (show (Addr.add _ _).block ≠ _; rw [add_block]; exact Kd.own_blk (Kd.R_ne HL220_0.out BK231.out (by decide))) | (dsimp only; exact Kd.own_blk (Kd.R_ne HL220_0.out BK231.out (by decide)))) _).trans (((cell_far (p := ⟨gb231, _, none⟩) (by first | exact Kd.own_blk (Kd.R_ne HL220_0.out BK231.out (by decide)) | (rw [add_block]; exact Kd.own_blk (Kd.R_ne HL220_0.out BK231.out (by decide))) | (show (Addr.add _ _).block ≠ _; rw [add_block]; exact Kd.own_blk (Kd.R_ne HL220_0.out BK231.out (by decide))) | (dsimp only; exact Kd.own_blk (Kd.R_ne HL220_0.out BK231.out (by decide)))) _).trans (hHeld.1)))))), ((cell_far (p := ⟨gb231, _, none⟩) (by first | exact Kd.own_blk (Kd.R_away HO223.out (fun _ hk => hk.2.1)) | (rw [add_block]; exact Kd.own_blk (Kd.R_away HO223.out (fun _ hk => hk.2.1))) | (show (Addr.add _ _).block ≠ _; rw [add_block]; exact Kd.own_blk (Kd.R_away HO223.out (fun _ hk => hk.2.1))) | (dsimp only; exact Kd.own_blk (Kd.R_away HO223.out (fun _ hk => hk.2.1)))) _).trans (((cell_far (p := ⟨gb231, _, none⟩) (by first | exact Kd.own_blk (Kd.R_away HO223.out (fun _ hk => hk.2.1)) | (rw [add_block]; exact Kd.own_blk (Kd.R_away HO223.out (fun _ hk => hk.2.1))) | (show (Addr.add _ _).block ≠ _; rw [add_block]; exact Kd.own_blk (Kd.R_away HO223.out (fun _ hk => hk.2.1))) | (dsimp only; exact Kd.own_blk (Kd.R_away HO223.out (fun _ hk => hk.2.1)))) _).trans (((cell_far (p := ⟨gb231, _, none⟩) (by first | exact Kd.own_blk (Kd.R_away HO223.out (fun _ hk => hk.2.1)) | (rw [add_block]; exact Kd.own_blk (Kd.R_away HO223.out (fun _ hk => hk.2.1))) | (show (Addr.add _ _).block ≠ _; rw [add_block]; exact Kd.own_blk (Kd.R_away HO223.out (fun _ hk => hk.2.1))) | (dsimp only; exact Kd.own_blk (Kd.R_away HO223.out (fun _ hk => hk.2.1)))) _).trans (hHeld.2.1)))))), ((cell_far (p := ⟨gb231, _, none⟩) (by first | exact Kd.own_blk (Kd.R_away HO223.out (fun _ hk => hk.2.1)) | (rw [add_block]; exact Kd.own_blk (Kd.R_away HO223.out (fun _ hk => hk.2.1))) | (show (Addr.add _ _).block ≠ _; rw [add_block]; exact Kd.own_blk (Kd.R_away HO223.out (fun _ hk => hk.2.1))) | (dsimp only; exact Kd.own_blk (Kd.R_away HO223.out (fun _ hk => hk.2.1)))) _).trans (((cell_far (p := ⟨gb231, _, none⟩) (by first | exact Kd.own_blk (Kd.R_away HO223.out (fun _ hk => hk.2.1)) | (rw [add_block]; exact Kd.own_blk (Kd.R_away HO223.out (fun _ hk => hk.2.1))) | (show (Addr.add _ _).block ≠ _; rw [add_block]; exact Kd.own_blk (Kd.R_away HO223.out (fun _ hk => hk.2.1))) | (dsimp only; exact Kd.own_blk (Kd.R_away HO223.out (fun _ hk => hk.2.1)))) _).trans (((cell_far (p := ⟨gb231, _, none⟩) (by first | exact Kd.own_blk (Kd.R_away HO223.out (fun _ hk => hk.2.1)) | (rw [add_block]; exact Kd.own_blk (Kd.R_away HO223.out (fun _ hk => hk.2.1))) | (show (Addr.add _ _).block ≠ _; rw [add_block]; exact Kd.own_blk (Kd.R_away HO223.out (fun _ hk => hk.2.1))) | (dsimp only; exact Kd.own_blk (Kd.R_away HO223.out (fun _ hk => hk.2.1)))) _).trans (hHeld.2.2.1)))))), ((cell_far (p := ⟨gb231, _, none⟩) (by first | exact Kd.own_blk (Kd.R_away HO223.out (fun _ hk => hk.2.1)) | (rw [add_block]; exact Kd.own_blk (Kd.R_away HO223.out (fun _ hk => hk.2.1))) | (show (Addr.add _ _).block ≠ _; rw [add_block]; exact Kd.own_blk (Kd.R_away HO223.out (fun _ hk => hk.2.1))) | (dsimp only; exact Kd.own_blk (Kd.R_away HO223.out (fun _ hk => hk.2.1)))) _).trans (((cell_far (p := ⟨gb231, _, none⟩) (by first | exact Kd.own_blk (Kd.R_away HO223.out (fun _ hk => hk.2.1)) | (rw [add_block]; exact Kd.own_blk (Kd.R_away HO223.out (fun _ hk => hk.2.1))) | (show (Addr.add _ _).block ≠ _; rw [add_block]; exact Kd.own_blk (Kd.R_away HO223.out (fun _ hk => hk.2.1))) | (dsimp only; exact Kd.own_blk (Kd.R_away HO223.out (fun _ hk => hk.2.1)))) _).trans (((cell_far (p := ⟨gb231, _, none⟩) (by first | exact Kd.own_blk (Kd.R_away HO223.out (fun _ hk => hk.2.1)) | (rw [add_block]; exact Kd.own_blk (Kd.R_away HO223.out (fun _ hk => hk.2.1))) | (show (Addr.add _ _).block ≠ _; rw [add_block]; exact Kd.own_blk (Kd.R_away HO223.out (fun _ hk => hk.2.1))) | (dsimp only; exact Kd.own_blk (Kd.R_away HO223.out (fun _ hk => hk.2.1)))) _).trans (hHeld.2.2.2.1)))))), ((cell_far (p := ⟨gb231, _, none⟩) (by first | exact Kd.own_blk (Kd.R_ne HL220_0.out BK231.out (by decide)) | (rw [add_block]; exact Kd.own_blk (Kd.R_ne HL220_0.out BK231.out (by decide))) | (show (Addr.add _ _).block ≠ _; rw [add_block]; exact Kd.own_blk (Kd.R_ne HL220_0.out BK231.out (by decide))) | (dsimp only; exact Kd.own_blk (Kd.R_ne HL220_0.out BK231.out (by decide)))) _).trans (((cell_far (p := ⟨gb231, _, none⟩) (by first | exact Kd.own_blk (Kd.R_ne HL220_0.out BK231.out (by decide)) | (rw [add_block]; exact Kd.own_blk (Kd.R_ne HL220_0.out BK231.out (by decide))) | (show (Addr.add _ _).block ≠ _; rw [add_block]; exact Kd.own_blk (Kd.R_ne HL220_0.out BK231.out (by decide))) | (dsimp only; exact Kd.own_blk (Kd.R_ne HL220_0.out BK231.out (by decide)))) _).trans (((cell_far (p := ⟨gb231, _, none⟩) (by first | exact Kd.own_blk (Kd.R_ne HL220_0.out BK231.out (by decide)) | (rw [add_block]; exact Kd.own_blk (Kd.R_ne HL220_0.out BK231.out (by decide))) | (show (Addr.add _ _).block ≠ _; rw [add_block]; exact Kd.own_blk (Kd.R_ne HL220_0.out BK231.out (by decide))) | (dsimp only; exact Kd.own_blk (Kd.R_ne HL220_0.out BK231.out (by decide)))) _).trans (hHeld.2.2.2.2.1)))))), ((cell_far (p := ⟨gb231, _, none⟩) (by first | exact Kd.own_blk (Kd.R_away HO223.out (fun _ hk => hk.2.1)) | (rw [add_block]; exact Kd.own_blk (Kd.R_away HO223.out (fun _ hk => hk.2.1))) | (show (Addr.add _ _).block ≠ _; rw [add_block]; exact Kd.own_blk (Kd.R_away HO223.out (fun _ hk => hk.2.1))) | (dsimp only; exact Kd.own_blk (Kd.R_away HO223.out (fun _ hk => hk.2.1)))) _).trans (((cell_far (p := ⟨gb231, _, none⟩) (by first | exact Kd.own_blk (Kd.R_away HO223.out (fun _ hk => hk.2.1)) | (rw [add_block]; exact Kd.own_blk (Kd.R_away HO223.out (fun _ hk => hk.2.1))) | (show (Addr.add _ _).block ≠ _; rw [add_block]; exact Kd.own_blk (Kd.R_away HO223.out (fun _ hk => hk.2.1))) | (dsimp only; exact Kd.own_blk (Kd.R_away HO223.out (fun _ hk => hk.2.1)))) _).trans (((cell_far (p := ⟨gb231, _, none⟩) (by first | exact Kd.own_blk (Kd.R_away HO223.out (fun _ hk => hk.2.1)) | (rw [add_block]; exact Kd.own_blk (Kd.R_away HO223.out (fun _ hk => hk.2.1))) | (show (Addr.add _ _).block ≠ _; rw [add_block]; exact Kd.own_blk (Kd.R_away HO223.out (fun _ hk => hk.2.1))) | (dsimp only; exact Kd.own_blk (Kd.R_away HO223.out (fun _ hk => hk.2.1)))) _).trans (hHeld.2.2.2.2.2.1)))))), ((cell_far (p := ⟨gb231, _, none⟩) (by first | exact Kd.own_blk (Kd.R_away HO223.out (fun _ hk => hk.2.1)) | (rw [add_block]; exact Kd.own_blk (Kd.R_away HO223.out (fun _ hk => hk.2.1))) | (show (Addr.add _ _).block ≠ _; rw [add_block]; exact Kd.own_blk (Kd.R_away HO223.out (fun _ hk => hk.2.1))) | (dsimp only; exact Kd.own_blk (Kd.R_away HO223.out (fun _ hk => hk.2.1)))) _).trans (((cell_far (p := ⟨gb231, _, none⟩) (by first | exact Kd.own_blk (Kd.R_away HO223.out (fun _ hk => hk.2.1)) | (rw [add_block]; exact Kd.own_blk (Kd.R_away HO223.out (fun _ hk => hk.2.1))) | (show (Addr.add _ _).block ≠ _; rw [add_block]; exact Kd.own_blk (Kd.R_away HO223.out (fun _ hk => hk.2.1))) | (dsimp only; exact Kd.own_blk (Kd.R_away HO223.out (fun _ hk => hk.2.1)))) _).trans (((cell_far (p := ⟨gb231, _, none⟩) (by first | exact Kd.own_blk (Kd.R_away HO223.out (fun _ hk => hk.2.1)) | (rw [add_block]; exact Kd.own_blk (Kd.R_away HO223.out (fun _ hk => hk.2.1))) | (show (Addr.add _ _).block ≠ _; rw [add_block]; exact Kd.own_blk (Kd.R_away HO223.out (fun _ hk => hk.2.1))) | (dsimp only; exact Kd.own_blk (Kd.R_away HO223.out (fun _ hk => hk.2.1)))) _).trans (hHeld.2.2.2.2.2.2.1)))))), ((cell_far (p := ⟨gb231, _, none⟩) (by first | exact Kd.own_blk (Kd.R_away HO223.out (fun _ hk => hk.2.1)) | (rw [add_block]; exact Kd.own_blk (Kd.R_away HO223.out (fun _ hk => hk.2.1))) | (show (Addr.add _ _).block ≠ _; rw [add_block]; exact Kd.own_blk (Kd.R_away HO223.out (fun _ hk => hk.2.1))) | (dsimp only; exact Kd.own_blk (Kd.R_away HO223.out (fun _ hk => hk.2.1)))) _).trans (((cell_far (p := ⟨gb231, _, none⟩) (by first | exact Kd.own_blk (Kd.R_away HO223.out (fun _ hk => hk.2.1)) | (rw [add_block]; exact Kd.own_blk (Kd.R_away HO223.out (fun _ hk => hk.2.1))) | (show (Addr.add _ _).block ≠ _; rw [add_block]; exact Kd.own_blk (Kd.R_away HO223.out (fun _ hk => hk.2.1))) | (dsimp only; exact Kd.own_blk (Kd.R_away HO223.out (fun _ hk => hk.2.1)))) _).trans (((cell_far (p := ⟨gb231, _, none⟩) (by first | exact Kd.own_blk (Kd.R_away HO223.out (fun _ hk => hk.2.1)) | (rw [add_block]; exact Kd.own_blk (Kd.R_away HO223.out (fun _ hk => hk.2.1))) | (show (Addr.add _ _).block ≠ _; rw [add_block]; exact Kd.own_blk (Kd.R_away HO223.out (fun _ hk => hk.2.1))) | (dsimp only; exact Kd.own_blk (Kd.R_away HO223.out (fun _ hk => hk.2.1)))) _).trans (hHeld.2.2.2.2.2.2.2.1)))))), ((cell_far (p := ⟨gb231, _, none⟩) (by first | exact Kd.own_blk (Kd.R_ne HL220_0.out BK231.out (by decide)) | (rw [add_block]; exact Kd.own_blk (Kd.R_ne HL220_0.out BK231.out (by decide))) | (show (Addr.add _ _).block ≠ _; rw [add_block]; exact Kd.own_blk (Kd.R_ne HL220_0.out BK231.out (by decide))) | (dsimp only; exact Kd.own_blk (Kd.R_ne HL220_0.out BK231.out (by decide)))) _).trans (((cell_far (p := ⟨gb231, _, none⟩) (by first | exact Kd.own_blk (Kd.R_ne HL220_0.out BK231.out (by decide)) | (rw [add_block]; exact Kd.own_blk (Kd.R_ne HL220_0.out BK231.out (by decide))) | (show (Addr.add _ _).block ≠ _; rw [add_block]; exact Kd.own_blk (Kd.R_ne HL220_0.out BK231.out (by decide))) | (dsimp only; exact Kd.own_blk (Kd.R_ne HL220_0.out BK231.out (by decide)))) _).trans (((cell_far (p := ⟨gb231, _, none⟩) (by first | exact Kd.own_blk (Kd.R_ne HL220_0.out BK231.out (by decide)) | (rw [add_block]; exact Kd.own_blk (Kd.R_ne HL220_0.out BK231.out (by decide))) | (show (Addr.add _ _).block ≠ _; rw [add_block]; exact Kd.own_blk (Kd.R_ne HL220_0.out BK231.out (by decide))) | (dsimp only; exact Kd.own_blk (Kd.R_ne HL220_0.out BK231.out (by decide)))) _).trans (hHeld.2.2.2.2.2.2.2.2.1)))))), ((cell_far (p := ⟨gb231, _, none⟩) (by first | exact Kd.own_blk (Kd.R_away HO223.out (fun _ hk => hk.2.1)) | (rw [add_block]; exact Kd.own_blk (Kd.R_away HO223.out (fun _ hk => hk.2.1))) | (show (Addr.add _ _).block ≠ _; rw [add_block]; exact Kd.own_blk (Kd.R_away HO223.out (fun _ hk => hk.2.1))) | (dsimp only; exact Kd.own_blk (Kd.R_away HO223.out (fun _ hk => hk.2.1)))) _).trans (((cell_far (p := ⟨gb231, _, none⟩) (by first | exact Kd.own_blk (Kd.R_away HO223.out (fun _ hk => hk.2.1)) | (rw [add_block]; exact Kd.own_blk (Kd.R_away HO223.out (fun _ hk => hk.2.1))) | (show (Addr.add _ _).block ≠ _; rw [add_block]; exact Kd.own_blk (Kd.R_away HO223.out (fun _ hk => hk.2.1))) | (dsimp only; exact Kd.own_blk (Kd.R_away HO223.out (fun _ hk => hk.2.1)))) _).trans (((cell_far (p := ⟨gb231, _, none⟩) (by first | exact Kd.own_blk (Kd.R_away HO223.out (fun _ hk => hk.2.1)) | (rw [add_block]; exact Kd.own_blk (Kd.R_away HO223.out (fun _ hk => hk.2.1))) | (show (Addr.add _ _).block ≠ _; rw [add_block]; exact Kd.own_blk (Kd.R_away HO223.out (fun _ hk => hk.2.1))) | (dsimp only; exact Kd.own_blk (Kd.R_away HO223.out (fun _ hk => hk.2.1)))) _).trans (hHeld.2.2.2.2.2.2.2.2.2.1)))))), ((cell_far (p := ⟨gb231, _, none⟩) (by first | exact Kd.own_blk (Kd.R_away HO223.out (fun _ hk => hk.2.1)) | (rw [add_block]; exact Kd.own_blk (Kd.R_away HO223.out (fun _ hk => hk.2.1))) | (show (Addr.add _ _).block ≠ _; rw [add_block]; exact Kd.own_blk (Kd.R_away HO223.out (fun _ hk => hk.2.1))) | (dsimp only; exact Kd.own_blk (Kd.R_away HO223.out (fun _ hk => hk.2.1)))) _).trans (((cell_far (p := ⟨gb231, _, none⟩) (by first | exact Kd.own_blk (Kd.R_away HO223.out (fun _ hk => hk.2.1)) | (rw [add_block]; exact Kd.own_blk (Kd.R_away HO223.out (fun _ hk => hk.2.1))) | (show (Addr.add _ _).block ≠ _; rw [add_block]; exact Kd.own_blk (Kd.R_away HO223.out (fun _ hk => hk.2.1))) | (dsimp only; exact Kd.own_blk (Kd.R_away HO223.out (fun _ hk => hk.2.1)))) _).trans (((cell_far (p := ⟨gb231, _, none⟩) (by first | exact Kd.own_blk (Kd.R_away HO223.out (fun _ hk => hk.2.1)) | (rw [add_block]; exact Kd.own_blk (Kd.R_away HO223.out (fun _ hk => hk.2.1))) | (show (Addr.add _ _).block ≠ _; rw [add_block]; exact Kd.own_blk (Kd.R_away HO223.out (fun _ hk => hk.2.1))) | (dsimp only; exact Kd.own_blk (Kd.R_away HO223.out (fun _ hk => hk.2.1)))) _).trans (hHeld.2.2.2.2.2.2.2.2.2.2.1)))))), ((cell_far (p := ⟨gb231, _, none⟩) (by first | exact Kd.own_blk (Kd.R_away HO223.out (fun _ hk => hk.2.1)) | (rw [add_block]; exact Kd.own_blk (Kd.R_away HO223.out (fun _ hk => hk.2.1))) | (show (Addr.add _ _).block ≠ _; rw [add_block]; exact Kd.own_blk (Kd.R_away HO223.out (fun _ hk => hk.2.1))) | (dsimp only; exact Kd.own_blk (Kd.R_away HO223.out (fun _ hk => hk.2.1)))) _).trans (((cell_far (p := ⟨gb231, _, none⟩) (by first | exact Kd.own_blk (Kd.R_away HO223.out (fun _ hk => hk.2.1)) | (rw [add_block]; exact Kd.own_blk (Kd.R_away HO223.out (fun _ hk => hk.2.1))) | (show (Addr.add _ _).block ≠ _; rw [add_block]; exact Kd.own_blk (Kd.R_away HO223.out (fun _ hk => hk.2.1))) | (dsimp only; exact Kd.own_blk (Kd.R_away HO223.out (fun _ hk => hk.2.1)))) _).trans (((cell_far (p := ⟨gb231, _, none⟩) (by first | exact Kd.own_blk (Kd.R_away HO223.out (fun _ hk => hk.2.1)) | (rw [add_block]; exact Kd.own_blk (Kd.R_away HO223.out (fun _ hk => hk.2.1))) | (show (Addr.add _ _).block ≠ _; rw [add_block]; exact Kd.own_blk (Kd.R_away HO223.out (fun _ hk => hk.2.1))) | (dsimp only; exact Kd.own_blk (Kd.R_away HO223.out (fun _ hk => hk.2.1)))) _).trans (hHeld.2.2.2.2.2.2.2.2.2.2.2))))))⟩ (fun hHeld => ?_)
                              clear hK K
                              refine one_ (i := 23) (N := none) #[true, true, true, true, true, true, true, true, true, true, true, true, true, true, true, true, true, true, true, true, true, true, true, true] rfl rfl (one_of HT_.out (by kernel_rfl)) (by decide) (fun K hK => ?_)
                              have hs42 : w35.cell? ⟨gb232, 0, none⟩ = some (.int .i64 0) := (blk_cell BK232.out 0).trans rfl
                              have hfs42 := blk_frozen BK232.out 0
                              have hns42_0 := NB230_232.out
                              have hns42_1 := NB231_232.out
                              have hms42_0 := NB232_230.out
                              have hms42_1 := NB232_231.out
                              have hs43 : w35.cell? ⟨gb232, 1, none⟩ = some (.int .i64 0) := (blk_cell BK232.out 1).trans rfl
                              have hfs43 := blk_frozen BK232.out 1
                              have hns43_0 := NB230_232.out
                              have hns43_1 := NB231_232.out
                              have hms43_0 := NB232_230.out
                              have hms43_1 := NB232_231.out
                              have hs44 : w35.cell? ⟨gb232, 2, none⟩ = some (.int .i64 0) := (blk_cell BK232.out 2).trans rfl
                              have hfs44 := blk_frozen BK232.out 2
                              have hns44_0 := NB230_232.out
                              have hns44_1 := NB231_232.out
                              have hms44_0 := NB232_230.out
                              have hms44_1 := NB232_231.out
                              refine skip_ (w1 := ?_) (by rfl) rfl ?_ ?_
                              rotate_left
                              · go_simp
                                rfl
                              refine hK.out _ _ ⟨((cell_far (p := ⟨gb232, _, none⟩) (by first | exact Kd.own_blk (Kd.R_ne HL220_0.out BK232.out (by decide)) | (rw [add_block]; exact Kd.own_blk (Kd.R_ne HL220_0.out BK232.out (by decide))) | (show (Addr.add _ _).block ≠ _; rw [add_block]; exact Kd.own_blk (Kd.R_ne HL220_0.out BK232.out (by decide))) | (dsimp only; exact Kd.own_blk (Kd.R_ne HL220_0.out BK232.out (by decide)))) _).trans (((cell_far (p := ⟨gb232, _, none⟩) (by first | exact Kd.own_blk (Kd.R_ne HL220_0.out BK232.out (by decide)) | (rw [add_block]; exact Kd.own_blk (Kd.R_ne HL220_0.out BK232.out (by decide))) | (show (Addr.add _ _).block ≠ _; rw [add_block]; exact Kd.own_blk (Kd.R_ne HL220_0.out BK232.out (by decide))) | (dsimp only; exact Kd.own_blk (Kd.R_ne HL220_0.out BK232.out (by decide)))) _).trans (((cell_far (p := ⟨gb232, _, none⟩) (by first | exact Kd.own_blk (Kd.R_ne HL220_0.out BK232.out (by decide)) | (rw [add_block]; exact Kd.own_blk (Kd.R_ne HL220_0.out BK232.out (by decide))) | (show (Addr.add _ _).block ≠ _; rw [add_block]; exact Kd.own_blk (Kd.R_ne HL220_0.out BK232.out (by decide))) | (dsimp only; exact Kd.own_blk (Kd.R_ne HL220_0.out BK232.out (by decide)))) _).trans (hHeld.1)))))), ((cell_far (p := ⟨gb232, _, none⟩) (by first | exact Kd.own_blk (Kd.R_away HO223.out (fun _ hk => hk.2.2)) | (rw [add_block]; exact Kd.own_blk (Kd.R_away HO223.out (fun _ hk => hk.2.2))) | (show (Addr.add _ _).block ≠ _; rw [add_block]; exact Kd.own_blk (Kd.R_away HO223.out (fun _ hk => hk.2.2))) | (dsimp only; exact Kd.own_blk (Kd.R_away HO223.out (fun _ hk => hk.2.2)))) _).trans (((cell_far (p := ⟨gb232, _, none⟩) (by first | exact Kd.own_blk (Kd.R_away HO223.out (fun _ hk => hk.2.2)) | (rw [add_block]; exact Kd.own_blk (Kd.R_away HO223.out (fun _ hk => hk.2.2))) | (show (Addr.add _ _).block ≠ _; rw [add_block]; exact Kd.own_blk (Kd.R_away HO223.out (fun _ hk => hk.2.2))) | (dsimp only; exact Kd.own_blk (Kd.R_away HO223.out (fun _ hk => hk.2.2)))) _).trans (((cell_far (p := ⟨gb232, _, none⟩) (by first | exact Kd.own_blk (Kd.R_away HO223.out (fun _ hk => hk.2.2)) | (rw [add_block]; exact Kd.own_blk (Kd.R_away HO223.out (fun _ hk => hk.2.2))) | (show (Addr.add _ _).block ≠ _; rw [add_block]; exact Kd.own_blk (Kd.R_away HO223.out (fun _ hk => hk.2.2))) | (dsimp only; exact Kd.own_blk (Kd.R_away HO223.out (fun _ hk => hk.2.2)))) _).trans (hHeld.2.1)))))), ((cell_far (p := ⟨gb232, _, none⟩) (by first | exact Kd.own_blk (Kd.R_away HO223.out (fun _ hk => hk.2.2)) | (rw [add_block]; exact Kd.own_blk (Kd.R_away HO223.out (fun _ hk => hk.2.2))) | (show (Addr.add _ _).block ≠ _; rw [add_block]; exact Kd.own_blk (Kd.R_away HO223.out (fun _ hk => hk.2.2))) | (dsimp only; exact Kd.own_blk (Kd.R_away HO223.out (fun _ hk => hk.2.2)))) _).trans (((cell_far (p := ⟨gb232, _, none⟩) (by first | exact Kd.own_blk (Kd.R_away HO223.out (fun _ hk => hk.2.2)) | (rw [add_block]; exact Kd.own_blk (Kd.R_away HO223.out (fun _ hk => hk.2.2))) | (show (Addr.add _ _).block ≠ _; rw [add_block]; exact Kd.own_blk (Kd.R_away HO223.out (fun _ hk => hk.2.2))) | (dsimp only; exact Kd.own_blk (Kd.R_away HO223.out (fun _ hk => hk.2.2)))) _).trans (((cell_far (p := ⟨gb232, _, none⟩) (by first | exact Kd.own_blk (Kd.R_away HO223.out (fun _ hk => hk.2.2)) | (rw [add_block]; exact Kd.own_blk (Kd.R_away HO223.out (fun _ hk => hk.2.2))) | (show (Addr.add _ _).block ≠ _; rw [add_block]; exact Kd.own_blk (Kd.R_away HO223.out (fun _ hk => hk.2.2))) | (dsimp only; exact Kd.own_blk (Kd.R_away HO223.out (fun _ hk => hk.2.2)))) _).trans (hHeld.2.2.1)))))), ((cell_far (p := ⟨gb232, _, none⟩) (by first | exact Kd.own_blk (Kd.R_away HO223.out (fun _ hk => hk.2.2)) | (rw [add_block]; exact Kd.own_blk (Kd.R_away HO223.out (fun _ hk => hk.2.2))) | (show (Addr.add _ _).block ≠ _; rw [add_block]; exact Kd.own_blk (Kd.R_away HO223.out (fun _ hk => hk.2.2))) | (dsimp only; exact Kd.own_blk (Kd.R_away HO223.out (fun _ hk => hk.2.2)))) _).trans (((cell_far (p := ⟨gb232, _, none⟩) (by first | exact Kd.own_blk (Kd.R_away HO223.out (fun _ hk => hk.2.2)) | (rw [add_block]; exact Kd.own_blk (Kd.R_away HO223.out (fun _ hk => hk.2.2))) | (show (Addr.add _ _).block ≠ _; rw [add_block]; exact Kd.own_blk (Kd.R_away HO223.out (fun _ hk => hk.2.2))) | (dsimp only; exact Kd.own_blk (Kd.R_away HO223.out (fun _ hk => hk.2.2)))) _).trans (((cell_far (p := ⟨gb232, _, none⟩) (by first | exact Kd.own_blk (Kd.R_away HO223.out (fun _ hk => hk.2.2)) | (rw [add_block]; exact Kd.own_blk (Kd.R_away HO223.out (fun _ hk => hk.2.2))) | (show (Addr.add _ _).block ≠ _; rw [add_block]; exact Kd.own_blk (Kd.R_away HO223.out (fun _ hk => hk.2.2))) | (dsimp only; exact Kd.own_blk (Kd.R_away HO223.out (fun _ hk => hk.2.2)))) _).trans (hHeld.2.2.2.1)))))), ((cell_far (p := ⟨gb232, _, none⟩) (by first | exact Kd.own_blk (Kd.R_ne HL220_0.out BK232.out (by decide)) | (rw [add_block]; exact Kd.own_blk (Kd.R_ne HL220_0.out BK232.out (by decide))) | (show (Addr.add _ _).block ≠ _; rw [add_block]; exact Kd.own_blk (Kd.R_ne HL220_0.out BK232.out (by decide))) | (dsimp only; exact Kd.own_blk (Kd.R_ne HL220_0.out BK232.out (by decide)))) _).trans (((cell_far (p := ⟨gb232, _, none⟩) (by first | exact Kd.own_blk (Kd.R_ne HL220_0.out BK232.out (by decide)) | (rw [add_block]; exact Kd.own_blk (Kd.R_ne HL220_0.out BK232.out (by decide))) | (show (Addr.add _ _).block ≠ _; rw [add_block]; exact Kd.own_blk (Kd.R_ne HL220_0.out BK232.out (by decide))) | (dsimp only; exact Kd.own_blk (Kd.R_ne HL220_0.out BK232.out (by decide)))) _).trans (((cell_far (p := ⟨gb232, _, none⟩) (by first | exact Kd.own_blk (Kd.R_ne HL220_0.out BK232.out (by decide)) | (rw [add_block]; exact Kd.own_blk (Kd.R_ne HL220_0.out BK232.out (by decide))) | (show (Addr.add _ _).block ≠ _; rw [add_block]; exact Kd.own_blk (Kd.R_ne HL220_0.out BK232.out (by decide))) | (dsimp only; exact Kd.own_blk (Kd.R_ne HL220_0.out BK232.out (by decide)))) _).trans (hHeld.2.2.2.2.1)))))), ((cell_far (p := ⟨gb232, _, none⟩) (by first | exact Kd.own_blk (Kd.R_away HO223.out (fun _ hk => hk.2.2)) | (rw [add_block]; exact Kd.own_blk (Kd.R_away HO223.out (fun _ hk => hk.2.2))) | (show (Addr.add _ _).block ≠ _; rw [add_block]; exact Kd.own_blk (Kd.R_away HO223.out (fun _ hk => hk.2.2))) | (dsimp only; exact Kd.own_blk (Kd.R_away HO223.out (fun _ hk => hk.2.2)))) _).trans (((cell_far (p := ⟨gb232, _, none⟩) (by first | exact Kd.own_blk (Kd.R_away HO223.out (fun _ hk => hk.2.2)) | (rw [add_block]; exact Kd.own_blk (Kd.R_away HO223.out (fun _ hk => hk.2.2))) | (show (Addr.add _ _).block ≠ _; rw [add_block]; exact Kd.own_blk (Kd.R_away HO223.out (fun _ hk => hk.2.2))) | (dsimp only; exact Kd.own_blk (Kd.R_away HO223.out (fun _ hk => hk.2.2)))) _).trans (((cell_far (p := ⟨gb232, _, none⟩) (by first | exact Kd.own_blk (Kd.R_away HO223.out (fun _ hk => hk.2.2)) | (rw [add_block]; exact Kd.own_blk (Kd.R_away HO223.out (fun _ hk => hk.2.2))) | (show (Addr.add _ _).block ≠ _; rw [add_block]; exact Kd.own_blk (Kd.R_away HO223.out (fun _ hk => hk.2.2))) | (dsimp only; exact Kd.own_blk (Kd.R_away HO223.out (fun _ hk => hk.2.2)))) _).trans (hHeld.2.2.2.2.2.1)))))), ((cell_far (p := ⟨gb232, _, none⟩) (by first | exact Kd.own_blk (Kd.R_away HO223.out (fun _ hk => hk.2.2)) | (rw [add_block]; exact Kd.own_blk (Kd.R_away HO223.out (fun _ hk => hk.2.2))) | (show (Addr.add _ _).block ≠ _; rw [add_block]; exact Kd.own_blk (Kd.R_away HO223.out (fun _ hk => hk.2.2))) | (dsimp only; exact Kd.own_blk (Kd.R_away HO223.out (fun _ hk => hk.2.2)))) _).trans (((cell_far (p := ⟨gb232, _, none⟩) (by first | exact Kd.own_blk (Kd.R_away HO223.out (fun _ hk => hk.2.2)) | (rw [add_block]; exact Kd.own_blk (Kd.R_away HO223.out (fun _ hk => hk.2.2))) | (show (Addr.add _ _).block ≠ _; rw [add_block]; exact Kd.own_blk (Kd.R_away HO223.out (fun _ hk => hk.2.2))) | (dsimp only; exact Kd.own_blk (Kd.R_away HO223.out (fun _ hk => hk.2.2)))) _).trans (((cell_far (p := ⟨gb232, _, none⟩) (by first | exact Kd.own_blk (Kd.R_away HO223.out (fun _ hk => hk.2.2)) | (rw [add_block]; exact Kd.own_blk (Kd.R_away HO223.out (fun _ hk => hk.2.2))) | (show (Addr.add _ _).block ≠ _; rw [add_block]; exact Kd.own_blk (Kd.R_away HO223.out (fun _ hk => hk.2.2))) | (dsimp only; exact Kd.own_blk (Kd.R_away HO223.out (fun _ hk => hk.2.2)))) _).trans (hHeld.2.2.2.2.2.2.1)))))), ((cell_far (p := ⟨gb232, _, none⟩) (by first | exact Kd.own_blk (Kd.R_away HO223.out (fun _ hk => hk.2.2)) | (rw [add_block]; exact Kd.own_blk (Kd.R_away HO223.out (fun _ hk => hk.2.2))) | (show (Addr.add _ _).block ≠ _; rw [add_block]; exact Kd.own_blk (Kd.R_away HO223.out (fun _ hk => hk.2.2))) | (dsimp only; exact Kd.own_blk (Kd.R_away HO223.out (fun _ hk => hk.2.2)))) _).trans (((cell_far (p := ⟨gb232, _, none⟩) (by first | exact Kd.own_blk (Kd.R_away HO223.out (fun _ hk => hk.2.2)) | (rw [add_block]; exact Kd.own_blk (Kd.R_away HO223.out (fun _ hk => hk.2.2))) | (show (Addr.add _ _).block ≠ _; rw [add_block]; exact Kd.own_blk (Kd.R_away HO223.out (fun _ hk => hk.2.2))) | (dsimp only; exact Kd.own_blk (Kd.R_away HO223.out (fun _ hk => hk.2.2)))) _).trans (((cell_far (p := ⟨gb232, _, none⟩) (by first | exact Kd.own_blk (Kd.R_away HO223.out (fun _ hk => hk.2.2)) | (rw [add_block]; exact Kd.own_blk (Kd.R_away HO223.out (fun _ hk => hk.2.2))) | (show (Addr.add _ _).block ≠ _; rw [add_block]; exact Kd.own_blk (Kd.R_away HO223.out (fun _ hk => hk.2.2))) | (dsimp only; exact Kd.own_blk (Kd.R_away HO223.out (fun _ hk => hk.2.2)))) _).trans (hHeld.2.2.2.2.2.2.2.1)))))), ((cell_far (p := ⟨gb232, _, none⟩) (by first | exact Kd.own_blk (Kd.R_ne HL220_0.out BK232.out (by decide)) | (rw [add_block]; exact Kd.own_blk (Kd.R_ne HL220_0.out BK232.out (by decide))) | (show (Addr.add _ _).block ≠ _; rw [add_block]; exact Kd.own_blk (Kd.R_ne HL220_0.out BK232.out (by decide))) | (dsimp only; exact Kd.own_blk (Kd.R_ne HL220_0.out BK232.out (by decide)))) _).trans (((cell_far (p := ⟨gb232, _, none⟩) (by first | exact Kd.own_blk (Kd.R_ne HL220_0.out BK232.out (by decide)) | (rw [add_block]; exact Kd.own_blk (Kd.R_ne HL220_0.out BK232.out (by decide))) | (show (Addr.add _ _).block ≠ _; rw [add_block]; exact Kd.own_blk (Kd.R_ne HL220_0.out BK232.out (by decide))) | (dsimp only; exact Kd.own_blk (Kd.R_ne HL220_0.out BK232.out (by decide)))) _).trans (((cell_far (p := ⟨gb232, _, none⟩) (by first | exact Kd.own_blk (Kd.R_ne HL220_0.out BK232.out (by decide)) | (rw [add_block]; exact Kd.own_blk (Kd.R_ne HL220_0.out BK232.out (by decide))) | (show (Addr.add _ _).block ≠ _; rw [add_block]; exact Kd.own_blk (Kd.R_ne HL220_0.out BK232.out (by decide))) | (dsimp only; exact Kd.own_blk (Kd.R_ne HL220_0.out BK232.out (by decide)))) _).trans (hHeld.2.2.2.2.2.2.2.2.1)))))), ((cell_far (p := ⟨gb232, _, none⟩) (by first | exact Kd.own_blk (Kd.R_away HO223.out (fun _ hk => hk.2.2)) | (rw [add_block]; exact Kd.own_blk (Kd.R_away HO223.out (fun _ hk => hk.2.2))) | (show (Addr.add _ _).block ≠ _; rw [add_block]; exact Kd.own_blk (Kd.R_away HO223.out (fun _ hk => hk.2.2))) | (dsimp only; exact Kd.own_blk (Kd.R_away HO223.out (fun _ hk => hk.2.2)))) _).trans (((cell_far (p := ⟨gb232, _, none⟩) (by first | exact Kd.own_blk (Kd.R_away HO223.out (fun _ hk => hk.2.2)) | (rw [add_block]; exact Kd.own_blk (Kd.R_away HO223.out (fun _ hk => hk.2.2))) | (show (Addr.add _ _).block ≠ _; rw [add_block]; exact Kd.own_blk (Kd.R_away HO223.out (fun _ hk => hk.2.2))) | (dsimp only; exact Kd.own_blk (Kd.R_away HO223.out (fun _ hk => hk.2.2)))) _).trans (((cell_far (p := ⟨gb232, _, none⟩) (by first | exact Kd.own_blk (Kd.R_away HO223.out (fun _ hk => hk.2.2)) | (rw [add_block]; exact Kd.own_blk (Kd.R_away HO223.out (fun _ hk => hk.2.2))) | (show (Addr.add _ _).block ≠ _; rw [add_block]; exact Kd.own_blk (Kd.R_away HO223.out (fun _ hk => hk.2.2))) | (dsimp only; exact Kd.own_blk (Kd.R_away HO223.out (fun _ hk => hk.2.2)))) _).trans (hHeld.2.2.2.2.2.2.2.2.2.1)))))), ((cell_far (p := ⟨gb232, _, none⟩) (by first | exact Kd.own_blk (Kd.R_away HO223.out (fun _ hk => hk.2.2)) | (rw [add_block]; exact Kd.own_blk (Kd.R_away HO223.out (fun _ hk => hk.2.2))) | (show (Addr.add _ _).block ≠ _; rw [add_block]; exact Kd.own_blk (Kd.R_away HO223.out (fun _ hk => hk.2.2))) | (dsimp only; exact Kd.own_blk (Kd.R_away HO223.out (fun _ hk => hk.2.2)))) _).trans (((cell_far (p := ⟨gb232, _, none⟩) (by first | exact Kd.own_blk (Kd.R_away HO223.out (fun _ hk => hk.2.2)) | (rw [add_block]; exact Kd.own_blk (Kd.R_away HO223.out (fun _ hk => hk.2.2))) | (show (Addr.add _ _).block ≠ _; rw [add_block]; exact Kd.own_blk (Kd.R_away HO223.out (fun _ hk => hk.2.2))) | (dsimp only; exact Kd.own_blk (Kd.R_away HO223.out (fun _ hk => hk.2.2)))) _).trans (((cell_far (p := ⟨gb232, _, none⟩) (by first | exact Kd.own_blk (Kd.R_away HO223.out (fun _ hk => hk.2.2)) | (rw [add_block]; exact Kd.own_blk (Kd.R_away HO223.out (fun _ hk => hk.2.2))) | (show (Addr.add _ _).block ≠ _; rw [add_block]; exact Kd.own_blk (Kd.R_away HO223.out (fun _ hk => hk.2.2))) | (dsimp only; exact Kd.own_blk (Kd.R_away HO223.out (fun _ hk => hk.2.2)))) _).trans (hHeld.2.2.2.2.2.2.2.2.2.2.1)))))), ((cell_far (p := ⟨gb232, _, none⟩) (by first | exact Kd.own_blk (Kd.R_away HO223.out (fun _ hk => hk.2.2)) | (rw [add_block]; exact Kd.own_blk (Kd.R_away HO223.out (fun _ hk => hk.2.2))) | (show (Addr.add _ _).block ≠ _; rw [add_block]; exact Kd.own_blk (Kd.R_away HO223.out (fun _ hk => hk.2.2))) | (dsimp only; exact Kd.own_blk (Kd.R_away HO223.out (fun _ hk => hk.2.2)))) _).trans (((cell_far (p := ⟨gb232, _, none⟩) (by first | exact Kd.own_blk (Kd.R_away HO223.out (fun _ hk => hk.2.2)) | (rw [add_block]; exact Kd.own_blk (Kd.R_away HO223.out (fun _ hk => hk.2.2))) | (show (Addr.add _ _).block ≠ _; rw [add_block]; exact Kd.own_blk (Kd.R_away HO223.out (fun _ hk => hk.2.2))) | (dsimp only; exact Kd.own_blk (Kd.R_away HO223.out (fun _ hk => hk.2.2)))) _).trans (((cell_far (p := ⟨gb232, _, none⟩) (by first | exact Kd.own_blk (Kd.R_away HO223.out (fun _ hk => hk.2.2)) | (rw [add_block]; exact Kd.own_blk (Kd.R_away HO223.out (fun _ hk => hk.2.2))) | (show (Addr.add _ _).block ≠ _; rw [add_block]; exact Kd.own_blk (Kd.R_away HO223.out (fun _ hk => hk.2.2))) | (dsimp only; exact Kd.own_blk (Kd.R_away HO223.out (fun _ hk => hk.2.2)))) _).trans (hHeld.2.2.2.2.2.2.2.2.2.2.2))))))⟩ (fun hHeld => ?_)
                              clear hK K
                              refine done_ (done_of HT_.out (by kernel_rfl)) ?_
                              try go_wp2
                              have n0_ : Aside0 (Kd.S (Kd.slice 3 (Kd.int .i64)) 27 (((((((((w35.setCell ⟨gb230, 0, none⟩ (.int .i64 ((rd_T60 t221 (rd (rd_L1 t217 a1) 0)).f0))).setCell ⟨gb230, 1, none⟩ (.int .i64 ((rd_T60 t221 (rd (rd_L1 t217 a1) 0)).f1))).setCell ⟨gb230, 2, none⟩ (.int .i64 ((rd_T60 t221 (rd (rd_L1 t217 a1) 0)).f2))).setCell ⟨gb231, 0, none⟩ (.int .i64 ((rd_T60 t221 (rd (rd_L1 t217 a1) 1)).f0))).setCell ⟨gb231, 1, none⟩ (.int .i64 ((rd_T60 t221 (rd (rd_L1 t217 a1) 1)).f1))).setCell ⟨gb231, 2, none⟩ (.int .i64 ((rd_T60 t221 (rd (rd_L1 t217 a1) 1)).f2))).setCell ⟨gb232, 0, none⟩ (.int .i64 ((rd_T60 t221 (rd (rd_L1 t217 a1) 2)).f0))).setCell ⟨gb232, 1, none⟩ (.int .i64 ((rd_T60 t221 (rd (rd_L1 t217 a1) 2)).f1))).setCell ⟨gb232, 2, none⟩ (.int .i64 ((rd_T60 t221 (rd (rd_L1 t217 a1) 2)).f2))) w.heap.size (fun _ => True) (.slice (some ad220) t217.length co28) t217) := ⟨by (with_reducible repeat (first | apply Kd.S_alloc | apply Kd.S_drewN | apply Kd.S_drew)); exact Kd.S_mono (Kd.S_far (p := ⟨gb232, 2, none⟩) (Kd.S_far (p := ⟨gb232, 1, none⟩) (Kd.S_far (p := ⟨gb232, 0, none⟩) (Kd.S_far (p := ⟨gb231, 2, none⟩) (Kd.S_far (p := ⟨gb231, 1, none⟩) (Kd.S_far (p := ⟨gb231, 0, none⟩) (Kd.S_far (p := ⟨gb230, 2, none⟩) (Kd.S_far (p := ⟨gb230, 1, none⟩) (Kd.S_far (p := ⟨gb230, 0, none⟩) (Kd.S_types (Kd.S_types (Kd.S_types HO219.out BK230.out (by decide)) BK231.out (by decide)) BK232.out (by decide)) (fun _ hk => hk.1.1.2) (.int .i64 ((rd_T60 t221 (rd (rd_L1 t217 a1) 0)).f0))) (fun _ hk => hk.1.1.2) (.int .i64 ((rd_T60 t221 (rd (rd_L1 t217 a1) 0)).f1))) (fun _ hk => hk.1.1.2) (.int .i64 ((rd_T60 t221 (rd (rd_L1 t217 a1) 0)).f2))) (fun _ hk => hk.1.2) (.int .i64 ((rd_T60 t221 (rd (rd_L1 t217 a1) 1)).f0))) (fun _ hk => hk.1.2) (.int .i64 ((rd_T60 t221 (rd (rd_L1 t217 a1) 1)).f1))) (fun _ hk => hk.1.2) (.int .i64 ((rd_T60 t221 (rd (rd_L1 t217 a1) 1)).f2))) (fun _ hk => hk.2) (.int .i64 ((rd_T60 t221 (rd (rd_L1 t217 a1) 2)).f0))) (fun _ hk => hk.2) (.int .i64 ((rd_T60 t221 (rd (rd_L1 t217 a1) 2)).f1))) (fun _ hk => hk.2) (.int .i64 ((rd_T60 t221 (rd (rd_L1 t217 a1) 2)).f2))) (fun _ hk => trivial)⟩
                              have n1_ : Aside0 (Kd.R (Kd.int .i64) 3 (((((((((w35.setCell ⟨gb230, 0, none⟩ (.int .i64 ((rd_T60 t221 (rd (rd_L1 t217 a1) 0)).f0))).setCell ⟨gb230, 1, none⟩ (.int .i64 ((rd_T60 t221 (rd (rd_L1 t217 a1) 0)).f1))).setCell ⟨gb230, 2, none⟩ (.int .i64 ((rd_T60 t221 (rd (rd_L1 t217 a1) 0)).f2))).setCell ⟨gb231, 0, none⟩ (.int .i64 ((rd_T60 t221 (rd (rd_L1 t217 a1) 1)).f0))).setCell ⟨gb231, 1, none⟩ (.int .i64 ((rd_T60 t221 (rd (rd_L1 t217 a1) 1)).f1))).setCell ⟨gb231, 2, none⟩ (.int .i64 ((rd_T60 t221 (rd (rd_L1 t217 a1) 1)).f2))).setCell ⟨gb232, 0, none⟩ (.int .i64 ((rd_T60 t221 (rd (rd_L1 t217 a1) 2)).f0))).setCell ⟨gb232, 1, none⟩ (.int .i64 ((rd_T60 t221 (rd (rd_L1 t217 a1) 2)).f1))).setCell ⟨gb232, 2, none⟩ (.int .i64 ((rd_T60 t221 (rd (rd_L1 t217 a1) 2)).f2))) w.heap.size (fun k_ => some k_ ≠ (.slice (some ad220) t217.length co28 : Value).ownBlock) (.slice (some ad224) (rd_L1 t217 a1).length c220_0) (rd_L1 t217 a1)) := ⟨by (with_reducible repeat (first | apply Kd.R_alloc | apply Kd.R_drewN | apply Kd.R_drew)); exact Kd.R_mono (Kd.R_far (p := ⟨gb232, 2, none⟩) (Kd.R_far (p := ⟨gb232, 1, none⟩) (Kd.R_far (p := ⟨gb232, 0, none⟩) (Kd.R_far (p := ⟨gb231, 2, none⟩) (Kd.R_far (p := ⟨gb231, 1, none⟩) (Kd.R_far (p := ⟨gb231, 0, none⟩) (Kd.R_far (p := ⟨gb230, 2, none⟩) (Kd.R_far (p := ⟨gb230, 1, none⟩) (Kd.R_far (p := ⟨gb230, 0, none⟩) (Kd.R_types (Kd.R_types (Kd.R_types HL220_0.out BK230.out (by decide)) BK231.out (by decide)) BK232.out (by decide)) (fun _ hk => hk.1.1.2) (.int .i64 ((rd_T60 t221 (rd (rd_L1 t217 a1) 0)).f0))) (fun _ hk => hk.1.1.2) (.int .i64 ((rd_T60 t221 (rd (rd_L1 t217 a1) 0)).f1))) (fun _ hk => hk.1.1.2) (.int .i64 ((rd_T60 t221 (rd (rd_L1 t217 a1) 0)).f2))) (fun _ hk => hk.1.2) (.int .i64 ((rd_T60 t221 (rd (rd_L1 t217 a1) 1)).f0))) (fun _ hk => hk.1.2) (.int .i64 ((rd_T60 t221 (rd (rd_L1 t217 a1) 1)).f1))) (fun _ hk => hk.1.2) (.int .i64 ((rd_T60 t221 (rd (rd_L1 t217 a1) 1)).f2))) (fun _ hk => hk.2) (.int .i64 ((rd_T60 t221 (rd (rd_L1 t217 a1) 2)).f0))) (fun _ hk => hk.2) (.int .i64 ((rd_T60 t221 (rd (rd_L1 t217 a1) 2)).f1))) (fun _ hk => hk.2) (.int .i64 ((rd_T60 t221 (rd (rd_L1 t217 a1) 2)).f2))) (fun _ hk => hk.1.1.1)⟩
                              have n2_ : Aside0 (Kd.R k60 60 (((((((((w35.setCell ⟨gb230, 0, none⟩ (.int .i64 ((rd_T60 t221 (rd (rd_L1 t217 a1) 0)).f0))).setCell ⟨gb230, 1, none⟩ (.int .i64 ((rd_T60 t221 (rd (rd_L1 t217 a1) 0)).f1))).setCell ⟨gb230, 2, none⟩ (.int .i64 ((rd_T60 t221 (rd (rd_L1 t217 a1) 0)).f2))).setCell ⟨gb231, 0, none⟩ (.int .i64 ((rd_T60 t221 (rd (rd_L1 t217 a1) 1)).f0))).setCell ⟨gb231, 1, none⟩ (.int .i64 ((rd_T60 t221 (rd (rd_L1 t217 a1) 1)).f1))).setCell ⟨gb231, 2, none⟩ (.int .i64 ((rd_T60 t221 (rd (rd_L1 t217 a1) 1)).f2))).setCell ⟨gb232, 0, none⟩ (.int .i64 ((rd_T60 t221 (rd (rd_L1 t217 a1) 2)).f0))).setCell ⟨gb232, 1, none⟩ (.int .i64 ((rd_T60 t221 (rd (rd_L1 t217 a1) 2)).f1))).setCell ⟨gb232, 2, none⟩ (.int .i64 ((rd_T60 t221 (rd (rd_L1 t217 a1) 2)).f2))) w.heap.size (fun k_ => k_ ≠ gb230 ∧ k_ ≠ gb231 ∧ k_ ≠ gb232) (.slice (some ad225) t221.length co31) t221) := ⟨by (with_reducible repeat (first | apply Kd.R_alloc | apply Kd.R_drewN | apply Kd.R_drew)); exact Kd.R_mono (Kd.R_far (p := ⟨gb232, 2, none⟩) (Kd.R_far (p := ⟨gb232, 1, none⟩) (Kd.R_far (p := ⟨gb232, 0, none⟩) (Kd.R_far (p := ⟨gb231, 2, none⟩) (Kd.R_far (p := ⟨gb231, 1, none⟩) (Kd.R_far (p := ⟨gb231, 0, none⟩) (Kd.R_far (p := ⟨gb230, 2, none⟩) (Kd.R_far (p := ⟨gb230, 1, none⟩) (Kd.R_far (p := ⟨gb230, 0, none⟩) (Kd.R_mono (Kd.R_mono (Kd.R_mono HO223.out (fun k_ hk => (⟨hk, hk.1⟩ : _ ∧ k_ ≠ gb230))) (fun k_ hk => (⟨hk, hk.1.2.1⟩ : _ ∧ k_ ≠ gb231))) (fun k_ hk => (⟨hk, hk.1.1.2.2⟩ : _ ∧ k_ ≠ gb232))) (fun _ hk => hk.1.1.2) (.int .i64 ((rd_T60 t221 (rd (rd_L1 t217 a1) 0)).f0))) (fun _ hk => hk.1.1.2) (.int .i64 ((rd_T60 t221 (rd (rd_L1 t217 a1) 0)).f1))) (fun _ hk => hk.1.1.2) (.int .i64 ((rd_T60 t221 (rd (rd_L1 t217 a1) 0)).f2))) (fun _ hk => hk.1.2) (.int .i64 ((rd_T60 t221 (rd (rd_L1 t217 a1) 1)).f0))) (fun _ hk => hk.1.2) (.int .i64 ((rd_T60 t221 (rd (rd_L1 t217 a1) 1)).f1))) (fun _ hk => hk.1.2) (.int .i64 ((rd_T60 t221 (rd (rd_L1 t217 a1) 1)).f2))) (fun _ hk => hk.2) (.int .i64 ((rd_T60 t221 (rd (rd_L1 t217 a1) 2)).f0))) (fun _ hk => hk.2) (.int .i64 ((rd_T60 t221 (rd (rd_L1 t217 a1) 2)).f1))) (fun _ hk => hk.2) (.int .i64 ((rd_T60 t221 (rd (rd_L1 t217 a1) 2)).f2))) (fun _ hk => ⟨hk.1.1.1.1, ⟨hk.1.1.1.2.1, hk.1.1.1.2.2⟩⟩)⟩
                              have n3_ : Aside0 ((((((((((w35.setCell ⟨gb230, 0, none⟩ (.int .i64 ((rd_T60 t221 (rd (rd_L1 t217 a1) 0)).f0))).setCell ⟨gb230, 1, none⟩ (.int .i64 ((rd_T60 t221 (rd (rd_L1 t217 a1) 0)).f1))).setCell ⟨gb230, 2, none⟩ (.int .i64 ((rd_T60 t221 (rd (rd_L1 t217 a1) 0)).f2))).setCell ⟨gb231, 0, none⟩ (.int .i64 ((rd_T60 t221 (rd (rd_L1 t217 a1) 1)).f0))).setCell ⟨gb231, 1, none⟩ (.int .i64 ((rd_T60 t221 (rd (rd_L1 t217 a1) 1)).f1))).setCell ⟨gb231, 2, none⟩ (.int .i64 ((rd_T60 t221 (rd (rd_L1 t217 a1) 1)).f2))).setCell ⟨gb232, 0, none⟩ (.int .i64 ((rd_T60 t221 (rd (rd_L1 t217 a1) 2)).f0))).setCell ⟨gb232, 1, none⟩ (.int .i64 ((rd_T60 t221 (rd (rd_L1 t217 a1) 2)).f1))).setCell ⟨gb232, 2, none⟩ (.int .i64 ((rd_T60 t221 (rd (rd_L1 t217 a1) 2)).f2))).heap[gb230]? = some (.cells #[.int .i64 ((rd_T60 t221 (rd (rd_L1 t217 a1) 0)).f0), .int .i64 ((rd_T60 t221 (rd (rd_L1 t217 a1) 0)).f1), .int .i64 ((rd_T60 t221 (rd (rd_L1 t217 a1) 0)).f2)] 60 (0, 0))) := ⟨by (with_reducible repeat (first | refine blk_drewN ?_ _ | refine blk_drew ?_ | refine blk_alloc ?_ _)); refine blk_far ?_ NB230_232.out _; (with_reducible repeat (first | refine blk_drewN ?_ _ | refine blk_drew ?_ | refine blk_alloc ?_ _)); refine blk_far ?_ NB230_232.out _; (with_reducible repeat (first | refine blk_drewN ?_ _ | refine blk_drew ?_ | refine blk_alloc ?_ _)); refine blk_far ?_ NB230_232.out _; (with_reducible repeat (first | refine blk_drewN ?_ _ | refine blk_drew ?_ | refine blk_alloc ?_ _)); refine blk_far ?_ NB230_231.out _; (with_reducible repeat (first | refine blk_drewN ?_ _ | refine blk_drew ?_ | refine blk_alloc ?_ _)); refine blk_far ?_ NB230_231.out _; (with_reducible repeat (first | refine blk_drewN ?_ _ | refine blk_drew ?_ | refine blk_alloc ?_ _)); refine blk_far ?_ NB230_231.out _; (with_reducible repeat (first | refine blk_drewN ?_ _ | refine blk_drew ?_ | refine blk_alloc ?_ _)); refine blk_put (cs := #[.int .i64 ((rd_T60 t221 (rd (rd_L1 t217 a1) 0)).f0), .int .i64 ((rd_T60 t221 (rd (rd_L1 t217 a1) 0)).f1), .int .i64 0]) ?_ 2 _ rfl; (with_reducible repeat (first | refine blk_drewN ?_ _ | refine blk_drew ?_ | refine blk_alloc ?_ _)); refine blk_put (cs := #[.int .i64 ((rd_T60 t221 (rd (rd_L1 t217 a1) 0)).f0), .int .i64 0, .int .i64 0]) ?_ 1 _ rfl; (with_reducible repeat (first | refine blk_drewN ?_ _ | refine blk_drew ?_ | refine blk_alloc ?_ _)); refine blk_put (cs := #[.int .i64 0, .int .i64 0, .int .i64 0]) ?_ 0 _ rfl; (with_reducible repeat (first | refine blk_drewN ?_ _ | refine blk_drew ?_ | refine blk_alloc ?_ _)); exact BK230.out⟩
                              have n4_ : Aside0 ((((((((((w35.setCell ⟨gb230, 0, none⟩ (.int .i64 ((rd_T60 t221 (rd (rd_L1 t217 a1) 0)).f0))).setCell ⟨gb230, 1, none⟩ (.int .i64 ((rd_T60 t221 (rd (rd_L1 t217 a1) 0)).f1))).setCell ⟨gb230, 2, none⟩ (.int .i64 ((rd_T60 t221 (rd (rd_L1 t217 a1) 0)).f2))).setCell ⟨gb231, 0, none⟩ (.int .i64 ((rd_T60 t221 (rd (rd_L1 t217 a1) 1)).f0))).setCell ⟨gb231, 1, none⟩ (.int .i64 ((rd_T60 t221 (rd (rd_L1 t217 a1) 1)).f1))).setCell ⟨gb231, 2, none⟩ (.int .i64 ((rd_T60 t221 (rd (rd_L1 t217 a1) 1)).f2))).setCell ⟨gb232, 0, none⟩ (.int .i64 ((rd_T60 t221 (rd (rd_L1 t217 a1) 2)).f0))).setCell ⟨gb232, 1, none⟩ (.int .i64 ((rd_T60 t221 (rd (rd_L1 t217 a1) 2)).f1))).setCell ⟨gb232, 2, none⟩ (.int .i64 ((rd_T60 t221 (rd (rd_L1 t217 a1) 2)).f2))).heap[gb231]? = some (.cells #[.int .i64 ((rd_T60 t221 (rd (rd_L1 t217 a1) 1)).f0), .int .i64 ((rd_T60 t221 (rd (rd_L1 t217 a1) 1)).f1), .int .i64 ((rd_T60 t221 (rd (rd_L1 t217 a1) 1)).f2)] 60 (0, 0))) := ⟨by (with_reducible repeat (first | refine blk_drewN ?_ _ | refine blk_drew ?_ | refine blk_alloc ?_ _)); refine blk_far ?_ NB231_232.out _; (with_reducible repeat (first | refine blk_drewN ?_ _ | refine blk_drew ?_ | refine blk_alloc ?_ _)); refine blk_far ?_ NB231_232.out _; (with_reducible repeat (first | refine blk_drewN ?_ _ | refine blk_drew ?_ | refine blk_alloc ?_ _)); refine blk_far ?_ NB231_232.out _; (with_reducible repeat (first | refine blk_drewN ?_ _ | refine blk_drew ?_ | refine blk_alloc ?_ _)); refine blk_put (cs := #[.int .i64 ((rd_T60 t221 (rd (rd_L1 t217 a1) 1)).f0), .int .i64 ((rd_T60 t221 (rd (rd_L1 t217 a1) 1)).f1), .int .i64 0]) ?_ 2 _ rfl; (with_reducible repeat (first | refine blk_drewN ?_ _ | refine blk_drew ?_ | refine blk_alloc ?_ _)); refine blk_put (cs := #[.int .i64 ((rd_T60 t221 (rd (rd_L1 t217 a1) 1)).f0), .int .i64 0, .int .i64 0]) ?_ 1 _ rfl; (with_reducible repeat (first | refine blk_drewN ?_ _ | refine blk_drew ?_ | refine blk_alloc ?_ _)); refine blk_put (cs := #[.int .i64 0, .int .i64 0, .int .i64 0]) ?_ 0 _ rfl; (with_reducible repeat (first | refine blk_drewN ?_ _ | refine blk_drew ?_ | refine blk_alloc ?_ _)); refine blk_far ?_ NB231_230.out _; (with_reducible repeat (first | refine blk_drewN ?_ _ | refine blk_drew ?_ | refine blk_alloc ?_ _)); refine blk_far ?_ NB231_230.out _; (with_reducible repeat (first | refine blk_drewN ?_ _ | refine blk_drew ?_ | refine blk_alloc ?_ _)); refine blk_far ?_ NB231_230.out _; (with_reducible repeat (first | refine blk_drewN ?_ _ | refine blk_drew ?_ | refine blk_alloc ?_ _)); exact BK231.out⟩
                              have n5_ : Aside0 ((((((((((w35.setCell ⟨gb230, 0, none⟩ (.int .i64 ((rd_T60 t221 (rd (rd_L1 t217 a1) 0)).f0))).setCell ⟨gb230, 1, none⟩ (.int .i64 ((rd_T60 t221 (rd (rd_L1 t217 a1) 0)).f1))).setCell ⟨gb230, 2, none⟩ (.int .i64 ((rd_T60 t221 (rd (rd_L1 t217 a1) 0)).f2))).setCell ⟨gb231, 0, none⟩ (.int .i64 ((rd_T60 t221 (rd (rd_L1 t217 a1) 1)).f0))).setCell ⟨gb231, 1, none⟩ (.int .i64 ((rd_T60 t221 (rd (rd_L1 t217 a1) 1)).f1))).setCell ⟨gb231, 2, none⟩ (.int .i64 ((rd_T60 t221 (rd (rd_L1 t217 a1) 1)).f2))).setCell ⟨gb232, 0, none⟩ (.int .i64 ((rd_T60 t221 (rd (rd_L1 t217 a1) 2)).f0))).setCell ⟨gb232, 1, none⟩ (.int .i64 ((rd_T60 t221 (rd (rd_L1 t217 a1) 2)).f1))).setCell ⟨gb232, 2, none⟩ (.int .i64 ((rd_T60 t221 (rd (rd_L1 t217 a1) 2)).f2))).heap[gb232]? = some (.cells #[.int .i64 ((rd_T60 t221 (rd (rd_L1 t217 a1) 2)).f0), .int .i64 ((rd_T60 t221 (rd (rd_L1 t217 a1) 2)).f1), .int .i64 ((rd_T60 t221 (rd (rd_L1 t217 a1) 2)).f2)] 60 (0, 0))) := ⟨by (with_reducible repeat (first | refine blk_drewN ?_ _ | refine blk_drew ?_ | refine blk_alloc ?_ _)); refine blk_put (cs := #[.int .i64 ((rd_T60 t221 (rd (rd_L1 t217 a1) 2)).f0), .int .i64 ((rd_T60 t221 (rd (rd_L1 t217 a1) 2)).f1), .int .i64 0]) ?_ 2 _ rfl; (with_reducible repeat (first | refine blk_drewN ?_ _ | refine blk_drew ?_ | refine blk_alloc ?_ _)); refine blk_put (cs := #[.int .i64 ((rd_T60 t221 (rd (rd_L1 t217 a1) 2)).f0), .int .i64 0, .int .i64 0]) ?_ 1 _ rfl; (with_reducible repeat (first | refine blk_drewN ?_ _ | refine blk_drew ?_ | refine blk_alloc ?_ _)); refine blk_put (cs := #[.int .i64 0, .int .i64 0, .int .i64 0]) ?_ 0 _ rfl; (with_reducible repeat (first | refine blk_drewN ?_ _ | refine blk_drew ?_ | refine blk_alloc ?_ _)); refine blk_far ?_ NB232_231.out _; (with_reducible repeat (first | refine blk_drewN ?_ _ | refine blk_drew ?_ | refine blk_alloc ?_ _)); refine blk_far ?_ NB232_231.out _; (with_reducible repeat (first | refine blk_drewN ?_ _ | refine blk_drew ?_ | refine blk_alloc ?_ _)); refine blk_far ?_ NB232_231.out _; (with_reducible repeat (first | refine blk_drewN ?_ _ | refine blk_drew ?_ | refine blk_alloc ?_ _)); refine blk_far ?_ NB232_230.out _; (with_reducible repeat (first | refine blk_drewN ?_ _ | refine blk_drew ?_ | refine blk_alloc ?_ _)); refine blk_far ?_ NB232_230.out _; (with_reducible repeat (first | refine blk_drewN ?_ _ | refine blk_drew ?_ | refine blk_alloc ?_ _)); refine blk_far ?_ NB232_230.out _; (with_reducible repeat (first | refine blk_drewN ?_ _ | refine blk_drew ?_ | refine blk_alloc ?_ _)); exact BK232.out⟩
                              have n6_ : Aside0 (Below w.heap.size w (((((((((w35.setCell ⟨gb230, 0, none⟩ (.int .i64 ((rd_T60 t221 (rd (rd_L1 t217 a1) 0)).f0))).setCell ⟨gb230, 1, none⟩ (.int .i64 ((rd_T60 t221 (rd (rd_L1 t217 a1) 0)).f1))).setCell ⟨gb230, 2, none⟩ (.int .i64 ((rd_T60 t221 (rd (rd_L1 t217 a1) 0)).f2))).setCell ⟨gb231, 0, none⟩ (.int .i64 ((rd_T60 t221 (rd (rd_L1 t217 a1) 1)).f0))).setCell ⟨gb231, 1, none⟩ (.int .i64 ((rd_T60 t221 (rd (rd_L1 t217 a1) 1)).f1))).setCell ⟨gb231, 2, none⟩ (.int .i64 ((rd_T60 t221 (rd (rd_L1 t217 a1) 1)).f2))).setCell ⟨gb232, 0, none⟩ (.int .i64 ((rd_T60 t221 (rd (rd_L1 t217 a1) 2)).f0))).setCell ⟨gb232, 1, none⟩ (.int .i64 ((rd_T60 t221 (rd (rd_L1 t217 a1) 2)).f1))).setCell ⟨gb232, 2, none⟩ (.int .i64 ((rd_T60 t221 (rd (rd_L1 t217 a1) 2)).f2)))) := ⟨by repeat (first | (with_reducible first | exact HB.out | apply below_alloc | apply pw_below_drewN | apply below_drew1 | refine below_set ?_ GE230.out | refine below_set ?_ GE231.out | refine below_set ?_ GE232.out) | exact HB.out)⟩
                              (try clear HO219)
                              (try clear HL220_0)
                              (try clear HO223)
                              (try clear BK230)
                              (try clear BK231)
                              (try clear BK232)
                              (try clear HB)
                              generalize (((((((((w35.setCell ⟨gb230, 0, none⟩ (.int .i64 ((rd_T60 t221 (rd (rd_L1 t217 a1) 0)).f0))).setCell ⟨gb230, 1, none⟩ (.int .i64 ((rd_T60 t221 (rd (rd_L1 t217 a1) 0)).f1))).setCell ⟨gb230, 2, none⟩ (.int .i64 ((rd_T60 t221 (rd (rd_L1 t217 a1) 0)).f2))).setCell ⟨gb231, 0, none⟩ (.int .i64 ((rd_T60 t221 (rd (rd_L1 t217 a1) 1)).f0))).setCell ⟨gb231, 1, none⟩ (.int .i64 ((rd_T60 t221 (rd (rd_L1 t217 a1) 1)).f1))).setCell ⟨gb231, 2, none⟩ (.int .i64 ((rd_T60 t221 (rd (rd_L1 t217 a1) 1)).f2))).setCell ⟨gb232, 0, none⟩ (.int .i64 ((rd_T60 t221 (rd (rd_L1 t217 a1) 2)).f0))).setCell ⟨gb232, 1, none⟩ (.int .i64 ((rd_T60 t221 (rd (rd_L1 t217 a1) 2)).f1))).setCell ⟨gb232, 2, none⟩ (.int .i64 ((rd_T60 t221 (rd (rd_L1 t217 a1) 2)).f2))) = w45 at n0_ n1_ n2_ n3_ n4_ n5_ n6_ ⊢
                              have HO219 := n0_
                              have HL220_0 := n1_
                              have HO223 := n2_
                              have BK230 := n3_
                              have BK231 := n4_
                              have BK232 := n5_
                              have HB := n6_
                              clear n0_ n1_ n2_ n3_ n4_ n5_ n6_
                              have n0_ := Aside0.mk (Kd.S_drew HO219.out)
                              have n1_ := Aside0.mk (Kd.R_drew HL220_0.out)
                              have n2_ := Aside0.mk (Kd.R_drew HO223.out)
                              have n3_ := Aside0.mk (blk_drew BK230.out)
                              have n4_ := Aside0.mk (blk_drew BK231.out)
                              have n5_ := Aside0.mk (blk_drew BK232.out)
                              have n6_ := Aside0.mk (below_drew1 HB.out)
                              clear HO219
                              clear HL220_0
                              clear HO223
                              clear BK230
                              clear BK231
                              clear BK232
                              clear HB
                              have HO219 := n0_
                              have HL220_0 := n1_
                              have HO223 := n2_
                              have BK230 := n3_
                              have BK231 := n4_
                              have BK232 := n5_
                              have HB := n6_
                              clear n0_ n1_ n2_ n3_ n4_ n5_ n6_
                              refine start_ (n := 8) (S := fun w' => True) (ds := []) #[false, false, false, false, false, false, false, false] (by kernel_rfl) rfl rfl trivial (fun hHeld => ?_); refine with_tabW impl_PointOfWeights.tab5 impl_PointOfWeights.bits5 (fun HT_ HW_ => ?_)
                              generalize w45.drew = w46 at HO219 HL220_0 HO223 BK230 BK231 BK232 HB hHeld ⊢
                              refine pure_ (i := 0) (N := some 52) (v := ?_) (a' := ?_) #[true, false, false, false, false, false, false, false] rfl rfl (any_of HT_.out (by kernel_rfl)) (fun _ _ _ h => h) (Or.inl ⟨by rfl, ?_⟩) ?_ ?_
                              rotate_left
                              · intro w'
                                go_simp
                                with_reducible rfl
                              rotate_left
                              · simp only [Act.put, List.setIfInBounds_toArray, List.set_cons_zero, List.set_cons_succ, i64_w, i32_w]
                                rfl
                              refine pure_ (i := 1) (N := some 53) (v := ?_) (a' := ?_) #[true, true, false, false, false, false, false, false] rfl rfl (any_of HT_.out (by kernel_rfl)) (fun _ _ _ h => h) (Or.inl ⟨by rfl, ?_⟩) ?_ ?_
                              rotate_left
                              · intro w'
                                go_simp
                                with_reducible rfl
                              rotate_left
                              · simp only [Act.put, List.setIfInBounds_toArray, List.set_cons_zero, List.set_cons_succ, i64_w, i32_w]
                                rfl
                              refine pure_ (i := 2) (N := some 54) (v := ?_) (a' := ?_) #[true, true, true, false, false, false, false, false] rfl rfl (any_of HT_.out (by kernel_rfl)) (fun _ _ _ h => h) (Or.inl ⟨by rfl, ?_⟩) ?_ ?_
                              rotate_left
                              · intro w'
                                go_simp
                                with_reducible rfl
                              rotate_left
                              · simp only [Act.put, List.setIfInBounds_toArray, List.set_cons_zero, List.set_cons_succ, i64_w, i32_w]
                                rfl
                              refine pure_ (i := 3) (N := some 55) (v := ?_) (a' := ?_) #[true, true, true, true, false, false, false, false] rfl rfl (any_of HT_.out (by kernel_rfl)) (fun _ _ _ h => h) (Or.inl ⟨by rfl, ?_⟩) ?_ ?_
                              rotate_left
                              · intro w'
                                go_simp
                                with_reducible rfl
                              rotate_left
                              · simp only [Act.put, List.setIfInBounds_toArray, List.set_cons_zero, List.set_cons_succ, i64_w, i32_w]
                                rfl
                              refine one_ (i := 4) (N := some 56) #[true, true, true, true, true, false, false, false] rfl rfl (one_of HT_.out (by kernel_rfl)) (by decide) (fun K hK => ?_)
                              refine boxrow_step ?hg (k := 3) (N := 56) ?hd (cs := #[.slice (some ⟨gb230, 0, none⟩) ([(rd_T60 t221 (rd (rd_L1 t217 a1) 0)).f0, (rd_T60 t221 (rd (rd_L1 t217 a1) 0)).f1, (rd_T60 t221 (rd (rd_L1 t217 a1) 0)).f2] : List Int).length 3, .slice (some ⟨gb231, 0, none⟩) ([(rd_T60 t221 (rd (rd_L1 t217 a1) 1)).f0, (rd_T60 t221 (rd (rd_L1 t217 a1) 1)).f1, (rd_T60 t221 (rd (rd_L1 t217 a1) 1)).f2] : List Int).length 3, .slice (some ⟨gb232, 0, none⟩) ([(rd_T60 t221 (rd (rd_L1 t217 a1) 2)).f0, (rd_T60 t221 (rd (rd_L1 t217 a1) 2)).f1, (rd_T60 t221 (rd (rd_L1 t217 a1) 2)).f2] : List Int).length 3]) (t := 27) ?hr ?_; (case hd => rfl); (case hg => rfl); (case hr => first | (go_simp; done) | (go_simp; rfl))
                              intro gb236 hg w47 hbox hb
                              have n0_ := Aside0.mk (Kd.S_below (Kd.S_elderB (by (with_reducible repeat (first | apply Kd.S_alloc | apply Kd.S_drewN | apply Kd.S_drew)); exact HO219.out) gb236 (Nat.le_of_eq hg.symm)) hb)
                              have n1_ := Aside0.mk (Kd.R_below (by (with_reducible repeat (first | apply Kd.R_alloc | apply Kd.R_drewN | apply Kd.R_drew)); exact HL220_0.out) hb)
                              have n2_ := Aside0.mk (Kd.R_below (by (with_reducible repeat (first | apply Kd.R_alloc | apply Kd.R_drewN | apply Kd.R_drew)); exact HO223.out) hb)
                              have n3_ := Aside0.mk (blk_below (g := gb230) (o := .cells #[.int .i64 ((rd_T60 t221 (rd (rd_L1 t217 a1) 0)).f0), .int .i64 ((rd_T60 t221 (rd (rd_L1 t217 a1) 0)).f1), .int .i64 ((rd_T60 t221 (rd (rd_L1 t217 a1) 0)).f2)] 60 (0, 0)) (by (with_reducible repeat (first | refine blk_drewN ?_ _ | refine blk_drew ?_ | refine blk_alloc ?_ _)); exact BK230.out) hb)
                              have n4_ := Aside0.mk (blk_below (g := gb231) (o := .cells #[.int .i64 ((rd_T60 t221 (rd (rd_L1 t217 a1) 1)).f0), .int .i64 ((rd_T60 t221 (rd (rd_L1 t217 a1) 1)).f1), .int .i64 ((rd_T60 t221 (rd (rd_L1 t217 a1) 1)).f2)] 60 (0, 0)) (by (with_reducible repeat (first | refine blk_drewN ?_ _ | refine blk_drew ?_ | refine blk_alloc ?_ _)); exact BK231.out) hb)
                              have n5_ := Aside0.mk (blk_below (g := gb232) (o := .cells #[.int .i64 ((rd_T60 t221 (rd (rd_L1 t217 a1) 2)).f0), .int .i64 ((rd_T60 t221 (rd (rd_L1 t217 a1) 2)).f1), .int .i64 ((rd_T60 t221 (rd (rd_L1 t217 a1) 2)).f2)] 60 (0, 0)) (by (with_reducible repeat (first | refine blk_drewN ?_ _ | refine blk_drew ?_ | refine blk_alloc ?_ _)); exact BK232.out) hb)
                              have n6_ := Aside0.mk (below_step (by repeat (first | (with_reducible first | exact HB.out | apply below_alloc | apply pw_below_drewN | apply below_drew1 | refine below_set ?_ GE230.out | refine below_set ?_ GE231.out | refine below_set ?_ GE232.out) | exact HB.out)) hb)
                              have n7_ := Aside0.mk (hbox)
                              have n8_ := Aside0.mk ((by rw [hg]; exact (below_size (by repeat (first | (with_reducible first | exact HB.out | apply below_alloc | apply pw_below_drewN | apply below_drew1 | refine below_set ?_ GE230.out | refine below_set ?_ GE231.out | refine below_set ?_ GE232.out) | exact HB.out))) : w.heap.size ≤ gb236))
                              have n9_ := Aside0.mk ((by rw [hg]; exact (below_size (by repeat (first | (with_reducible first | exact HB.out | apply below_alloc | apply pw_below_drewN | apply below_drew1 | refine below_set ?_ GE230.out | refine below_set ?_ GE231.out | refine below_set ?_ GE232.out) | exact HB.out))) : w.heap.size ≤ gb236))
                              have n10_ := Aside0.mk ((by rw [hg]; exact Nat.ne_of_lt (blk_lt (g := gb230) (o := .cells #[.int .i64 ((rd_T60 t221 (rd (rd_L1 t217 a1) 0)).f0), .int .i64 ((rd_T60 t221 (rd (rd_L1 t217 a1) 0)).f1), .int .i64 ((rd_T60 t221 (rd (rd_L1 t217 a1) 0)).f2)] 60 (0, 0)) (by (with_reducible repeat (first | refine blk_drewN ?_ _ | refine blk_drew ?_ | refine blk_alloc ?_ _)); exact BK230.out)) : gb230 ≠ gb236))
                              have n11_ := Aside0.mk ((by rw [hg]; exact Nat.ne_of_gt (blk_lt (g := gb230) (o := .cells #[.int .i64 ((rd_T60 t221 (rd (rd_L1 t217 a1) 0)).f0), .int .i64 ((rd_T60 t221 (rd (rd_L1 t217 a1) 0)).f1), .int .i64 ((rd_T60 t221 (rd (rd_L1 t217 a1) 0)).f2)] 60 (0, 0)) (by (with_reducible repeat (first | refine blk_drewN ?_ _ | refine blk_drew ?_ | refine blk_alloc ?_ _)); exact BK230.out)) : gb236 ≠ gb230))
                              have n12_ := Aside0.mk ((by rw [hg]; exact Nat.ne_of_lt (blk_lt (g := gb231) (o := .cells #[.int .i64 ((rd_T60 t221 (rd (rd_L1 t217 a1) 1)).f0), .int .i64 ((rd_T60 t221 (rd (rd_L1 t217 a1) 1)).f1), .int .i64 ((rd_T60 t221 (rd (rd_L1 t217 a1) 1)).f2)] 60 (0, 0)) (by (with_reducible repeat (first | refine blk_drewN ?_ _ | refine blk_drew ?_ | refine blk_alloc ?_ _)); exact BK231.out)) : gb231 ≠ gb236))
                              have n13_ := Aside0.mk ((by rw [hg]; exact Nat.ne_of_gt (blk_lt (g := gb231) (o := .cells #[.int .i64 ((rd_T60 t221 (rd (rd_L1 t217 a1) 1)).f0), .int .i64 ((rd_T60 t221 (rd (rd_L1 t217 a1) 1)).f1), .int .i64 ((rd_T60 t221 (rd (rd_L1 t217 a1) 1)).f2)] 60 (0, 0)) (by (with_reducible repeat (first | refine blk_drewN ?_ _ | refine blk_drew ?_ | refine blk_alloc ?_ _)); exact BK231.out)) : gb236 ≠ gb231))
                              have n14_ := Aside0.mk ((by rw [hg]; exact Nat.ne_of_lt (blk_lt (g := gb232) (o := .cells #[.int .i64 ((rd_T60 t221 (rd (rd_L1 t217 a1) 2)).f0), .int .i64 ((rd_T60 t221 (rd (rd_L1 t217 a1) 2)).f1), .int .i64 ((rd_T60 t221 (rd (rd_L1 t217 a1) 2)).f2)] 60 (0, 0)) (by (with_reducible repeat (first | refine blk_drewN ?_ _ | refine blk_drew ?_ | refine blk_alloc ?_ _)); exact BK232.out)) : gb232 ≠ gb236))
                              have n15_ := Aside0.mk ((by rw [hg]; exact Nat.ne_of_gt (blk_lt (g := gb232) (o := .cells #[.int .i64 ((rd_T60 t221 (rd (rd_L1 t217 a1) 2)).f0), .int .i64 ((rd_T60 t221 (rd (rd_L1 t217 a1) 2)).f1), .int .i64 ((rd_T60 t221 (rd (rd_L1 t217 a1) 2)).f2)] 60 (0, 0)) (by (with_reducible repeat (first | refine blk_drewN ?_ _ | refine blk_drew ?_ | refine blk_alloc ?_ _)); exact BK232.out)) : gb236 ≠ gb232))
                              clear HO219
                              clear HL220_0
                              clear HO223
                              clear BK230
                              clear BK231
                              clear BK232
                              clear HB
                              have HO219 := n0_
                              have HL220_0 := n1_
                              have HO223 := n2_
                              have BK230 := n3_
                              have BK231 := n4_
                              have BK232 := n5_
                              have HB := n6_
                              have BK236 := n7_
                              have GW236 := n8_
                              have GE236 := n9_
                              have NB230_236 := n10_
                              have NB236_230 := n11_
                              have NB231_236 := n12_
                              have NB236_231 := n13_
                              have NB232_236 := n14_
                              have NB236_232 := n15_
                              clear n0_ n1_ n2_ n3_ n4_ n5_ n6_ n7_ n8_ n9_ n10_ n11_ n12_ n13_ n14_ n15_
                              clear hb hbox hg
                              refine hK.out _ _ trivial (fun hHeld => ?_)
                              clear hK K
                              refine norm_ (a' := ?_) ?_ ?_
                              rotate_left
                              · show Act.put _ (some 56) _ = _
                                simp only [Act.put, List.setIfInBounds_toArray, List.set_cons_zero, List.set_cons_succ, i64_w, i32_w]
                                rfl
                              refine one_ (i := 5) (N := some 57) #[true, true, true, true, true, true, false, false] rfl rfl (one_of HT_.out (by kernel_rfl)) (by decide) (fun K hK => ?_)
                              refine goes_ Try.func69 (by kernel_rfl) rfl #[.slice A2 l2.length c2, .slice (some ⟨gb236, 0, none⟩) ([[(rd_T60 t221 (rd (rd_L1 t217 a1) 0)).f0, (rd_T60 t221 (rd (rd_L1 t217 a1) 0)).f1, (rd_T60 t221 (rd (rd_L1 t217 a1) 0)).f2], [(rd_T60 t221 (rd (rd_L1 t217 a1) 1)).f0, (rd_T60 t221 (rd (rd_L1 t217 a1) 1)).f1, (rd_T60 t221 (rd (rd_L1 t217 a1) 1)).f2], [(rd_T60 t221 (rd (rd_L1 t217 a1) 2)).f0, (rd_T60 t221 (rd (rd_L1 t217 a1) 2)).f1, (rd_T60 t221 (rd (rd_L1 t217 a1) 2)).f2]] : List (List Int)).length 3] (by rfl) rfl rfl (by (try simp only [List.map_toArray, List.map_cons, List.map_nil]); first | done | rfl | (simp only [List.length_drop, List.length_take]; rfl)) ?_
                              with_reducible refine (impl_mix.calls kj3 _ _ l2 _ _ [[(rd_T60 t221 (rd (rd_L1 t217 a1) 0)).f0, (rd_T60 t221 (rd (rd_L1 t217 a1) 0)).f1, (rd_T60 t221 (rd (rd_L1 t217 a1) 0)).f2], [(rd_T60 t221 (rd (rd_L1 t217 a1) 1)).f0, (rd_T60 t221 (rd (rd_L1 t217 a1) 1)).f1, (rd_T60 t221 (rd (rd_L1 t217 a1) 1)).f2], [(rd_T60 t221 (rd (rd_L1 t217 a1) 2)).f0, (rd_T60 t221 (rd (rd_L1 t217 a1) 2)).f1, (rd_T60 t221 (rd (rd_L1 t217 a1) 2)).f2]] t238 _ ?side1 ?side2 ?side3 ?side4 A25.out).mono ?_
                              (case side1 => repeat (first | exact (Kd.C_below HR2.out HB.out) | (with_reducible refine Kd.C_alloc ?_ _) | (with_reducible refine Kd.C_drewN ?_ _) | (with_reducible refine Kd.C_drew ?_)))
                              (case side2 => exact HC2.out)
                              (case side3 => exact box3S (g := gb236) (t := 27) (T := 3) (by (with_reducible repeat (first | refine blk_drewN ?_ _ | refine blk_drew ?_ | refine blk_alloc ?_ _)); exact BK236.out) (Nat.le_refl 3) (by exact boxI (g := gb230) (t := 60) (cs := #[.int .i64 ((rd_T60 t221 (rd (rd_L1 t217 a1) 0)).f0), .int .i64 ((rd_T60 t221 (rd (rd_L1 t217 a1) 0)).f1), .int .i64 ((rd_T60 t221 (rd (rd_L1 t217 a1) 0)).f2)]) (l := [(rd_T60 t221 (rd (rd_L1 t217 a1) 0)).f0, (rd_T60 t221 (rd (rd_L1 t217 a1) 0)).f1, (rd_T60 t221 (rd (rd_L1 t217 a1) 0)).f2]) (by (with_reducible repeat (first | refine blk_drewN ?_ _ | refine blk_drew ?_ | refine blk_alloc ?_ _)); exact BK230.out) rfl (by show 3 ≤ 9223372036854775807; decide)) (Nat.le_refl 3) (by exact boxI (g := gb231) (t := 60) (cs := #[.int .i64 ((rd_T60 t221 (rd (rd_L1 t217 a1) 1)).f0), .int .i64 ((rd_T60 t221 (rd (rd_L1 t217 a1) 1)).f1), .int .i64 ((rd_T60 t221 (rd (rd_L1 t217 a1) 1)).f2)]) (l := [(rd_T60 t221 (rd (rd_L1 t217 a1) 1)).f0, (rd_T60 t221 (rd (rd_L1 t217 a1) 1)).f1, (rd_T60 t221 (rd (rd_L1 t217 a1) 1)).f2]) (by (with_reducible repeat (first | refine blk_drewN ?_ _ | refine blk_drew ?_ | refine blk_alloc ?_ _)); exact BK231.out) rfl (by show 3 ≤ 9223372036854775807; decide)) (Nat.le_refl 3) (by exact boxI (g := gb232) (t := 60) (cs := #[.int .i64 ((rd_T60 t221 (rd (rd_L1 t217 a1) 2)).f0), .int .i64 ((rd_T60 t221 (rd (rd_L1 t217 a1) 2)).f1), .int .i64 ((rd_T60 t221 (rd (rd_L1 t217 a1) 2)).f2)]) (l := [(rd_T60 t221 (rd (rd_L1 t217 a1) 2)).f0, (rd_T60 t221 (rd (rd_L1 t217 a1) 2)).f1, (rd_T60 t221 (rd (rd_L1 t217 a1) 2)).f2]) (by (with_reducible repeat (first | refine blk_drewN ?_ _ | refine blk_drew ?_ | refine blk_alloc ?_ _)); exact BK232.out) rfl (by show 3 ≤ 9223372036854775807; decide)))
                              (case side4 => exact Nat.le_refl _)
                              rintro e w48 ⟨v239, rfl, ho0, hb⟩
                              refine ⟨_, rfl, ?_⟩
                              have n0_ := Aside0.mk (Kd.S_elder' (by (with_reducible repeat (first | apply Kd.S_alloc | apply Kd.S_drewN | apply Kd.S_drew)); exact HO219.out) (Kd.R_base ho0) hb)
                              have n1_ := Aside0.mk (Kd.R_elder' (by (with_reducible repeat (first | apply Kd.R_alloc | apply Kd.R_drewN | apply Kd.R_drew)); exact HL220_0.out) (Kd.R_base ho0) hb)
                              have n2_ := Aside0.mk (Kd.R_below (by (with_reducible repeat (first | apply Kd.R_alloc | apply Kd.R_drewN | apply Kd.R_drew)); exact HO223.out) hb)
                              have n3_ := Aside0.mk (Kd.R_lower (Kd.R_new' ho0 (Kd.R_lt (by (with_reducible repeat (first | apply Kd.R_alloc | apply Kd.R_drewN | apply Kd.R_drew)); exact HL220_0.out))) (below_size (by repeat (first | (with_reducible first | exact HB.out | apply below_alloc | apply pw_below_drewN | apply below_drew1 | refine below_set ?_ GE230.out | refine below_set ?_ GE231.out | refine below_set ?_ GE232.out | refine below_set ?_ GE236.out) | exact HB.out))))
                              have n4_ := Aside0.mk (blk_below (g := gb230) (o := .cells #[.int .i64 ((rd_T60 t221 (rd (rd_L1 t217 a1) 0)).f0), .int .i64 ((rd_T60 t221 (rd (rd_L1 t217 a1) 0)).f1), .int .i64 ((rd_T60 t221 (rd (rd_L1 t217 a1) 0)).f2)] 60 (0, 0)) (by (with_reducible repeat (first | refine blk_drewN ?_ _ | refine blk_drew ?_ | refine blk_alloc ?_ _)); exact BK230.out) hb)
                              have n5_ := Aside0.mk (blk_below (g := gb231) (o := .cells #[.int .i64 ((rd_T60 t221 (rd (rd_L1 t217 a1) 1)).f0), .int .i64 ((rd_T60 t221 (rd (rd_L1 t217 a1) 1)).f1), .int .i64 ((rd_T60 t221 (rd (rd_L1 t217 a1) 1)).f2)] 60 (0, 0)) (by (with_reducible repeat (first | refine blk_drewN ?_ _ | refine blk_drew ?_ | refine blk_alloc ?_ _)); exact BK231.out) hb)
                              have n6_ := Aside0.mk (blk_below (g := gb232) (o := .cells #[.int .i64 ((rd_T60 t221 (rd (rd_L1 t217 a1) 2)).f0), .int .i64 ((rd_T60 t221 (rd (rd_L1 t217 a1) 2)).f1), .int .i64 ((rd_T60 t221 (rd (rd_L1 t217 a1) 2)).f2)] 60 (0, 0)) (by (with_reducible repeat (first | refine blk_drewN ?_ _ | refine blk_drew ?_ | refine blk_alloc ?_ _)); exact BK232.out) hb)
                              have n7_ := Aside0.mk (blk_below (g := gb236) (o := .cells #[.slice (some ⟨gb230, 0, none⟩) ([(rd_T60 t221 (rd (rd_L1 t217 a1) 0)).f0, (rd_T60 t221 (rd (rd_L1 t217 a1) 0)).f1, (rd_T60 t221 (rd (rd_L1 t217 a1) 0)).f2] : List Int).length 3, .slice (some ⟨gb231, 0, none⟩) ([(rd_T60 t221 (rd (rd_L1 t217 a1) 1)).f0, (rd_T60 t221 (rd (rd_L1 t217 a1) 1)).f1, (rd_T60 t221 (rd (rd_L1 t217 a1) 1)).f2] : List Int).length 3, .slice (some ⟨gb232, 0, none⟩) ([(rd_T60 t221 (rd (rd_L1 t217 a1) 2)).f0, (rd_T60 t221 (rd (rd_L1 t217 a1) 2)).f1, (rd_T60 t221 (rd (rd_L1 t217 a1) 2)).f2] : List Int).length 3] 27 (0, 0)) (by (with_reducible repeat (first | refine blk_drewN ?_ _ | refine blk_drew ?_ | refine blk_alloc ?_ _)); exact BK236.out) hb)
                              have n8_ := Aside0.mk (below_step (by repeat (first | (with_reducible first | exact HB.out | apply below_alloc | apply pw_below_drewN | apply below_drew1 | refine below_set ?_ GE230.out | refine below_set ?_ GE231.out | refine below_set ?_ GE232.out | refine below_set ?_ GE236.out) | exact HB.out)) hb)
                              clear HO219
                              clear HL220_0
                              clear HO223
                              clear BK230
                              clear BK231
                              clear BK232
                              clear BK236
                              clear HB
                              have HO219 := n0_
                              have HL220_0 := n1_
                              have HO223 := n2_
                              have HO240 := n3_
                              have BK230 := n4_
                              have BK231 := n5_
                              have BK232 := n6_
                              have BK236 := n7_
                              have HB := n8_
                              clear n0_ n1_ n2_ n3_ n4_ n5_ n6_ n7_ n8_
                              (try clear hb)
                              (try clear hb2)
                              (try clear hk)
                              (try clear hi)
                              (try clear ho0)
                              refine hK.out _ _ trivial (fun hHeld => ?_)
                              clear hK K
                              refine norm_ (a' := ?_) ?_ ?_
                              rotate_left
                              · show Act.put _ (some 57) _ = _
                                simp only [Act.put, List.setIfInBounds_toArray, List.set_cons_zero, List.set_cons_succ, i64_w, i32_w]
                                rfl
                              refine pure_ (i := 6) (N := some 6) (v := ?_) (a' := ?_) #[true, true, true, true, true, true, true, false] rfl rfl (any_of HT_.out (by kernel_rfl)) (fun _ _ _ h => h) (Or.inl ⟨by rfl, ?_⟩) ?_ ?_
                              rotate_left
                              · intro w'
                                go_simp
                                with_reducible rfl
                              rotate_left
                              · simp only [Act.put, List.setIfInBounds_toArray, List.set_cons_zero, List.set_cons_succ, i64_w, i32_w]
                                rfl
                              refine pure_ (i := 7) (N := some 7) (v := ?_) (a' := ?_) #[true, true, true, true, true, true, true, true] rfl rfl (any_of HT_.out (by kernel_rfl)) (fun _ _ _ h => h) (Or.inl ⟨by rfl, ?_⟩) ?_ ?_
                              rotate_left
                              · intro w'
                                go_simp
                                with_reducible rfl
                              rotate_left
                              · simp only [Act.put, List.setIfInBounds_toArray, List.set_cons_zero, List.set_cons_succ, i64_w, i32_w]
                                rfl
                              refine done_ (done_of HT_.out (by kernel_rfl)) ?_
                              try go_wp2
                              go_ret2
                              exact ⟨_, by first | rfl | (simp [errW_none, errW_some] <;> rfl) | (simp [*, errW_none, errW_some] <;> rfl), by (with_reducible repeat (first | apply Kd.R_alloc | apply Kd.R_drewN | apply Kd.R_drew)); exact Kd.R_mono HO240.out (fun _ hk => trivial), by repeat (first | (with_reducible first | exact HB.out | apply below_alloc | apply pw_below_drewN | apply below_drew1 | refine below_set ?_ GE230.out | refine below_set ?_ GE231.out | refine below_set ?_ GE232.out | refine below_set ?_ GE236.out) | exact HB.out)⟩
                            · rw [if_neg c24] at H
                              exact absurd H (by simp)
                          · rw [if_neg c23] at H
                            exact absurd H (by simp)
                        · rw [if_neg c22] at H
                          exact absurd H (by simp)
                      · rw [if_neg c21] at H
                        exact absurd H (by simp)
                    · rw [if_neg c20] at H
                      exact absurd H (by simp)
                  · rw [if_neg c19] at H
                    exact absurd H (by simp)
                · rw [if_neg c18] at H
                  exact absurd H (by simp)
              · rw [if_neg c17] at H
                exact absurd H (by simp)
            · rw [if_neg c16] at H
              exact absurd H (by simp)
          · rw [if_neg c14] at H
            exact absurd H (by simp)
        · rw [if_neg c13] at H
          exact absurd H (by simp)
end Go.Proofs.Ytmodnjljgcmdlaa.All

