/- Part of the proof that the law FnExactCornersOf answers true for all arguments. -/
import Derived.Test.YtggiicplcglalaaQC7
import Derived.Test.YtggiicplcglalaaQC9
namespace Go.Proofs.Ytggiicplcglalaa.All
open Go.RowKit Go.Proofs.YtggiicplcglalaaW.PrintWords Go.Proofs.YtggiicplcglalaaW.PrintLast Go.Proofs.YtggiicplcglalaaW.PrintMore
attribute [local go_sem] max2_int min2_int max_two min_two max_three min_three max_four min_four
set_option linter.unusedVariables false
set_option linter.unusedSimpArgs false
mutual
def spec_gmCorners.l0 : Nat → List (List Int) → Int → List (List Int) → Int → Option ((List (List Int)))
 | 0, _, _, _, _ => none
 | k + 1, x0, x3, x4, x5 => if 0 ≤ (wrap64 (x3 + (x0.length : Int))) then (if x5 < (shl .i64 1 (wrap64 (x3 + (x0.length : Int)))) then (spec_gmCorners.l1 k x0 x3 x4 x5 ([] : List (List Int)) ([] : List Int) 0) else (some x4)) else (none)
def spec_gmCorners.l1 : Nat → List (List Int) → Int → List (List Int) → Int → List (List Int) → List Int → Int → Option ((List (List Int)))
 | 0, _, _, _, _, _, _, _ => none
 | k + 1, x0, x3, x4, x5, x6, x7, x8 => if x8 < (wrap64 (x3 + (x0.length : Int))) then (if 0 ≤ x8 then (if (Int.tmod (shr .i64 x5 x8) 2) = 0 then (spec_gmCorners.l1 k x0 x3 x4 x5 x6 x7 (wrap64 (x8 + 1))) else (if x8 < x3 then ((spec_gmPure.f x3 x8).bind fun t218 => (if x6.length < 5864062014805 then (if x7.length < 17592186044416 then (spec_gmCorners.l1 k x0 x3 x4 x5 (x6 ++ [t218]) (x7 ++ [0]) (wrap64 (x8 + 1))) else (none)) else (none))) else (if 0 ≤ (wrap64 (x8 - x3)) then (if (wrap64 (x8 - x3)) < (x0.length : Int) then (if x6.length < 5864062014805 then (if x7.length < 17592186044416 then (spec_gmCorners.l1 k x0 x3 x4 x5 (x6 ++ [rd_L1 x0 (wrap64 (x8 - x3))]) (x7 ++ [1]) (wrap64 (x8 + 1))) else (none)) else (none)) else (none)) else (none)))) else (none)) else (if (x6.length : Int) = x3 then ((spec_gmDeterminant.f k x6).bind fun t234 => (if t234 = 0 then (spec_gmCorners.l0 k x0 x3 x4 (wrap64 (x5 + 1))) else ((spec_l1Abs.f t234).bind fun t235 => (spec_gmCorners.l2 k x0 x3 x4 x5 x6 x7 t234 ([] : List Int) t235 0)))) else (spec_gmCorners.l0 k x0 x3 x4 (wrap64 (x5 + 1))))
def spec_gmCorners.l2 : Nat → List (List Int) → Int → List (List Int) → Int → List (List Int) → List Int → Int → List Int → Int → Int → Option ((List (List Int)))
 | 0, _, _, _, _, _, _, _, _, _, _ => none
 | k + 1, x0, x3, x4, x5, x6, x7, x9, x10, x11, x12 => if x12 < x3 then (spec_gmCorners.l3 k x0 x3 x4 x5 x6 x7 x9 x10 x11 x12 ([] : List (List Int)) (x6.length : Int) 0) else ((spec_l1Abs.f x9).bind fun t256 => (if x10.length < 17592186044416 then ((some (x10 ++ [t256] : List Int)).bind fun y257 => (spec_gmCorners.l4 k x0 x3 x4 x5 y257 x11 (y257.length : Int) 0)) else (none)))
def spec_gmCorners.l3 : Nat → List (List Int) → Int → List (List Int) → Int → List (List Int) → List Int → Int → List Int → Int → Int → List (List Int) → Int → Int → Option ((List (List Int)))
 | 0, _, _, _, _, _, _, _, _, _, _, _, _, _ => none
 | k + 1, x0, x3, x4, x5, x6, x7, x9, x10, x11, x12, x13, x87, x88 => if x88 < x87 then (if 0 ≤ x88 then (if x88 < (x6.length : Int) then ((spec_l1Own.f (rd_L1 x6 x88)).bind fun t237 => (if x88 < (x7.length : Int) then (if 0 ≤ x12 then (if x12 < (t237.length : Int) then (if x13.length < 5864062014805 then (spec_gmCorners.l3 k x0 x3 x4 x5 x6 x7 x9 x10 x11 x12 (x13 ++ [(t237.set (x12 : Int).toNat (rd x7 x88))]) x87 (wrap64 (x88 + 1))) else (none)) else (none)) else (none)) else (none))) else (none)) else (none)) else ((spec_gmDeterminant.f k x13).bind fun t245 => (if x9 < 0 then (if x10.length < 17592186044416 then ((spec_l1Abs.f (wrap64 (-t245))).bind fun t249 => ((spec_gmGcd.f k x11 t249).bind fun t250 => (spec_gmCorners.l2 k x0 x3 x4 x5 x6 x7 x9 (x10 ++ [wrap64 (-t245)]) t250 (wrap64 (x12 + 1))))) else (none)) else (if x10.length < 17592186044416 then ((spec_l1Abs.f t245).bind fun t254 => ((spec_gmGcd.f k x11 t254).bind fun t255 => (spec_gmCorners.l2 k x0 x3 x4 x5 x6 x7 x9 (x10 ++ [t245]) t255 (wrap64 (x12 + 1))))) else (none))))
def spec_gmCorners.l4 : Nat → List (List Int) → Int → List (List Int) → Int → List Int → Int → Int → Int → Option ((List (List Int)))
 | 0, _, _, _, _, _, _, _, _ => none
 | k + 1, x0, x3, x4, x5, x10, x11, x127, x128 => if x128 < x127 then (if 0 ≤ x128 then (if x128 < (x10.length : Int) then (if x11 = 0 then (none) else (spec_gmCorners.l4 k x0 x3 x4 x5 (x10.set (x128 : Int).toNat (wrap64 (Int.tdiv (rd x10 x128) x11))) x11 x127 (wrap64 (x128 + 1)))) else (none)) else (none)) else ((spec_gmMet.f k x0 x10).bind fun bt262 => (if bt262.2 = true then ((spec_gmPut.f k x4 x10).bind fun t266 => (spec_gmCorners.l0 k x0 x3 t266 (wrap64 (x5 + 1)))) else (spec_gmCorners.l0 k x0 x3 x4 (wrap64 (x5 + 1)))))
end
def spec_gmCorners.f (k : Nat) (l0 : List (List Int)) : Option ((List (List Int))) := if 0 < (l0.length : Int) then (spec_gmCorners.l0 k l0 ((rd_L1 l0 0).length : Int) ([] : List (List Int)) 0) else (none)
theorem spec_gmCorners.mono_l : ∀ k, (∀ y0 y1 y2 y3, LeO (spec_gmCorners.l0 k y0 y1 y2 y3) (spec_gmCorners.l0 (k + 1) y0 y1 y2 y3)) ∧ (∀ y0 y1 y2 y3 y4 y5 y6, LeO (spec_gmCorners.l1 k y0 y1 y2 y3 y4 y5 y6) (spec_gmCorners.l1 (k + 1) y0 y1 y2 y3 y4 y5 y6)) ∧ (∀ y0 y1 y2 y3 y4 y5 y6 y7 y8 y9, LeO (spec_gmCorners.l2 k y0 y1 y2 y3 y4 y5 y6 y7 y8 y9) (spec_gmCorners.l2 (k + 1) y0 y1 y2 y3 y4 y5 y6 y7 y8 y9)) ∧ (∀ y0 y1 y2 y3 y4 y5 y6 y7 y8 y9 y10 y11 y12, LeO (spec_gmCorners.l3 k y0 y1 y2 y3 y4 y5 y6 y7 y8 y9 y10 y11 y12) (spec_gmCorners.l3 (k + 1) y0 y1 y2 y3 y4 y5 y6 y7 y8 y9 y10 y11 y12)) ∧ (∀ y0 y1 y2 y3 y4 y5 y6 y7, LeO (spec_gmCorners.l4 k y0 y1 y2 y3 y4 y5 y6 y7) (spec_gmCorners.l4 (k + 1) y0 y1 y2 y3 y4 y5 y6 y7))
 | 0 => ⟨fun _ _ _ _ r h => by simp [spec_gmCorners.l0] at h, fun _ _ _ _ _ _ _ r h => by simp [spec_gmCorners.l1] at h, fun _ _ _ _ _ _ _ _ _ _ r h => by simp [spec_gmCorners.l2] at h, fun _ _ _ _ _ _ _ _ _ _ _ _ _ r h => by simp [spec_gmCorners.l3] at h, fun _ _ _ _ _ _ _ _ r h => by simp [spec_gmCorners.l4] at h⟩
 | k + 1 => by
  obtain ⟨ih0, ih1, ih2, ih3, ih4⟩ := spec_gmCorners.mono_l k
  refine ⟨?_, ?_, ?_, ?_, ?_⟩ <;> intros <;> (first | unfold spec_gmCorners.l0 | unfold spec_gmCorners.l1 | unfold spec_gmCorners.l2 | unfold spec_gmCorners.l3 | unfold spec_gmCorners.l4)
  all_goals repeat' first
  | (with_reducible exact ih0 ..)
  | (with_reducible exact ih1 ..)
  | (with_reducible exact ih2 ..)
  | (with_reducible exact ih3 ..)
  | (with_reducible exact ih4 ..)
  | (with_reducible exact spec_gmDeterminant.mono ..)
  | (with_reducible exact spec_gmGcd.mono ..)
  | (with_reducible exact spec_gmMet.mono ..)
  | (with_reducible exact spec_gmPut.mono ..)
  | (with_reducible exact LeO.refl _)
  | (with_reducible exact LeO.none _)
  | (with_reducible refine LeO.ite ?_ ?_)
  | (with_reducible refine LeO.bind ?_ (fun _ => ?_))
theorem spec_gmCorners.mono : ∀ a0 k, LeO (spec_gmCorners.f k a0) (spec_gmCorners.f (k + 1) a0) := by
 intro a0 k
 obtain ⟨ih0, ih1, ih2, ih3, ih4⟩ := spec_gmCorners.mono_l k
 unfold spec_gmCorners.f
 repeat' first
   | (with_reducible exact ih0 ..)
   | (with_reducible exact ih1 ..)
   | (with_reducible exact ih2 ..)
   | (with_reducible exact ih3 ..)
   | (with_reducible exact ih4 ..)
   | (with_reducible exact spec_gmDeterminant.mono ..)
   | (with_reducible exact spec_gmGcd.mono ..)
   | (with_reducible exact spec_gmMet.mono ..)
   | (with_reducible exact spec_gmPut.mono ..)
   | (with_reducible exact LeO.refl _)
   | (with_reducible exact LeO.none _)
   | (with_reducible refine LeO.ite ?_ ?_)
   | (with_reducible refine LeO.bind ?_ (fun _ => ?_))
set_option maxHeartbeats 8000000 in
set_option maxRecDepth 100000 in
theorem spec_gmCorners.calls (k : Nat) (P0_ : Nat → Prop) (A0 : Option Addr) (c0 : Nat) (l0 : List (List Int)) (r : List (List Int)) (w : World) (hs0 : Kd.V (Kd.slice 3 (Kd.int .i64)) 38 w w.heap.size (fun k_ => P0_ k_) (.slice A0 l0.length c0) l0) (h : spec_gmCorners.f k l0 = some r) :
  Calls Try.prog 26 #[.slice A0 l0.length c0] w fun e w' => ∃ v0_ : Value, e = .returned (v0_) ∧ Kd.V (Kd.slice 3 (Kd.int .i64)) 38 w' w.heap.size (fun k_ => (P0_ k_ ∨ w.heap.size ≤ k_)) v0_ r ∧ Below w.heap.size w w' := by
 have HO0 := Aside0.mk (show Kd.V (Kd.slice 3 (Kd.int .i64)) 38 w w.heap.size (fun k_ => (P0_ k_ ∨ w.heap.size ≤ k_)) (.slice A0 l0.length c0) l0 from Kd.V_mono hs0 (fun k_ hk => .inl hk))
 have HB := Aside0.mk (Below.refl w.heap.size w)
 have H : (if 0 < (l0.length : Int) then (spec_gmCorners.l0 k l0 ((rd_L1 l0 0).length : Int) ([] : List (List Int)) 0) else (none)) = some r := h
 clear h
 by_cases c2 : 0 < (l0.length : Int)
 rotate_left
 ·rw [if_neg c2] at H
  exact absurd H (by simp)
 rw [if_pos c2] at H
 have c2b0 := decide_eq_true c2
 have c2b1 : decide (0 < l0.length) = true := decide_eq_true (by omega)
 clear c2
 have H' := Aside0.mk H
 clear H
 have p217 : 0 ≤ (0 : Int) := (by omega)
 have q217 : 0 < (l0.length : Int) := odE
 obtain ⟨ad217, A217_0, c217_0, e217, hx217_0, hl217_0, hi217_0⟩ := at_L1 (Kd.V_reads' HO0.out).2.2 0 p217 q217
 cases e217
 obtain ⟨ce217, hce217, hMe217, hcc217⟩ := Kd.V_get HO0.out [] 0 p217 (by first | exact q217 | exact odE | (have e_ := (Kd.V_reads' HO0.out).1; omega))
 obtain ⟨ua217_0, uc217_0, rfl, ul217_0, ge217_0⟩ := Kd.FK_slice_open hMe217
 have hv217_0 := hcc217 0 _ rfl
 rw [Nat.add_zero, show ((Kd.slice 3 (Kd.int .i64))).sz = 1 from rfl, Nat.mul_one] at hv217_0
 replace hv217_0 := Option.some.inj (hv217_0.symm.trans hx217_0)
 injection hv217_0 with hva_ hvn_ hvc_
 rw [hva_] at ge217_0
 rw [hvc_] at ul217_0
 have HL217_0 := Aside0.mk (show Kd.V (Kd.int .i64) 3 _ w.heap.size _ _ (rd_L1 l0 0) from Kd.V_mk ul217_0 ge217_0)
 clear hva_ hvn_ hvc_ ge217_0 ul217_0
 clear hcc217 hce217
 have qi217 : (0 < l0.length) = True := eq_true (by omega)
 (try rw [show ((0 : Int)).toNat = 0 from rfl] at hx217_0)
 (try rw [Addr.add_zero'] at hx217_0)
 have HR217_0 := Aside0.mk hi217_0
 have HC217_0 := Aside0.mk hl217_0
 clear hi217_0 hl217_0
 replace p217 := eq_true p217
 replace q217 := eq_true q217
 go_enter Try.func26, Try.ntmps26
 go_wp2
 go_loopg [4, 5] k (fun kq v4 v5 w' => ∃ (x4_1 : List (List Int)) (x5_1 : Int), v5 = .int .i64 x5_1 ∧ Aside0 (spec_gmCorners.l0 kq l0 ((rd_L1 l0 0).length : Int) x4_1 x5_1 = some r) ∧ Aside0 (kq ≤ k) ∧ Aside0 (Kd.V (Kd.slice 3 (Kd.int .i64)) 38 w' w.heap.size (fun k_ => (P0_ k_ ∨ w.heap.size ≤ k_)) (.slice (some ad217) l0.length c0) l0) ∧ Aside0 (Kd.V (Kd.slice 3 (Kd.int .i64)) 38 w' w.heap.size (fun k_ => (P0_ k_ ∨ w.heap.size ≤ k_)) v4 x4_1) ∧ Aside0 (Below w.heap.size w w'))
 case atStart => exact ⟨(([] : List (List Int))), (0), eqF, H', ⟨Nat.le_refl _⟩, ⟨mvV HO0.out⟩, ⟨Kd.V_nil _ _ _ _ _⟩, ⟨mb HB.out⟩⟩
 case round =>
  clear H'
  obtain ⟨x4_1, x5_1, rfl, HA, HK1, HO_0, HO_4, HB⟩ := hrel
  cases gk with
  | zero => exact absurd HA.out (by simp [spec_gmCorners.l0])
  | succ k1 =>
   have H := HA.out
   clear HA
   simp only [spec_gmCorners.l0] at H
   obtain ⟨ji3, hji3⟩ : ∃ j_ : Int, (wrap64 (((rd_L1 l0 0).length : Int) + (l0.length : Int))) = j_ := ⟨_, rfl⟩
   replace H : (if 0 ≤ (ji3) then (if x5_1 < (shl .i64 1 (ji3)) then (spec_gmCorners.l1 k1 l0 ((rd_L1 l0 0).length : Int) x4_1 x5_1 ([] : List (List Int)) ([] : List Int) 0) else (some x4_1)) else (none)) = some r := by first | (rw [hji3] at H; exact H) | (simp only [hji3] at H ⊢; exact H)
   have hji3w : (IntKind.i64.wrap (((rd_L1 l0 0).length : Int) + (l0.length : Int))) = ji3 := (i64_w _).trans hji3
   replace H := ifP H; obtain ⟨c4, H⟩ := H
   have c4b0 := eq_true c4
   have c4b1 := decide_eq_true c4
   clear c4
   obtain ⟨ji5, hji5⟩ : ∃ j_ : Int, (shl .i64 1 (ji3)) = j_ := ⟨_, rfl⟩
   replace H : (if x5_1 < (ji5) then (spec_gmCorners.l1 k1 l0 ((rd_L1 l0 0).length : Int) x4_1 x5_1 ([] : List (List Int)) ([] : List Int) 0) else (some x4_1)) = some r := by first | (rw [hji5] at H; exact H) | (simp only [hji5] at H ⊢; exact H)
   have hji5_ : (IntKind.i64.wrap (1 * 2 ^ min (ji3).toNat 64)) = ji5 := hji5
   have hji5z : (ji3) ≤ 64 → (IntKind.i64.wrap (1 * 2 ^ (ji3).toNat)) = ji5 := shl_small hji5
   have hji5u : (IntKind.i64.wrap (2 ^ min (ji3).toNat 64)) = ji5 := by have h_ := hji5_; rw [Int.one_mul] at h_; exact h_
   have hji5v : (ji3) ≤ 64 → (IntKind.i64.wrap (2 ^ (ji3).toNat)) = ji5 := fun hle_ => by have h_ := hji5z hle_; rw [Int.one_mul] at h_; exact h_
   have hji5y : (wrap64 (1 * 2 ^ min (ji3).toNat 64)) = ji5 := (i64_w _).symm.trans hji5_
   have hji5x : (ji3) ≤ 64 → (wrap64 (1 * 2 ^ (ji3).toNat)) = ji5 := fun h_ => (i64_w _).symm.trans (hji5z h_)
   by_cases c6 : x5_1 < (ji5)
   rotate_left
   ·rw [if_neg c6] at H
    have c6b0 := decide_eq_false c6
    (try rw [hl10_4] at c6b0)
    clear c6
    obtain rfl := Option.some.inj H
    go_wp2
    go_ret
    exact ⟨_, by first | rfl | (simp [errW_none, errW_some] <;> rfl) | (simp only [← hji3, ← hji5]; first | rfl | (simp [errW_none, errW_some] <;> rfl)) | (simp [*, errW_none, errW_some] <;> rfl), mvV HO_4.out, mb HB.out⟩
   rw [if_pos c6] at H
   have c6b0 := decide_eq_true c6
   clear c6
   have H' := Aside0.mk H
   clear H
   go_wp2
   go_loopg [6, 7, 8] k1 (fun kq v6 v7 v8 w' => ∃ (x6_2 : List (List Int)) (x7_2 : List Int) (x8_2 : Int), v8 = .int .i64 x8_2 ∧ Aside0 (spec_gmCorners.l1 kq l0 ((rd_L1 l0 0).length : Int) x4_1 x5_1 x6_2 x7_2 x8_2 = some r) ∧ Aside0 (kq ≤ k1) ∧ Aside0 (Kd.V (Kd.slice 3 (Kd.int .i64)) 38 w' w.heap.size (fun k_ => (P0_ k_ ∨ w.heap.size ≤ k_) ∧ some k_ ≠ (v6 : Value).ownBlock ∧ some k_ ≠ (v7 : Value).ownBlock) (.slice (some ad217) l0.length c0) l0) ∧ Aside0 (Kd.V (Kd.slice 3 (Kd.int .i64)) 38 w' w.heap.size (fun k_ => (P0_ k_ ∨ w.heap.size ≤ k_) ∧ some k_ ≠ (v6 : Value).ownBlock ∧ some k_ ≠ (v7 : Value).ownBlock) u4 x4_1) ∧ Aside0 (Kd.N (Kd.slice 3 (Kd.int .i64)) 38 w' w.heap.size (fun k_ => (P0_ k_ ∨ w.heap.size ≤ k_) ∧ some k_ ≠ (v7 : Value).ownBlock) v6 x6_2) ∧ Aside0 (Kd.R (Kd.int .i64) 3 w' w.heap.size (fun k_ => (w.heap.size ≤ k_)) v7 x7_2) ∧ Aside0 (Below w.heap.size w w'))
   case atStart => exact ⟨(([] : List (List Int))), (([] : List Int)), (0), eqF, H', ⟨Nat.le_refl _⟩, ⟨Kd.V_mono (mvV HO_0.out) (fun _ hk => ⟨hk, ⟨(by simp [Value.ownBlock]), (by simp [Value.ownBlock])⟩⟩)⟩, ⟨Kd.V_mono (mvV HO_4.out) (fun _ hk => ⟨hk, ⟨(by simp [Value.ownBlock]), (by simp [Value.ownBlock])⟩⟩)⟩, ⟨by first | exact Kd.S_nil _ _ _ _ _ | exact Kd.N_nil _ _ _ _ _ | exact Kd.V_nil _ _ _ _ _ | exact Kd.Q_nil _ _ _ _ _ | exact Kd.R_nil _ _ _ _ _⟩, ⟨nilE⟩, ⟨mb HB.out⟩⟩
   case round =>
    clear H'
    obtain ⟨x6_2, x7_2, x8_2, rfl, HA, HK2, HO_0, HO_4, HO_6, HO_7, HB⟩ := hrel
    cases gk with
    | zero => exact absurd HA.out (by simp [spec_gmCorners.l1])
    | succ k2 =>
     have H := HA.out
     clear HA
     simp only [spec_gmCorners.l1] at H
     by_cases c7 : x8_2 < (wrap64 (((rd_L1 l0 0).length : Int) + (l0.length : Int)))
     ·rw [if_pos c7] at H
      have c7b0 := decide_eq_true c7
      (try rw [hji3] at c7b0)
      clear c7
      replace H := ifP H; obtain ⟨c8, H⟩ := H
      have c8b0 := eq_true c8
      have c8b1 := decide_eq_true c8
      clear c8
      obtain ⟨ji9, hji9⟩ : ∃ j_ : Int, (shr .i64 x5_1 x8_2) = j_ := ⟨_, rfl⟩
      replace H : (if (Int.tmod (ji9) 2) = 0 then (spec_gmCorners.l1 k2 l0 ((rd_L1 l0 0).length : Int) x4_1 x5_1 x6_2 x7_2 (wrap64 (x8_2 + 1))) else (if x8_2 < ((rd_L1 l0 0).length : Int) then ((spec_gmPure.f ((rd_L1 l0 0).length : Int) x8_2).bind fun t218 => (if x6_2.length < 5864062014805 then (if x7_2.length < 17592186044416 then (spec_gmCorners.l1 k2 l0 ((rd_L1 l0 0).length : Int) x4_1 x5_1 (x6_2 ++ [t218]) (x7_2 ++ [0]) (wrap64 (x8_2 + 1))) else (none)) else (none))) else (if 0 ≤ (wrap64 (x8_2 - ((rd_L1 l0 0).length : Int))) then (if (wrap64 (x8_2 - ((rd_L1 l0 0).length : Int))) < (l0.length : Int) then (if x6_2.length < 5864062014805 then (if x7_2.length < 17592186044416 then (spec_gmCorners.l1 k2 l0 ((rd_L1 l0 0).length : Int) x4_1 x5_1 (x6_2 ++ [rd_L1 l0 (wrap64 (x8_2 - ((rd_L1 l0 0).length : Int)))]) (x7_2 ++ [1]) (wrap64 (x8_2 + 1))) else (none)) else (none)) else (none)) else (none)))) = some r := by first | (rw [hji9] at H; exact H) | (simp only [hji9] at H ⊢; exact H)
      have hji9_ : (x5_1 / 2 ^ min x8_2.toNat 64) = ji9 := hji9
      have hji9z : x8_2 ≤ 64 → (x5_1 / 2 ^ x8_2.toNat) = ji9 := shr_small hji9
      by_cases c10 : (Int.tmod (ji9) 2) = 0
      ·rw [if_pos c10] at H
       have c10b0 := eqb1 c10
       have c10b1 := eqb2 c10
       clear c10
       have H' := Aside0.mk H
       clear H
       go_wp2
       go_roundg k2
       case measure => have := HK1.out; have := HK2.out; omega
       case rel => exact ⟨(x6_2), (x7_2), (wrap64 (x8_2 + 1)), eqF, H', ⟨by have := HK1.out; have := HK2.out; omega⟩, ⟨mvV HO_0.out⟩, ⟨mvV HO_4.out⟩, ⟨mvN HO_6.out⟩, ⟨mvR HO_7.out⟩, ⟨mb HB.out⟩⟩
      rw [if_neg c10] at H
      have c10b0 := neb1 c10
      have c10b1 := neb2 c10
      by_cases c11 : x8_2 < ((rd_L1 l0 0).length : Int)
      ·rw [if_pos c11] at H
       have c11b0 := decide_eq_true c11
       clear c11
       replace H := bindA H; obtain ⟨t218, A12, H⟩ := H
       replace H := ifA H; obtain ⟨LMc13, H⟩ := H
       replace H := nameA (x6_2 ++ [t218]) (fun y221 => (if x7_2.length < 17592186044416 then (spec_gmCorners.l1 k2 l0 ((rd_L1 l0 0).length : Int) x4_1 x5_1 y221 (x7_2 ++ [0]) (wrap64 (x8_2 + 1))) else (none)) = some r) H; obtain ⟨y221, Ny221, H⟩ := H
       replace H := ifA H; obtain ⟨LMc14, H⟩ := H
       replace H := nameA (x7_2 ++ [0]) (fun y224 => (spec_gmCorners.l1 k2 l0 ((rd_L1 l0 0).length : Int) x4_1 x5_1 y221 y224 (wrap64 (x8_2 + 1))) = some r) H; obtain ⟨y224, Ny224, H⟩ := H
       have H' := Aside0.mk H
       clear H
       go_wp2_with (first | ((with_reducible refine gC 44 rfl ?_); refine gL 53 Try.func44 #[.int .i64 ((rd_L1 l0 0).length : Int), .int .i64 x8_2] ?_; (with_reducible refine (spec_gmPure.calls ((rd_L1 l0 0).length : Int) x8_2 t218 _ A12.out).mono ?_); rintro e w15 ⟨v219, rfl, ho0, hb⟩; refine ⟨_, rfl, ?_⟩; replace HO_0 := am (Kd.V_elder' (mvV HO_0.out) (Kd.R_base ho0) hb); replace HO_4 := am (Kd.V_elder' (mvV HO_4.out) (Kd.R_base ho0) hb); replace HO_6 := am (Kd.N_elder' (mvN HO_6.out) (Kd.R_base ho0) hb); have HO220 := am (Kd.R_lower (Kd.R_new' (Kd.R_newM (M := fun k_ => (w.heap.size ≤ k_)) ho0 (below_size (mb HB.out)) (fun k_ h_ => h_)) (Kd.R_lt (mvR HO_7.out))) (below_size (mb HB.out))); replace HO_7 := am (Kd.R_elder' (mvR HO_7.out) (Kd.R_base ho0) hb); replace HB := am (below_step (mb HB.out) hb); (try clear hb ho0); obtain ⟨Ao17, co17, eo17⟩ := Kd.R_slice HO220.out; subst eo17) | ((with_reducible refine gate_builtin (b := .append) (xs := #[.tmp 50, .tmp 54]) rfl ?_); at_builtin; refine Kd.N_append (Kd.slice 3 (Kd.int .i64)) (w0 := w) w.heap.size rfl (.tmp 50) (.tmp 54) 22 38 (.slice none 0 0) 24 rfl Try.underlying22 info38 rfl (by decide) (by omega) u6 x6_2 t218 [.slice Ao17 t218.length co17] (fun k_ => (P0_ k_ ∨ w.heap.size ≤ k_) ∧ some k_ ≠ (u7 : Value).ownBlock) (fun k_ => ((fun k_ => (P0_ k_ ∨ w.heap.size ≤ k_) ∧ some k_ ≠ (u7 : Value).ownBlock)) k_ ∧ some k_ ≠ (u6 : Value).ownBlock) rfl rfl ?aP (fun _ hk => hk) ?aF ?aO ?aB ?aS ?aL ?_; (case aP => exact (FKR (Kd.R_mono (ok' := (fun k_ => ((fun k_ => (P0_ k_ ∨ w.heap.size ≤ k_) ∧ some k_ ≠ (u7 : Value).ownBlock)) k_ ∧ some k_ ≠ (u6 : Value).ownBlock)) (Kd.R_apart' (HO220.out) (Kd.N_typed HO_6.out) (by decide)) (fun k_ hk => ⟨⟨(.inr (hk.1.1.1)), hk.1.2⟩, hk.2⟩)))); (case aB => exact (mb HB.out)); (case aF => exact (fun k_ hk => ⟨(.inr (Nat.le_trans (below_size (mb HB.out)) hk)), Kd.fresh' (Kd.R_lt (mvR HO_7.out)) k_ hk⟩)); (case aO => exact (Kd.N_mono (mvN HO_6.out) (fun _ hk => ⟨hk.1.1, hk.1.2⟩))); (case aS => exact (below_size (mb HB.out))); (case aL => have := LMc13.out; omega); intro v222 w16 ho hb hg hat; rw [← Ny221.out] at ho; replace HO_0 := am (Kd.V_afterv (ok := (fun k_ => (P0_ k_ ∨ w.heap.size ≤ k_) ∧ some k_ ≠ (u7 : Value).ownBlock ∧ some k_ ≠ (.slice Ao17 t218.length co17 : Value).ownBlock)) (Kd.V_mono (mvV HO_0.out) (fun _ hk => ⟨⟨hk.1.1, ⟨hk.1.2.2, hk.2⟩⟩, hk.1.2.1⟩)) hg hat); replace HO_4 := am (Kd.V_afterv (ok := (fun k_ => (P0_ k_ ∨ w.heap.size ≤ k_) ∧ some k_ ≠ (u7 : Value).ownBlock ∧ some k_ ≠ (.slice Ao17 t218.length co17 : Value).ownBlock)) (Kd.V_mono (mvV HO_4.out) (fun _ hk => ⟨⟨hk.1.1, ⟨hk.1.2.2, hk.2⟩⟩, hk.1.2.1⟩)) hg hat); replace HO_7 := am (Kd.R_over' (mvR HO_7.out) (Kd.N_typed (mvN HO_6.out)) (by decide) hg); replace HB := am (hb); have HO223 := am (ho); clear HO_6; clear HO220; clear ho hb hg hat) | ((with_reducible refine gate_builtin (b := .append) (xs := #[.tmp 56, .tmp 57]) rfl ?_); at_builtin; refine Kd.R_append (Kd.int .i64) (w0 := w) w.heap.size rfl (.tmp 56) (.tmp 57) 38 3 (.int .i64 0) 8 rfl Try.underlying38 info3 rfl (by decide) (by omega) u7 x7_2 0 [.int .i64 0] (fun k_ => (w.heap.size ≤ k_)) (fun _ => False) rfl rfl ?aP (fun _ hk => hk.elim) ?aF ?aO ?aB ?aS ?aL ?_; (case aP => exact rfl); (case aB => exact (mb HB.out)); (case aF => exact (fun k_ hk => (Nat.le_trans (below_size (mb HB.out)) hk))); (case aO => exact (Kd.R_mono (mvR HO_7.out) (fun _ hk => hk.1))); (case aS => exact (below_size (mb HB.out))); (case aL => have := LMc14.out; omega); intro v225 w18 ho hb hg hat; rw [← Ny224.out] at ho; replace HO_0 := am (Kd.V_afterv (ok := (fun k_ => (P0_ k_ ∨ w.heap.size ≤ k_) ∧ some k_ ≠ (v222 : Value).ownBlock)) (Kd.V_mono (mvV HO_0.out) (fun _ hk => ⟨⟨hk.1.1, hk.2⟩, hk.1.2.1⟩)) hg hat); replace HO_4 := am (Kd.V_afterv (ok := (fun k_ => (P0_ k_ ∨ w.heap.size ≤ k_) ∧ some k_ ≠ (v222 : Value).ownBlock)) (Kd.V_mono (mvV HO_4.out) (fun _ hk => ⟨⟨hk.1.1, hk.2⟩, hk.1.2.1⟩)) hg hat); replace HO223 := am (Kd.N_afterv (ok := (fun k_ => (P0_ k_ ∨ w.heap.size ≤ k_))) (mvN HO223.out) hg hat); replace HB := am (hb); have HO226 := am (ho); clear HO_7; clear ho hb hg hat))
       go_roundg k2
       case measure => have := HK1.out; have := HK2.out; omega
       case rel => exact ⟨(y221), (y224), (wrap64 (x8_2 + 1)), eqF, H', ⟨by have := HK1.out; have := HK2.out; omega⟩, ⟨Kd.V_mono (mvV HO_0.out) (fun _ hk => ⟨hk.1.1, ⟨hk.1.2, hk.2⟩⟩)⟩, ⟨Kd.V_mono (mvV HO_4.out) (fun _ hk => ⟨hk.1.1, ⟨hk.1.2, hk.2⟩⟩)⟩, ⟨mvN HO223.out⟩, ⟨mvR HO226.out⟩, ⟨mb HB.out⟩⟩
      rw [if_neg c11] at H
      have c11b0 := decide_eq_false c11
      clear c11
      obtain ⟨ji19, hji19⟩ : ∃ j_ : Int, (wrap64 (x8_2 - ((rd_L1 l0 0).length : Int))) = j_ := ⟨_, rfl⟩
      replace H : (if 0 ≤ (ji19) then (if (ji19) < (l0.length : Int) then (if x6_2.length < 5864062014805 then (if x7_2.length < 17592186044416 then (spec_gmCorners.l1 k2 l0 ((rd_L1 l0 0).length : Int) x4_1 x5_1 (x6_2 ++ [rd_L1 l0 (ji19)]) (x7_2 ++ [1]) (wrap64 (x8_2 + 1))) else (none)) else (none)) else (none)) else (none)) = some r := by first | (rw [hji19] at H; exact H) | (simp only [hji19] at H ⊢; exact H)
      have hji19w : (IntKind.i64.wrap (x8_2 - ((rd_L1 l0 0).length : Int))) = ji19 := (i64_w _).trans hji19
      replace H := ifD H; obtain ⟨c20b0, H⟩ := H
      replace H := ifD H; obtain ⟨c21b0, H⟩ := H
      replace H := ifA H; obtain ⟨LMc22, H⟩ := H
      replace H := nameA (x6_2 ++ [rd_L1 l0 (ji19)]) (fun y228 => (if x7_2.length < 17592186044416 then (spec_gmCorners.l1 k2 l0 ((rd_L1 l0 0).length : Int) x4_1 x5_1 y228 (x7_2 ++ [1]) (wrap64 (x8_2 + 1))) else (none)) = some r) H; obtain ⟨y228, Ny228, H⟩ := H
      replace H := ifA H; obtain ⟨LMc23, H⟩ := H
      replace H := nameA (x7_2 ++ [1]) (fun y231 => (spec_gmCorners.l1 k2 l0 ((rd_L1 l0 0).length : Int) x4_1 x5_1 y228 y231 (wrap64 (x8_2 + 1))) = some r) H; obtain ⟨y231, Ny231, H⟩ := H
      have H' := Aside0.mk H
      clear H
      have p227 : 0 ≤ ((ji19) : Int) := odE
      have q227 : (ji19) < (l0.length : Int) := odE
      obtain ⟨ad227, A227_0, c227_0, e227, hx227_0, hl227_0, hi227_0⟩ := at_L1 (Kd.V_reads' HO_0.out).2.2 (ji19) p227 q227
      obtain rfl : ad217 = ad227 := (by injection e227)
      obtain ⟨ce227, hce227, hMe227, hcc227⟩ := Kd.V_get HO_0.out [] (ji19) p227 (by first | exact q227 | exact odE | (have e_ := (Kd.V_reads' HO_0.out).1; omega))
      obtain ⟨ua227_0, uc227_0, rfl, ul227_0, ge227_0⟩ := Kd.FK_slice_open hMe227
      have hv227_0 := hcc227 0 _ rfl
      rw [Nat.add_zero, show ((Kd.slice 3 (Kd.int .i64))).sz = 1 from rfl, Nat.mul_one] at hv227_0
      replace hv227_0 := Option.some.inj (hv227_0.symm.trans hx227_0)
      injection hv227_0 with hva_ hvn_ hvc_
      rw [hva_] at ge227_0
      rw [hvc_] at ul227_0
      have HL227_0 := Aside0.mk (show Kd.V (Kd.int .i64) 3 _ w.heap.size _ _ (rd_L1 l0 (ji19)) from Kd.V_mk ul227_0 ge227_0)
      clear hva_ hvn_ hvc_ ge227_0 ul227_0
      clear hcc227 hce227
      have HR227_0 := Aside0.mk hi227_0
      have HC227_0 := Aside0.mk hl227_0
      clear hi227_0 hl227_0
      replace p227 := eq_true p227
      replace q227 := eq_true q227
      go_wp2_with (first | ((with_reducible refine gate_builtin (b := .append) (xs := #[.tmp 59, .tmp 66]) rfl ?_); at_builtin; refine Kd.N_append (Kd.slice 3 (Kd.int .i64)) (w0 := w) w.heap.size rfl (.tmp 59) (.tmp 66) 22 38 (.slice none 0 0) 24 rfl Try.underlying22 info38 rfl (by decide) (by omega) u6 x6_2 (rd_L1 l0 (ji19)) [.slice A227_0 (rd_L1 l0 (ji19)).length c227_0] (fun k_ => (P0_ k_ ∨ w.heap.size ≤ k_) ∧ some k_ ≠ (u7 : Value).ownBlock) (fun k_ => ((fun k_ => (P0_ k_ ∨ w.heap.size ≤ k_) ∧ some k_ ≠ (u7 : Value).ownBlock)) k_ ∧ some k_ ≠ (u6 : Value).ownBlock) rfl rfl ?aP (fun _ hk => hk) ?aF ?aO ?aB ?aS ?aL ?_; (case aP => exact (Kd.FK_slice_mk (Kd.V_reads' (Kd.V_mono (ok' := (fun k_ => ((fun k_ => (P0_ k_ ∨ w.heap.size ≤ k_) ∧ some k_ ≠ (u7 : Value).ownBlock)) k_ ∧ some k_ ≠ (u6 : Value).ownBlock)) (HL227_0.out) (fun k_ hk => ⟨⟨hk.1, hk.2.2⟩, hk.2.1⟩))).2.1 (Kd.V_F (Kd.V_mono (ok' := (fun k_ => ((fun k_ => (P0_ k_ ∨ w.heap.size ≤ k_) ∧ some k_ ≠ (u7 : Value).ownBlock)) k_ ∧ some k_ ≠ (u6 : Value).ownBlock)) (HL227_0.out) (fun k_ hk => ⟨⟨hk.1, hk.2.2⟩, hk.2.1⟩))))); (case aB => exact (mb HB.out)); (case aF => exact (fun k_ hk => ⟨(.inr (Nat.le_trans (below_size (mb HB.out)) hk)), Kd.fresh' (Kd.R_lt (mvR HO_7.out)) k_ hk⟩)); (case aO => exact (mvN HO_6.out)); (case aS => exact (below_size (mb HB.out))); (case aL => have := LMc22.out; omega); intro v229 w24 ho hb hg hat; rw [← Ny228.out] at ho; replace HO_0 := am (Kd.V_afterv (ok := (fun k_ => (P0_ k_ ∨ w.heap.size ≤ k_) ∧ some k_ ≠ (u7 : Value).ownBlock)) (Kd.V_mono (mvV HO_0.out) (fun _ hk => ⟨⟨hk.1, hk.2.2⟩, hk.2.1⟩)) hg hat); replace HO_4 := am (Kd.V_afterv (ok := (fun k_ => (P0_ k_ ∨ w.heap.size ≤ k_) ∧ some k_ ≠ (u7 : Value).ownBlock)) (Kd.V_mono (mvV HO_4.out) (fun _ hk => ⟨⟨hk.1, hk.2.2⟩, hk.2.1⟩)) hg hat); replace HO_7 := am (Kd.R_over' (mvR HO_7.out) (Kd.N_typed (mvN HO_6.out)) (by decide) hg); replace HL227_0 := am (Kd.V_afterv (ok := (fun k_ => (P0_ k_ ∨ w.heap.size ≤ k_) ∧ some k_ ≠ (u7 : Value).ownBlock)) (Kd.V_mono (mvV HL227_0.out) (fun _ hk => ⟨⟨hk.1, hk.2.2⟩, hk.2.1⟩)) hg hat); replace HB := am (hb); have HO230 := am (ho); clear HO_6; clear ho hb hg hat) | ((with_reducible refine gate_builtin (b := .append) (xs := #[.tmp 68, .tmp 69]) rfl ?_); at_builtin; refine Kd.R_append (Kd.int .i64) (w0 := w) w.heap.size rfl (.tmp 68) (.tmp 69) 38 3 (.int .i64 0) 8 rfl Try.underlying38 info3 rfl (by decide) (by omega) u7 x7_2 1 [.int .i64 1] (fun k_ => (w.heap.size ≤ k_)) (fun _ => False) rfl rfl ?aP (fun _ hk => hk.elim) ?aF ?aO ?aB ?aS ?aL ?_; (case aP => exact rfl); (case aB => exact (mb HB.out)); (case aF => exact (fun k_ hk => (Nat.le_trans (below_size (mb HB.out)) hk))); (case aO => exact (mvR HO_7.out)); (case aS => exact (below_size (mb HB.out))); (case aL => have := LMc23.out; omega); intro v232 w25 ho hb hg hat; rw [← Ny231.out] at ho; replace HO_0 := am (Kd.V_afterv (ok := (fun k_ => (P0_ k_ ∨ w.heap.size ≤ k_) ∧ some k_ ≠ (v229 : Value).ownBlock)) (Kd.V_mono (mvV HO_0.out) (fun _ hk => ⟨⟨hk.1.1, hk.2⟩, hk.1.2⟩)) hg hat); replace HO_4 := am (Kd.V_afterv (ok := (fun k_ => (P0_ k_ ∨ w.heap.size ≤ k_) ∧ some k_ ≠ (v229 : Value).ownBlock)) (Kd.V_mono (mvV HO_4.out) (fun _ hk => ⟨⟨hk.1.1, hk.2⟩, hk.1.2⟩)) hg hat); replace HL227_0 := am (Kd.V_afterv (ok := (fun k_ => (P0_ k_ ∨ w.heap.size ≤ k_) ∧ some k_ ≠ (v229 : Value).ownBlock)) (Kd.V_mono (mvV HL227_0.out) (fun _ hk => ⟨⟨hk.1.1, hk.2⟩, hk.1.2⟩)) hg hat); replace HO230 := am (Kd.N_afterv (ok := (fun k_ => (P0_ k_ ∨ w.heap.size ≤ k_))) (mvN HO230.out) hg hat); replace HB := am (hb); have HO233 := am (ho); clear HO_7; clear ho hb hg hat))
      go_roundg k2
      case measure => have := HK1.out; have := HK2.out; omega
      case rel => exact ⟨(y228), (y231), (wrap64 (x8_2 + 1)), eqF, H', ⟨by have := HK1.out; have := HK2.out; omega⟩, ⟨Kd.V_mono (mvV HO_0.out) (fun _ hk => ⟨hk.1.1, ⟨hk.1.2, hk.2⟩⟩)⟩, ⟨Kd.V_mono (mvV HO_4.out) (fun _ hk => ⟨hk.1.1, ⟨hk.1.2, hk.2⟩⟩)⟩, ⟨mvN HO230.out⟩, ⟨mvR HO233.out⟩, ⟨mb HB.out⟩⟩
     rw [if_neg c7] at H
     have c7b0 := decide_eq_false c7
     (try rw [hji3] at c7b0)
     clear c7
     by_cases c26 : (x6_2.length : Int) = ((rd_L1 l0 0).length : Int)
     rotate_left
     ·rw [if_neg c26] at H
      have c26b0 := neb1 c26
      have c26b1 := neb2 c26
      have c26b2 : (x6_2.length == (rd_L1 l0 0).length) = false := by first | simpa using c26 | (simp at c26 ⊢; omega)
      have H' := Aside0.mk H
      clear H
      obtain ⟨Ao81, co81, eo81⟩ := Kd.N_slice HO_6.out
      subst eo81
      go_wp2
      go_roundg k2
      case measure => have := HK1.out; have := HK2.out; omega
      case rel => exact ⟨(x4_1), (wrap64 (x5_1 + 1)), eqF, H', ⟨by have := HK1.out; have := HK2.out; omega⟩, ⟨Kd.V_mono (mvV HO_0.out) (fun _ hk => hk.1)⟩, ⟨Kd.V_mono (mvV HO_4.out) (fun _ hk => hk.1)⟩, ⟨mb HB.out⟩⟩
     rw [if_pos c26] at H
     have c26b0 := eqb1 c26
     have c26b1 := eqb2 c26
     have c26b2 : (x6_2.length == (rd_L1 l0 0).length) = true := by first | simpa using c26 | (simp at c26 ⊢; omega)
     clear c26
     replace H := bindA H; obtain ⟨t234, A27, H⟩ := H
     by_cases c28 : t234 = 0
     ·rw [if_pos c28] at H
      have c28b0 := eqb1 c28
      have c28b1 := eqb2 c28
      clear c28
      have H' := Aside0.mk H
      clear H
      obtain ⟨Ao29, co29, eo29⟩ := Kd.N_slice HO_6.out
      subst eo29
      go_wp2_with (first | ((with_reducible refine gC 45 rfl ?_); refine gL 76 Try.func45 #[.slice Ao29 x6_2.length co29] ?_; (with_reducible refine (spec_gmDeterminant.calls k2 _ _ x6_2 t234 _ ?side1 ?side2 A27.out).mono ?_); (case side1 => repeat (first | exact (Kd.N_reads' HO_6.out).2.2 | (with_reducible refine Kd.C_alloc ?_ _) | (with_reducible refine Kd.C_drewN ?_ _) | (with_reducible refine Kd.C_drew ?_))); (case side2 => exact (Kd.N_reads' HO_6.out).2.1); rintro e w30 ⟨rfl, hb⟩; refine ⟨_, rfl, ?_⟩; replace HO_0 := am (Kd.V_below (mvV HO_0.out) hb); replace HO_4 := am (Kd.V_below (mvV HO_4.out) hb); replace HO_6 := am (Kd.N_below (mvN HO_6.out) hb); replace HO_7 := am (Kd.R_below (mvR HO_7.out) hb); replace HB := am (below_step (mb HB.out) hb); (try clear hb)))
      go_roundg k2
      case measure => have := HK1.out; have := HK2.out; omega
      case rel => exact ⟨(x4_1), (wrap64 (x5_1 + 1)), eqF, H', ⟨by have := HK1.out; have := HK2.out; omega⟩, ⟨Kd.V_mono (mvV HO_0.out) (fun _ hk => hk.1)⟩, ⟨Kd.V_mono (mvV HO_4.out) (fun _ hk => hk.1)⟩, ⟨mb HB.out⟩⟩
     rw [if_neg c28] at H
     have c28b0 := neb1 c28
     have c28b1 := neb2 c28
     replace H := bindA H; obtain ⟨t235, A31, H⟩ := H
     have H' := Aside0.mk H
     clear H
     obtain ⟨Ao32, co32, eo32⟩ := Kd.N_slice HO_6.out
     subst eo32
     go_wp2_with (first | ((with_reducible refine gC 45 rfl ?_); refine gL 76 Try.func45 #[.slice Ao32 x6_2.length co32] ?_; (with_reducible refine (spec_gmDeterminant.calls k2 _ _ x6_2 t234 _ ?side1 ?side2 A27.out).mono ?_); (case side1 => repeat (first | exact (Kd.N_reads' HO_6.out).2.2 | (with_reducible refine Kd.C_alloc ?_ _) | (with_reducible refine Kd.C_drewN ?_ _) | (with_reducible refine Kd.C_drew ?_))); (case side2 => exact (Kd.N_reads' HO_6.out).2.1); rintro e w33 ⟨rfl, hb⟩; refine ⟨_, rfl, ?_⟩; replace HO_0 := am (Kd.V_below (mvV HO_0.out) hb); replace HO_4 := am (Kd.V_below (mvV HO_4.out) hb); replace HO_6 := am (Kd.N_below (mvN HO_6.out) hb); replace HO_7 := am (Kd.R_below (mvR HO_7.out) hb); replace HB := am (below_step (mb HB.out) hb); (try clear hb)) | ((with_reducible refine gC 46 rfl ?_); refine gL 80 Try.func46 #[.int .i64 t234] ?_; (with_reducible refine (spec_l1Abs.calls t234 t235 _ A31.out).mono ?_); rintro e w' ⟨rfl, ⟨nd, rfl⟩⟩; refine ⟨_, rfl, ?_⟩))
     go_loopg [10, 11, 12] k2 (fun kq v10 v11 v12 w' => ∃ (x7_3 : List Int) (x10_3 : List Int) (x11_3 : Int) (x12_3 : Int), v11 = .int .i64 x11_3 ∧ v12 = .int .i64 x12_3 ∧ Aside0 (spec_gmCorners.l2 kq l0 ((rd_L1 l0 0).length : Int) x4_1 x5_1 x6_2 x7_3 t234 x10_3 x11_3 x12_3 = some r) ∧ Aside0 (kq ≤ k2) ∧ Aside0 (Kd.V (Kd.slice 3 (Kd.int .i64)) 38 w' w.heap.size (fun k_ => (P0_ k_ ∨ w.heap.size ≤ k_) ∧ some k_ ≠ ((.slice Ao32 x6_2.length co32) : Value).ownBlock ∧ some k_ ≠ (u7 : Value).ownBlock ∧ some k_ ≠ (v10 : Value).ownBlock) (.slice (some ad217) l0.length c0) l0) ∧ Aside0 (Kd.V (Kd.slice 3 (Kd.int .i64)) 38 w' w.heap.size (fun k_ => (P0_ k_ ∨ w.heap.size ≤ k_) ∧ some k_ ≠ ((.slice Ao32 x6_2.length co32) : Value).ownBlock ∧ some k_ ≠ (u7 : Value).ownBlock ∧ some k_ ≠ (v10 : Value).ownBlock) u4 x4_1) ∧ Aside0 (Kd.N (Kd.slice 3 (Kd.int .i64)) 38 w' w.heap.size (fun k_ => (P0_ k_ ∨ w.heap.size ≤ k_) ∧ some k_ ≠ (u7 : Value).ownBlock ∧ some k_ ≠ (v10 : Value).ownBlock) (.slice Ao32 x6_2.length co32) x6_2) ∧ Aside0 (Kd.R (Kd.int .i64) 3 w' w.heap.size (fun k_ => (w.heap.size ≤ k_) ∧ some k_ ≠ (v10 : Value).ownBlock) u7 x7_3) ∧ Aside0 (Kd.R (Kd.int .i64) 3 w' w.heap.size (fun k_ => (w.heap.size ≤ k_) ∧ some k_ ≠ (u7 : Value).ownBlock) v10 x10_3) ∧ Aside0 (Below w.heap.size w w'))
     case atStart => exact ⟨(x7_2), (([] : List Int)), (t235), (0), eqF, eqF, H', ⟨Nat.le_refl _⟩, ⟨Kd.V_mono (mvV HO_0.out) (fun _ hk => ⟨hk.1, ⟨hk.2.1, ⟨hk.2.2, (by simp [Value.ownBlock])⟩⟩⟩)⟩, ⟨Kd.V_mono (mvV HO_4.out) (fun _ hk => ⟨hk.1, ⟨hk.2.1, ⟨hk.2.2, (by simp [Value.ownBlock])⟩⟩⟩)⟩, ⟨Kd.N_mono (mvN HO_6.out) (fun _ hk => ⟨hk.1, ⟨hk.2, (by simp [Value.ownBlock])⟩⟩)⟩, ⟨Kd.R_mono (mvR HO_7.out) (fun _ hk => ⟨hk, (by simp [Value.ownBlock])⟩)⟩, ⟨nilE⟩, ⟨mb HB.out⟩⟩
     case round =>
      clear H'
      obtain ⟨x7_3, x10_3, x11_3, x12_3, rfl, rfl, HA, HK3, HO_0, HO_4, HO_6, HO_7, HO_10, HB⟩ := hrel
      cases gk with
      | zero => exact absurd HA.out (by simp [spec_gmCorners.l2])
      | succ k3 =>
       have H := HA.out
       clear HA
       simp only [spec_gmCorners.l2] at H
       by_cases c34 : x12_3 < ((rd_L1 l0 0).length : Int)
       rotate_left
       ·rw [if_neg c34] at H
        have c34b0 := decide_eq_false c34
        clear c34
        replace H := bindA H; obtain ⟨t256, A63, H⟩ := H
        replace H := ifA H; obtain ⟨LMc64, H⟩ := H
        replace H := nameA (x10_3 ++ [t256]) (fun y257 => (spec_gmCorners.l4 k3 l0 ((rd_L1 l0 0).length : Int) x4_1 x5_1 y257 x11_3 (y257.length : Int) 0) = some r) H; obtain ⟨y257, Ny257, H⟩ := H
        have H' := Aside0.mk H
        clear H
        go_wp2_with (first | ((with_reducible refine gC 46 rfl ?_); refine gL 123 Try.func46 #[.int .i64 t234] ?_; (with_reducible refine (spec_l1Abs.calls t234 t256 _ A63.out).mono ?_); rintro e w' ⟨rfl, ⟨nd, rfl⟩⟩; refine ⟨_, rfl, ?_⟩) | ((with_reducible refine gate_builtin (b := .append) (xs := #[.tmp 121, .tmp 124]) rfl ?_); at_builtin; refine Kd.R_append (Kd.int .i64) (w0 := w) w.heap.size rfl (.tmp 121) (.tmp 124) 38 3 (.int .i64 0) 8 rfl Try.underlying38 info3 rfl (by decide) (by omega) u10 x10_3 t256 [.int .i64 t256] (fun k_ => (w.heap.size ≤ k_) ∧ some k_ ≠ (u7 : Value).ownBlock) (fun _ => False) rfl rfl ?aP (fun _ hk => hk.elim) ?aF ?aO ?aB ?aS ?aL ?_; (case aP => exact rfl); (case aB => exact (mb HB.out)); (case aF => exact (fun k_ hk => ⟨(Nat.le_trans (below_size (mb HB.out)) hk), Kd.fresh' (Kd.R_lt (mvR HO_7.out)) k_ hk⟩)); (case aO => exact (mvR HO_10.out)); (case aS => exact (below_size (mb HB.out))); (case aL => have := LMc64.out; omega); intro v258 w65 ho hb hg hat; rw [← Ny257.out] at ho; replace HO_0 := am (Kd.V_afterv (ok := (fun k_ => (P0_ k_ ∨ w.heap.size ≤ k_) ∧ some k_ ≠ (.slice Ao32 x6_2.length co32 : Value).ownBlock ∧ some k_ ≠ (u7 : Value).ownBlock)) (Kd.V_mono (mvV HO_0.out) (fun _ hk => ⟨⟨hk.1, ⟨hk.2.1, hk.2.2.1⟩⟩, hk.2.2.2⟩)) hg hat); replace HO_4 := am (Kd.V_afterv (ok := (fun k_ => (P0_ k_ ∨ w.heap.size ≤ k_) ∧ some k_ ≠ (.slice Ao32 x6_2.length co32 : Value).ownBlock ∧ some k_ ≠ (u7 : Value).ownBlock)) (Kd.V_mono (mvV HO_4.out) (fun _ hk => ⟨⟨hk.1, ⟨hk.2.1, hk.2.2.1⟩⟩, hk.2.2.2⟩)) hg hat); replace HO_6 := am (Kd.N_afterv (ok := (fun k_ => (P0_ k_ ∨ w.heap.size ≤ k_) ∧ some k_ ≠ (u7 : Value).ownBlock)) (Kd.N_mono (mvN HO_6.out) (fun _ hk => ⟨⟨hk.1, hk.2.1⟩, hk.2.2⟩)) hg hat); replace HO_7 := am (Kd.R_after (ok := (fun k_ => (w.heap.size ≤ k_))) (mvR HO_7.out) hg hat); replace HB := am (hb); have HO259 := am (ho); clear HO_10; clear ho hb hg hat; obtain ⟨Ao66, co66, eo66⟩ := Kd.R_slice HO259.out; subst eo66))
        go_loopg [128] k3 (fun kq v128 w' => ∃ (x10_4 : List Int) (x128_4 : Int), v128 = .int .i64 x128_4 ∧ Aside0 (spec_gmCorners.l4 kq l0 ((rd_L1 l0 0).length : Int) x4_1 x5_1 x10_4 x11_3 (y257.length : Int) x128_4 = some r) ∧ Aside0 (kq ≤ k3) ∧ Aside0 (Kd.V (Kd.slice 3 (Kd.int .i64)) 38 w' w.heap.size (fun k_ => (P0_ k_ ∨ w.heap.size ≤ k_) ∧ some k_ ≠ ((.slice Ao66 y257.length co66) : Value).ownBlock) (.slice (some ad217) l0.length c0) l0) ∧ Aside0 (Kd.V (Kd.slice 3 (Kd.int .i64)) 38 w' w.heap.size (fun k_ => (P0_ k_ ∨ w.heap.size ≤ k_) ∧ some k_ ≠ ((.slice Ao66 y257.length co66) : Value).ownBlock) u4 x4_1) ∧ Aside0 (Kd.R (Kd.int .i64) 3 w' w.heap.size (fun k_ => (w.heap.size ≤ k_)) (.slice Ao66 y257.length co66) x10_4) ∧ Aside0 (Below w.heap.size w w'))
        case atStart => exact ⟨(y257), (0), eqF, H', ⟨Nat.le_refl _⟩, ⟨Kd.V_mono (mvV HO_0.out) (fun _ hk => ⟨hk.1.1, hk.2⟩)⟩, ⟨Kd.V_mono (mvV HO_4.out) (fun _ hk => ⟨hk.1.1, hk.2⟩)⟩, ⟨Kd.R_mono (mvR HO259.out) (fun _ hk => hk.1)⟩, ⟨mb HB.out⟩⟩
        case round =>
         clear H'
         obtain ⟨x10_4, x128_4, rfl, HA, HK4, HO_0, HO_4, HO_10, HB⟩ := hrel
         have hl10_4 := (Kd.R_reads' HO_10.out).1
         rw [hl10_4] at HO_10
         (try simp only [hl10_4])
         (try simp only [hl10_4] at HO_0)
         (try simp only [hl10_4] at HO_4)
         cases gk with
         | zero => exact absurd HA.out (by simp [spec_gmCorners.l4])
         | succ k4 =>
          have H := HA.out
          clear HA
          simp only [spec_gmCorners.l4] at H
          by_cases c67 : x128_4 < (y257.length : Int)
          ·rw [if_pos c67] at H
           have c67b0 := decide_eq_true c67
           clear c67
           replace H := ifD H; obtain ⟨c68b0, H⟩ := H
           replace H := ifD H; obtain ⟨c69b0, H⟩ := H
           replace H := ifN H; obtain ⟨c70, H⟩ := H
           have c70b0 := neb1 c70
           have c70b1 := neb2 c70
           replace H := nameA (x10_4.set (x128_4 : Int).toNat (wrap64 (Int.tdiv (rd x10_4 x128_4) x11_3))) (fun y261 => (spec_gmCorners.l4 k4 l0 ((rd_L1 l0 0).length : Int) x4_1 x5_1 y261 x11_3 (y257.length : Int) (wrap64 (x128_4 + 1))) = some r) H; obtain ⟨y261, Ny261, H⟩ := H
           have H' := Aside0.mk H
           clear H
           have p260 : 0 ≤ (x128_4 : Int) := odE
           have q260 : x128_4 < (x10_4.length : Int) := odE
           obtain ⟨ad260, e260, hx260_0⟩ := Kd.at_int (Kd.R_reads' HO_10.out).2.2 x128_4 p260 q260
           cases e260
           replace p260 := eq_true p260
           replace q260 := eq_true q260
           have p71 : 0 ≤ (x128_4 : Int) := odE
           have q71 : (x128_4 : Int) < ((x10_4.length : Int) : Int) := odE
           obtain ⟨go71, co71, eo71, gb71, gl71, cl71, HG71⟩ := Kd.R_form HO_10.out (by omega)
           (first | cases eo71 | (injection eo71 with ea_ en_ ec_; (first | subst ea_ | (injection ea_ with ea_; subst ea_)); subst ec_; clear en_))
           have GB71 := Aside0.mk gb71
           have GG71 := Aside0.mk HG71
           clear gb71 gl71 HG71
           (first | simp only [add_plain] at hx260_0 | skip)
           obtain ⟨hx71_0, hf71_0⟩ := Kd.R_celln 0 HO_10.out (x128_4 : Int) p71 q71
           replace p71 := eq_true p71
           replace q71 := eq_true q71
           have HP72 := Kd.R_putg HO_10.out (x128_4 : Int) (wrap64 (Int.tdiv (rd x10_4 x128_4) x11_3))
           go_wp2_with (first | ((with_reducible refine gate_store (t := 3) (p := 137) rfl ?_); refine store_event (t := 3) (p := 137) (v := ?vo_w73) (w1 := (wr.setCell ⟨go71, (x128_4 : Int).toNat, none⟩ (.int .i64 (wrap64 (Int.tdiv (rd x10_4 x128_4) x11_3))))) ?hg ?ho ?hn ?hr ?_; (case ho => rfl); (case hg => rfl); (case hn => rfl); (case hr => first | (go_simp; done) | (go_simp; rfl)); intro w73 hw; have hg : wr.grownBy w73 (some go71) := (by rw [hw]; exact HP72.2); have hp_ : Kd.R (Kd.int .i64) 3 w73 w.heap.size (fun k_ => (w.heap.size ≤ k_)) (.slice (some ⟨go71, 0, none⟩) x10_4.length co66) y261 := (by rw [hw, Ny261.out]; exact HP72.1); clear HP72; replace HO_0 := am (Kd.V_afterv (v := (.slice (some ⟨go71, 0, none⟩) x10_4.length co66)) (v1 := (.slice (some ⟨go71, 0, none⟩) x10_4.length co66)) (ok := (fun k_ => (P0_ k_ ∨ w.heap.size ≤ k_))) (mvV HO_0.out) hg (.inl rfl)); replace HO_4 := am (Kd.V_afterv (v := (.slice (some ⟨go71, 0, none⟩) x10_4.length co66)) (v1 := (.slice (some ⟨go71, 0, none⟩) x10_4.length co66)) (ok := (fun k_ => (P0_ k_ ∨ w.heap.size ≤ k_))) (mvV HO_4.out) hg (.inl rfl)); replace HO_10 := am (hp_); replace HB := am ((by rw [hw]; exact below_set (HB.out) GB71.out : Below w.heap.size w w73)); clear hg hw hp_))
           (try simp only [← hl10_4])
           go_roundg k4
           case measure => have := HK1.out; have := HK2.out; have := HK3.out; have := HK4.out; omega
           case rel => exact ⟨(y261), (wrap64 (x128_4 + 1)), eqF, H', ⟨by have := HK1.out; have := HK2.out; have := HK3.out; have := HK4.out; omega⟩, ⟨by (try simp only [hl10_4]); (with_reducible repeat (first | apply Kd.V_alloc | apply Kd.V_drewN | apply Kd.V_drew)); exact HO_0.out⟩, ⟨by (try simp only [hl10_4]); (with_reducible repeat (first | apply Kd.V_alloc | apply Kd.V_drewN | apply Kd.V_drew)); exact HO_4.out⟩, ⟨by (try simp only [hl10_4]); (with_reducible repeat (first | apply Kd.R_alloc | apply Kd.R_drewN | apply Kd.R_drew)); exact HO_10.out⟩, ⟨mb HB.out⟩⟩
          rw [if_neg c67] at H
          have c67b0 := decide_eq_false c67
          (try rw [hl10_4] at c67b0)
          clear c67
          replace H := bindA H; obtain ⟨⟨t262, t263⟩, A74, H⟩ := H; dsimp only at H
          by_cases c75 : t263 = true
          rotate_left
          ·replace c75 := Bool.eq_false_iff.mpr c75
           subst c75
           replace H := ifF H
           have H' := Aside0.mk H
           clear H
           go_wp2_with (first | ((with_reducible refine gC 49 rfl ?_); refine gL 142 Try.func49 #[.slice (some ad217) l0.length c0, .slice Ao66 x10_4.length co66] ?_; (with_reducible refine (spec_gmMet.calls k4 _ _ l0 _ _ x10_4 t262 false _ ?side1 ?side2 ?side3 ?side4 A74.out).mono ?_); (case side1 => repeat (first | exact (Kd.V_reads' HO_0.out).2.2 | (with_reducible refine Kd.C_alloc ?_ _) | (with_reducible refine Kd.C_drewN ?_ _) | (with_reducible refine Kd.C_drew ?_))); (case side2 => exact (Kd.V_reads' HO_0.out).2.1); (case side3 => repeat (first | exact (Kd.R_reads' HO_10.out).2.2 | (with_reducible refine Kd.C_alloc ?_ _) | (with_reducible refine Kd.C_drewN ?_ _) | (with_reducible refine Kd.C_drew ?_))); (case side4 => exact (Kd.R_reads' HO_10.out).2.1); rintro e w80 ⟨v264, rfl, ho0, hb⟩; refine ⟨_, rfl, ?_⟩; replace HO_0 := am (Kd.V_elder' (mvV HO_0.out) (Kd.R_base ho0) hb); replace HO_4 := am (Kd.V_elder' (mvV HO_4.out) (Kd.R_base ho0) hb); have HO265 := am (Kd.R_lower (Kd.R_new' (Kd.R_newM (M := fun k_ => (w.heap.size ≤ k_)) ho0 (below_size (mb HB.out)) (fun k_ h_ => h_)) (Kd.R_lt (mvR HO_10.out))) (below_size (mb HB.out))); replace HO_10 := am (Kd.R_elder' (mvR HO_10.out) (Kd.R_base ho0) hb); replace HB := am (below_step (mb HB.out) hb); (try clear hb ho0)))
           (try simp only [← hl10_4])
           go_roundg k4
           case measure => have := HK1.out; have := HK2.out; have := HK3.out; have := HK4.out; omega
           case rel => exact ⟨(x4_1), (wrap64 (x5_1 + 1)), eqF, H', ⟨by have := HK1.out; have := HK2.out; have := HK3.out; have := HK4.out; omega⟩, ⟨by (try simp only [hl10_4]); (with_reducible repeat (first | apply Kd.V_alloc | apply Kd.V_drewN | apply Kd.V_drew)); exact Kd.V_mono HO_0.out (fun _ hk => hk.1.1)⟩, ⟨by (try simp only [hl10_4]); (with_reducible repeat (first | apply Kd.V_alloc | apply Kd.V_drewN | apply Kd.V_drew)); exact Kd.V_mono HO_4.out (fun _ hk => hk.1.1)⟩, ⟨mb HB.out⟩⟩
          subst c75
          replace H := ifT H
          replace H := bindA H; obtain ⟨t266, A76, H⟩ := H
          have H' := Aside0.mk H
          clear H
          go_wp2_with (first | ((with_reducible refine gC 49 rfl ?_); refine gL 142 Try.func49 #[.slice (some ad217) l0.length c0, .slice Ao66 x10_4.length co66] ?_; (with_reducible refine (spec_gmMet.calls k4 _ _ l0 _ _ x10_4 t262 true _ ?side1 ?side2 ?side3 ?side4 A74.out).mono ?_); (case side1 => repeat (first | exact (Kd.V_reads' HO_0.out).2.2 | (with_reducible refine Kd.C_alloc ?_ _) | (with_reducible refine Kd.C_drewN ?_ _) | (with_reducible refine Kd.C_drew ?_))); (case side2 => exact (Kd.V_reads' HO_0.out).2.1); (case side3 => repeat (first | exact (Kd.R_reads' HO_10.out).2.2 | (with_reducible refine Kd.C_alloc ?_ _) | (with_reducible refine Kd.C_drewN ?_ _) | (with_reducible refine Kd.C_drew ?_))); (case side4 => exact (Kd.R_reads' HO_10.out).2.1); rintro e w77 ⟨v264, rfl, ho0, hb⟩; refine ⟨_, rfl, ?_⟩; replace HO_0 := am (Kd.V_elder' (mvV HO_0.out) (Kd.R_base ho0) hb); replace HO_4 := am (Kd.V_elder' (mvV HO_4.out) (Kd.R_base ho0) hb); have HO265 := am (Kd.R_lower (Kd.R_new' (Kd.R_newM (M := fun k_ => (w.heap.size ≤ k_)) ho0 (below_size (mb HB.out)) (fun k_ h_ => h_)) (Kd.R_lt (mvR HO_10.out))) (below_size (mb HB.out))); replace HO_10 := am (Kd.R_elder' (mvR HO_10.out) (Kd.R_base ho0) hb); replace HB := am (below_step (mb HB.out) hb); (try clear hb ho0); obtain ⟨Ao78, co78, eo78⟩ := Kd.V_slice HO_4.out; subst eo78) | ((with_reducible refine gC 50 rfl ?_); refine gL 148 Try.func50 #[.slice Ao78 x4_1.length co78, .slice Ao66 x10_4.length co66] ?_; (with_reducible refine (spec_gmPut.calls k4 (fun k_ => (((P0_ k_ ∨ w.heap.size ≤ k_) ∧ some k_ ≠ (.slice Ao66 x10_4.length co66 : Value).ownBlock) ∧ some k_ ≠ (v264 : Value).ownBlock)) _ _ x4_1 (fun k_ => some k_ = (.slice Ao66 x10_4.length co66 : Value).ownBlock) _ _ x10_4 t266 _ ?side1 ?side2 A76.out).mono ?_); (case side1 => exact HO_4.out); (case side2 => exact Kd.R_V (Kd.R_tight rfl (HO_10.out))); rintro e w79 ⟨v267, rfl, ho0, hb⟩; refine ⟨_, rfl, ?_⟩; replace HO_0 := am (Kd.V_below (mvV HO_0.out) hb); replace HO_4 := am (Kd.V_below (mvV HO_4.out) hb); have HO268 := am (Kd.V_lower (Kd.V_mono (ok' := fun k_ => (P0_ k_ ∨ w.heap.size ≤ k_) ∧ some k_ ≠ (v264 : Value).ownBlock) ho0 (fun k_ hk_ => ⟨Or.elim hk_ (fun hs_ => Or.elim hs_ (fun hs_ => hs_.1.1) (fun hs_ => (.inr (((HO_10.out).1 k_ hs_.symm).1)))) (fun hn_ => (.inr (Nat.le_trans (below_size (mb HB.out)) hn_))), Or.elim hk_ (fun hs_ => Or.elim hs_ (fun hs_ => hs_.2) (fun hs_ => ((HO_10.out).1 k_ hs_.symm).2)) (fun hn_ => (Kd.fresh' (Kd.R_lt (mvR HO265.out)) k_ hn_))⟩)) (below_size (mb HB.out))); replace HO_10 := am (Kd.R_below (mvR HO_10.out) hb); replace HO265 := am (Kd.R_below (mvR HO265.out) hb); replace HB := am (below_step (mb HB.out) hb); (try clear hb ho0)))
          (try simp only [← hl10_4])
          go_roundg k4
          case measure => have := HK1.out; have := HK2.out; have := HK3.out; have := HK4.out; omega
          case rel => exact ⟨(t266), (wrap64 (x5_1 + 1)), eqF, H', ⟨by have := HK1.out; have := HK2.out; have := HK3.out; have := HK4.out; omega⟩, ⟨by (try simp only [hl10_4]); (with_reducible repeat (first | apply Kd.V_alloc | apply Kd.V_drewN | apply Kd.V_drew)); exact Kd.V_mono HO_0.out (fun _ hk => hk.1.1)⟩, ⟨by (try simp only [hl10_4]); (with_reducible repeat (first | apply Kd.V_alloc | apply Kd.V_drewN | apply Kd.V_drew)); exact Kd.V_mono HO268.out (fun _ hk => hk.1)⟩, ⟨mb HB.out⟩⟩
       rw [if_pos c34] at H
       have c34b0 := decide_eq_true c34
       clear c34
       have H' := Aside0.mk H
       clear H
       go_wp2
       go_loopg [13, 88] k3 (fun kq v13 v88 w' => ∃ (x7_4 : List Int) (x10_4 : List Int) (x13_4 : List (List Int)) (x88_4 : Int), v88 = .int .i64 x88_4 ∧ Aside0 (spec_gmCorners.l3 kq l0 ((rd_L1 l0 0).length : Int) x4_1 x5_1 x6_2 x7_4 t234 x10_4 x11_3 x12_3 x13_4 (x6_2.length : Int) x88_4 = some r) ∧ Aside0 (kq ≤ k3) ∧ Aside0 (Kd.V (Kd.slice 3 (Kd.int .i64)) 38 w' w.heap.size (fun k_ => (P0_ k_ ∨ w.heap.size ≤ k_) ∧ some k_ ≠ ((.slice Ao32 x6_2.length co32) : Value).ownBlock ∧ some k_ ≠ (u7 : Value).ownBlock ∧ some k_ ≠ (u10 : Value).ownBlock ∧ some k_ ≠ (v13 : Value).ownBlock) (.slice (some ad217) l0.length c0) l0) ∧ Aside0 (Kd.V (Kd.slice 3 (Kd.int .i64)) 38 w' w.heap.size (fun k_ => (P0_ k_ ∨ w.heap.size ≤ k_) ∧ some k_ ≠ ((.slice Ao32 x6_2.length co32) : Value).ownBlock ∧ some k_ ≠ (u7 : Value).ownBlock ∧ some k_ ≠ (u10 : Value).ownBlock ∧ some k_ ≠ (v13 : Value).ownBlock) u4 x4_1) ∧ Aside0 (Kd.N (Kd.slice 3 (Kd.int .i64)) 38 w' w.heap.size (fun k_ => (P0_ k_ ∨ w.heap.size ≤ k_) ∧ some k_ ≠ (u7 : Value).ownBlock ∧ some k_ ≠ (u10 : Value).ownBlock ∧ some k_ ≠ (v13 : Value).ownBlock) (.slice Ao32 x6_2.length co32) x6_2) ∧ Aside0 (Kd.R (Kd.int .i64) 3 w' w.heap.size (fun k_ => (w.heap.size ≤ k_) ∧ some k_ ≠ (u10 : Value).ownBlock) u7 x7_4) ∧ Aside0 (Kd.R (Kd.int .i64) 3 w' w.heap.size (fun k_ => (w.heap.size ≤ k_) ∧ some k_ ≠ (u7 : Value).ownBlock) u10 x10_4) ∧ Aside0 (Kd.N (Kd.slice 3 (Kd.int .i64)) 38 w' w.heap.size (fun k_ => (P0_ k_ ∨ w.heap.size ≤ k_) ∧ some k_ ≠ ((.slice Ao32 x6_2.length co32) : Value).ownBlock ∧ some k_ ≠ (u7 : Value).ownBlock ∧ some k_ ≠ (u10 : Value).ownBlock) v13 x13_4) ∧ Aside0 (Below w.heap.size w w'))
       case atStart => exact ⟨(x7_3), (x10_3), (([] : List (List Int))), (0), eqF, H', ⟨Nat.le_refl _⟩, ⟨Kd.V_mono (mvV HO_0.out) (fun _ hk => ⟨hk.1, ⟨hk.2.1, ⟨hk.2.2.1, ⟨hk.2.2.2, (by simp [Value.ownBlock])⟩⟩⟩⟩)⟩, ⟨Kd.V_mono (mvV HO_4.out) (fun _ hk => ⟨hk.1, ⟨hk.2.1, ⟨hk.2.2.1, ⟨hk.2.2.2, (by simp [Value.ownBlock])⟩⟩⟩⟩)⟩, ⟨Kd.N_mono (mvN HO_6.out) (fun _ hk => ⟨hk.1, ⟨hk.2.1, ⟨hk.2.2, (by simp [Value.ownBlock])⟩⟩⟩)⟩, ⟨mvR HO_7.out⟩, ⟨mvR HO_10.out⟩, ⟨by first | exact Kd.S_nil _ _ _ _ _ | exact Kd.N_nil _ _ _ _ _ | exact Kd.V_nil _ _ _ _ _ | exact Kd.Q_nil _ _ _ _ _ | exact Kd.R_nil _ _ _ _ _⟩, ⟨mb HB.out⟩⟩
       case round =>
        clear H'
        obtain ⟨x7_4, x10_4, x13_4, x88_4, rfl, HA, HK4, HO_0, HO_4, HO_6, HO_7, HO_10, HO_13, HB⟩ := hrel
        cases gk with
        | zero => exact absurd HA.out (by simp [spec_gmCorners.l3])
        | succ k4 =>
         have H := HA.out
         clear HA
         simp only [spec_gmCorners.l3] at H
         by_cases c35 : x88_4 < (x6_2.length : Int)
         rotate_left
         ·rw [if_neg c35] at H
          have c35b0 := decide_eq_false c35
          clear c35
          replace H := bindA H; obtain ⟨t245, A49, H⟩ := H
          by_cases c50 : t234 < 0
          rotate_left
          ·rw [if_neg c50] at H
           have c50b0 := decide_eq_false c50
           clear c50
           replace H := ifA H; obtain ⟨LMc57, H⟩ := H
           replace H := nameA (x10_4 ++ [t245]) (fun y251 => ((spec_l1Abs.f t245).bind fun t254 => ((spec_gmGcd.f k4 x11_3 t254).bind fun t255 => (spec_gmCorners.l2 k4 l0 ((rd_L1 l0 0).length : Int) x4_1 x5_1 x6_2 x7_4 t234 y251 t255 (wrap64 (x12_3 + 1))))) = some r) H; obtain ⟨y251, Ny251, H⟩ := H
           replace H := bindA H; obtain ⟨t254, A58, H⟩ := H
           replace H := bindA H; obtain ⟨t255, A59, H⟩ := H
           have H' := Aside0.mk H
           clear H
           obtain ⟨Ao60, co60, eo60⟩ := Kd.N_slice HO_13.out
           subst eo60
           go_wp2_with (first | ((with_reducible refine gC 45 rfl ?_); refine gL 108 Try.func45 #[.slice Ao60 x13_4.length co60] ?_; (with_reducible refine (spec_gmDeterminant.calls k4 _ _ x13_4 t245 _ ?side1 ?side2 A49.out).mono ?_); (case side1 => repeat (first | exact (Kd.N_reads' HO_13.out).2.2 | (with_reducible refine Kd.C_alloc ?_ _) | (with_reducible refine Kd.C_drewN ?_ _) | (with_reducible refine Kd.C_drew ?_))); (case side2 => exact (Kd.N_reads' HO_13.out).2.1); rintro e w61 ⟨rfl, hb⟩; refine ⟨_, rfl, ?_⟩; replace HO_0 := am (Kd.V_below (mvV HO_0.out) hb); replace HO_4 := am (Kd.V_below (mvV HO_4.out) hb); replace HO_6 := am (Kd.N_below (mvN HO_6.out) hb); replace HO_7 := am (Kd.R_below (mvR HO_7.out) hb); replace HO_10 := am (Kd.R_below (mvR HO_10.out) hb); replace HO_13 := am (Kd.N_below (mvN HO_13.out) hb); replace HB := am (below_step (mb HB.out) hb); (try clear hb)) | ((with_reducible refine gate_builtin (b := .append) (xs := #[.tmp 113, .tmp 115]) rfl ?_); at_builtin; refine Kd.R_append (Kd.int .i64) (w0 := w) w.heap.size rfl (.tmp 113) (.tmp 115) 38 3 (.int .i64 0) 8 rfl Try.underlying38 info3 rfl (by decide) (by omega) u10 x10_4 t245 [.int .i64 t245] (fun k_ => (w.heap.size ≤ k_) ∧ some k_ ≠ (u7 : Value).ownBlock) (fun _ => False) rfl rfl ?aP (fun _ hk => hk.elim) ?aF ?aO ?aB ?aS ?aL ?_; (case aP => exact rfl); (case aB => exact (mb HB.out)); (case aF => exact (fun k_ hk => ⟨(Nat.le_trans (below_size (mb HB.out)) hk), Kd.fresh' (Kd.R_lt (mvR HO_7.out)) k_ hk⟩)); (case aO => exact (mvR HO_10.out)); (case aS => exact (below_size (mb HB.out))); (case aL => have := LMc57.out; omega); intro v252 w62 ho hb hg hat; rw [← Ny251.out] at ho; replace HO_0 := am (Kd.V_afterv (ok := (fun k_ => (P0_ k_ ∨ w.heap.size ≤ k_) ∧ some k_ ≠ (.slice Ao32 x6_2.length co32 : Value).ownBlock ∧ some k_ ≠ (u7 : Value).ownBlock ∧ some k_ ≠ (.slice Ao60 x13_4.length co60 : Value).ownBlock)) (Kd.V_mono (mvV HO_0.out) (fun _ hk => ⟨⟨hk.1, ⟨hk.2.1, ⟨hk.2.2.1, hk.2.2.2.2⟩⟩⟩, hk.2.2.2.1⟩)) hg hat); replace HO_4 := am (Kd.V_afterv (ok := (fun k_ => (P0_ k_ ∨ w.heap.size ≤ k_) ∧ some k_ ≠ (.slice Ao32 x6_2.length co32 : Value).ownBlock ∧ some k_ ≠ (u7 : Value).ownBlock ∧ some k_ ≠ (.slice Ao60 x13_4.length co60 : Value).ownBlock)) (Kd.V_mono (mvV HO_4.out) (fun _ hk => ⟨⟨hk.1, ⟨hk.2.1, ⟨hk.2.2.1, hk.2.2.2.2⟩⟩⟩, hk.2.2.2.1⟩)) hg hat); replace HO_6 := am (Kd.N_afterv (ok := (fun k_ => (P0_ k_ ∨ w.heap.size ≤ k_) ∧ some k_ ≠ (u7 : Value).ownBlock ∧ some k_ ≠ (.slice Ao60 x13_4.length co60 : Value).ownBlock)) (Kd.N_mono (mvN HO_6.out) (fun _ hk => ⟨⟨hk.1, ⟨hk.2.1, hk.2.2.2⟩⟩, hk.2.2.1⟩)) hg hat); replace HO_7 := am (Kd.R_after (ok := (fun k_ => (w.heap.size ≤ k_))) (mvR HO_7.out) hg hat); replace HO_13 := am (Kd.N_afterv (ok := (fun k_ => (P0_ k_ ∨ w.heap.size ≤ k_) ∧ some k_ ≠ (.slice Ao32 x6_2.length co32 : Value).ownBlock ∧ some k_ ≠ (u7 : Value).ownBlock)) (Kd.N_mono (mvN HO_13.out) (fun _ hk => ⟨⟨hk.1, ⟨hk.2.1, hk.2.2.1⟩⟩, hk.2.2.2⟩)) hg hat); replace HB := am (hb); have HO253 := am (ho); clear HO_10; clear ho hb hg hat) | ((with_reducible refine gC 46 rfl ?_); refine gL 119 Try.func46 #[.int .i64 t245] ?_; (with_reducible refine (spec_l1Abs.calls t245 t254 _ A58.out).mono ?_); rintro e w' ⟨rfl, ⟨nd, rfl⟩⟩; refine ⟨_, rfl, ?_⟩) | ((with_reducible refine gC 48 rfl ?_); refine gL 120 Try.func48 #[.int .i64 x11_3, .int .i64 t254] ?_; (with_reducible refine (spec_gmGcd.calls k4 x11_3 t254 t255 _ A59.out).mono ?_); rintro e w' ⟨rfl, ⟨nd, rfl⟩⟩; refine ⟨_, rfl, ?_⟩))
           go_roundg k4
           case measure => have := HK1.out; have := HK2.out; have := HK3.out; have := HK4.out; omega
           case rel => exact ⟨(x7_4), (y251), (t255), (wrap64 (x12_3 + 1)), eqF, eqF, H', ⟨by have := HK1.out; have := HK2.out; have := HK3.out; have := HK4.out; omega⟩, ⟨Kd.V_mono (mvV HO_0.out) (fun _ hk => ⟨hk.1.1, ⟨hk.1.2.1, ⟨hk.1.2.2.1, hk.2⟩⟩⟩)⟩, ⟨Kd.V_mono (mvV HO_4.out) (fun _ hk => ⟨hk.1.1, ⟨hk.1.2.1, ⟨hk.1.2.2.1, hk.2⟩⟩⟩)⟩, ⟨Kd.N_mono (mvN HO_6.out) (fun _ hk => ⟨hk.1.1, ⟨hk.1.2.1, hk.2⟩⟩)⟩, ⟨mvR HO_7.out⟩, ⟨mvR HO253.out⟩, ⟨mb HB.out⟩⟩
          rw [if_pos c50] at H
          have c50b0 := decide_eq_true c50
          clear c50
          replace H := ifA H; obtain ⟨LMc51, H⟩ := H
          replace H := nameA (x10_4 ++ [wrap64 (-t245)]) (fun y246 => ((spec_l1Abs.f (wrap64 (-t245))).bind fun t249 => ((spec_gmGcd.f k4 x11_3 t249).bind fun t250 => (spec_gmCorners.l2 k4 l0 ((rd_L1 l0 0).length : Int) x4_1 x5_1 x6_2 x7_4 t234 y246 t250 (wrap64 (x12_3 + 1))))) = some r) H; obtain ⟨y246, Ny246, H⟩ := H
          replace H := bindA H; obtain ⟨t249, A52, H⟩ := H
          replace H := bindA H; obtain ⟨t250, A53, H⟩ := H
          have H' := Aside0.mk H
          clear H
          obtain ⟨Ao54, co54, eo54⟩ := Kd.N_slice HO_13.out
          subst eo54
          go_wp2_with (first | ((with_reducible refine gC 45 rfl ?_); refine gL 108 Try.func45 #[.slice Ao54 x13_4.length co54] ?_; (with_reducible refine (spec_gmDeterminant.calls k4 _ _ x13_4 t245 _ ?side1 ?side2 A49.out).mono ?_); (case side1 => repeat (first | exact (Kd.N_reads' HO_13.out).2.2 | (with_reducible refine Kd.C_alloc ?_ _) | (with_reducible refine Kd.C_drewN ?_ _) | (with_reducible refine Kd.C_drew ?_))); (case side2 => exact (Kd.N_reads' HO_13.out).2.1); rintro e w55 ⟨rfl, hb⟩; refine ⟨_, rfl, ?_⟩; replace HO_0 := am (Kd.V_below (mvV HO_0.out) hb); replace HO_4 := am (Kd.V_below (mvV HO_4.out) hb); replace HO_6 := am (Kd.N_below (mvN HO_6.out) hb); replace HO_7 := am (Kd.R_below (mvR HO_7.out) hb); replace HO_10 := am (Kd.R_below (mvR HO_10.out) hb); replace HO_13 := am (Kd.N_below (mvN HO_13.out) hb); replace HB := am (below_step (mb HB.out) hb); (try clear hb)) | ((with_reducible refine gate_builtin (b := .append) (xs := #[.tmp 113, .tmp 115]) rfl ?_); at_builtin; refine Kd.R_append (Kd.int .i64) (w0 := w) w.heap.size rfl (.tmp 113) (.tmp 115) 38 3 (.int .i64 0) 8 rfl Try.underlying38 info3 rfl (by decide) (by omega) u10 x10_4 (wrap64 (-t245)) [.int .i64 (wrap64 (-t245))] (fun k_ => (w.heap.size ≤ k_) ∧ some k_ ≠ (u7 : Value).ownBlock) (fun _ => False) rfl rfl ?aP (fun _ hk => hk.elim) ?aF ?aO ?aB ?aS ?aL ?_; (case aP => exact rfl); (case aB => exact (mb HB.out)); (case aF => exact (fun k_ hk => ⟨(Nat.le_trans (below_size (mb HB.out)) hk), Kd.fresh' (Kd.R_lt (mvR HO_7.out)) k_ hk⟩)); (case aO => exact (mvR HO_10.out)); (case aS => exact (below_size (mb HB.out))); (case aL => have := LMc51.out; omega); intro v247 w56 ho hb hg hat; rw [← Ny246.out] at ho; replace HO_0 := am (Kd.V_afterv (ok := (fun k_ => (P0_ k_ ∨ w.heap.size ≤ k_) ∧ some k_ ≠ (.slice Ao32 x6_2.length co32 : Value).ownBlock ∧ some k_ ≠ (u7 : Value).ownBlock ∧ some k_ ≠ (.slice Ao54 x13_4.length co54 : Value).ownBlock)) (Kd.V_mono (mvV HO_0.out) (fun _ hk => ⟨⟨hk.1, ⟨hk.2.1, ⟨hk.2.2.1, hk.2.2.2.2⟩⟩⟩, hk.2.2.2.1⟩)) hg hat); replace HO_4 := am (Kd.V_afterv (ok := (fun k_ => (P0_ k_ ∨ w.heap.size ≤ k_) ∧ some k_ ≠ (.slice Ao32 x6_2.length co32 : Value).ownBlock ∧ some k_ ≠ (u7 : Value).ownBlock ∧ some k_ ≠ (.slice Ao54 x13_4.length co54 : Value).ownBlock)) (Kd.V_mono (mvV HO_4.out) (fun _ hk => ⟨⟨hk.1, ⟨hk.2.1, ⟨hk.2.2.1, hk.2.2.2.2⟩⟩⟩, hk.2.2.2.1⟩)) hg hat); replace HO_6 := am (Kd.N_afterv (ok := (fun k_ => (P0_ k_ ∨ w.heap.size ≤ k_) ∧ some k_ ≠ (u7 : Value).ownBlock ∧ some k_ ≠ (.slice Ao54 x13_4.length co54 : Value).ownBlock)) (Kd.N_mono (mvN HO_6.out) (fun _ hk => ⟨⟨hk.1, ⟨hk.2.1, hk.2.2.2⟩⟩, hk.2.2.1⟩)) hg hat); replace HO_7 := am (Kd.R_after (ok := (fun k_ => (w.heap.size ≤ k_))) (mvR HO_7.out) hg hat); replace HO_13 := am (Kd.N_afterv (ok := (fun k_ => (P0_ k_ ∨ w.heap.size ≤ k_) ∧ some k_ ≠ (.slice Ao32 x6_2.length co32 : Value).ownBlock ∧ some k_ ≠ (u7 : Value).ownBlock)) (Kd.N_mono (mvN HO_13.out) (fun _ hk => ⟨⟨hk.1, ⟨hk.2.1, hk.2.2.1⟩⟩, hk.2.2.2⟩)) hg hat); replace HB := am (hb); have HO248 := am (ho); clear HO_10; clear ho hb hg hat) | ((with_reducible refine gC 46 rfl ?_); refine gL 119 Try.func46 #[.int .i64 (wrap64 (-t245))] ?_; (with_reducible refine (spec_l1Abs.calls (wrap64 (-t245)) t249 _ A52.out).mono ?_); rintro e w' ⟨rfl, ⟨nd, rfl⟩⟩; refine ⟨_, rfl, ?_⟩) | ((with_reducible refine gC 48 rfl ?_); refine gL 120 Try.func48 #[.int .i64 x11_3, .int .i64 t249] ?_; (with_reducible refine (spec_gmGcd.calls k4 x11_3 t249 t250 _ A53.out).mono ?_); rintro e w' ⟨rfl, ⟨nd, rfl⟩⟩; refine ⟨_, rfl, ?_⟩))
          go_roundg k4
          case measure => have := HK1.out; have := HK2.out; have := HK3.out; have := HK4.out; omega
          case rel => exact ⟨(x7_4), (y246), (t250), (wrap64 (x12_3 + 1)), eqF, eqF, H', ⟨by have := HK1.out; have := HK2.out; have := HK3.out; have := HK4.out; omega⟩, ⟨Kd.V_mono (mvV HO_0.out) (fun _ hk => ⟨hk.1.1, ⟨hk.1.2.1, ⟨hk.1.2.2.1, hk.2⟩⟩⟩)⟩, ⟨Kd.V_mono (mvV HO_4.out) (fun _ hk => ⟨hk.1.1, ⟨hk.1.2.1, ⟨hk.1.2.2.1, hk.2⟩⟩⟩)⟩, ⟨Kd.N_mono (mvN HO_6.out) (fun _ hk => ⟨hk.1.1, ⟨hk.1.2.1, hk.2⟩⟩)⟩, ⟨mvR HO_7.out⟩, ⟨mvR HO248.out⟩, ⟨mb HB.out⟩⟩
         rw [if_pos c35] at H
         have c35b0 := decide_eq_true c35
         clear c35
         replace H := ifD H; obtain ⟨c36b0, H⟩ := H
         replace H := ifD H; obtain ⟨c37b0, H⟩ := H
         replace H := bindA H; obtain ⟨t237, A38, H⟩ := H
         replace H := ifD H; obtain ⟨c39b0, H⟩ := H
         replace H := ifD H; obtain ⟨c40b0, H⟩ := H
         replace H := ifD H; obtain ⟨c41b0, H⟩ := H
         replace H := nameA (t237.set (x12_3 : Int).toNat (rd x7_4 x88_4)) (fun y241 => (if x13_4.length < 5864062014805 then (spec_gmCorners.l3 k4 l0 ((rd_L1 l0 0).length : Int) x4_1 x5_1 x6_2 x7_4 t234 x10_4 x11_3 x12_3 (x13_4 ++ [y241]) (x6_2.length : Int) (wrap64 (x88_4 + 1))) else (none)) = some r) H; obtain ⟨y241, Ny241, H⟩ := H
         replace H := ifA H; obtain ⟨LMc43, H⟩ := H
         replace H := nameA (x13_4 ++ [y241]) (fun y242 => (spec_gmCorners.l3 k4 l0 ((rd_L1 l0 0).length : Int) x4_1 x5_1 x6_2 x7_4 t234 x10_4 x11_3 x12_3 y242 (x6_2.length : Int) (wrap64 (x88_4 + 1))) = some r) H; obtain ⟨y242, Ny242, H⟩ := H
         have H' := Aside0.mk H
         clear H
         have p236 : 0 ≤ (x88_4 : Int) := odE
         have q236 : x88_4 < (x6_2.length : Int) := odE
         obtain ⟨ad236, A236_0, c236_0, e236, hx236_0, hl236_0, hi236_0⟩ := at_L1 (Kd.N_reads' HO_6.out).2.2 x88_4 p236 q236
         cases e236
         obtain ⟨ce236, hce236, hMe236, hcc236⟩ := Kd.N_get HO_6.out [] x88_4 p236 (by first | exact q236 | exact odE | (have e_ := (Kd.N_reads' HO_6.out).1; omega))
         obtain ⟨ua236_0, uc236_0, rfl, ul236_0, ge236_0⟩ := Kd.FK_slice_open hMe236
         have hv236_0 := hcc236 0 _ rfl
         rw [Nat.add_zero, show ((Kd.slice 3 (Kd.int .i64))).sz = 1 from rfl, Nat.mul_one] at hv236_0
         replace hv236_0 := Option.some.inj (hv236_0.symm.trans hx236_0)
         injection hv236_0 with hva_ hvn_ hvc_
         rw [hva_] at ge236_0
         rw [hvc_] at ul236_0
         have HL236_0 := Aside0.mk (show Kd.V (Kd.int .i64) 3 _ w.heap.size _ _ (rd_L1 x6_2 x88_4) from Kd.V_mk ul236_0 ge236_0)
         clear hva_ hvn_ hvc_ ge236_0 ul236_0
         clear hcc236 hce236
         have HR236_0 := Aside0.mk hi236_0
         have HC236_0 := Aside0.mk hl236_0
         clear hi236_0 hl236_0
         replace p236 := eq_true p236
         replace q236 := eq_true q236
         go_wp2_with (first | ((with_reducible refine gC 47 rfl ?_); refine gL 94 Try.func47 #[.slice A236_0 (rd_L1 x6_2 x88_4).length c236_0] ?_; (with_reducible refine (spec_l1Own.calls _ _ (rd_L1 x6_2 x88_4) t237 _ ?side1 ?side2 A38.out).mono ?_); (case side1 => repeat (first | exact (by repeat (first | (with_reducible exact HR236_0.out) | (with_reducible refine Kd.C_alloc ?_ _) | (with_reducible refine Kd.C_drewN ?_ _) | (with_reducible refine Kd.C_drew ?_) | exact HR236_0.out)) | (with_reducible refine Kd.C_alloc ?_ _) | (with_reducible refine Kd.C_drewN ?_ _) | (with_reducible refine Kd.C_drew ?_))); (case side2 => exact HC236_0.out); rintro e w44 ⟨v238, rfl, ho0, hb⟩; refine ⟨_, rfl, ?_⟩; replace HO_0 := am (Kd.V_elder' (mvV HO_0.out) (Kd.R_base ho0) hb); replace HO_4 := am (Kd.V_elder' (mvV HO_4.out) (Kd.R_base ho0) hb); replace HO_6 := am (Kd.N_elder' (mvN HO_6.out) (Kd.R_base ho0) hb); replace HO_13 := am (Kd.N_elder' (mvN HO_13.out) (Kd.R_base ho0) hb); replace HL236_0 := am (Kd.V_elder' (mvV HL236_0.out) (Kd.R_base ho0) hb); have HO239 := am (Kd.R_lower (Kd.R_new' (Kd.R_new' (Kd.R_newM (M := fun k_ => (w.heap.size ≤ k_)) ho0 (below_size (mb HB.out)) (fun k_ h_ => h_)) (Kd.R_lt (mvR HO_7.out))) (Kd.R_lt (mvR HO_10.out))) (below_size (mb HB.out))); replace HO_7 := am (Kd.R_elder' (mvR HO_7.out) (Kd.R_base ho0) hb); replace HO_10 := am (Kd.R_elder' (mvR HO_10.out) (Kd.R_base ho0) hb); replace HR236_0 := am (Kd.C_below (by repeat (first | (with_reducible exact HR236_0.out) | (with_reducible refine Kd.C_alloc ?_ _) | (with_reducible refine Kd.C_drewN ?_ _) | (with_reducible refine Kd.C_drew ?_) | exact HR236_0.out)) hb); replace HB := am (below_step (mb HB.out) hb); (try clear hb ho0); obtain ⟨Ao45, co45, eo45⟩ := Kd.R_slice HO_7.out; subst eo45; have p240 : 0 ≤ (x88_4 : Int) := odE; have q240 : x88_4 < (x7_4.length : Int) := odE; obtain ⟨ad240, e240, hx240_0⟩ := Kd.at_int (Kd.R_reads' HO_7.out).2.2 x88_4 p240 q240; cases e240; replace p240 := eq_true p240; replace q240 := eq_true q240; have p42 : 0 ≤ (x12_3 : Int) := odE; have q42 : (x12_3 : Int) < ((t237.length : Int) : Int) := odE; obtain ⟨go42, co42, eo42, gb42, gl42, cl42, HG42⟩ := Kd.R_form HO239.out (by omega); (first | cases eo42 | (injection eo42 with ea_ en_ ec_; (first | subst ea_ | (injection ea_ with ea_; subst ea_)); subst ec_; clear en_)); have GB42 := Aside0.mk gb42; have GG42 := Aside0.mk HG42; clear gb42 gl42 HG42; obtain ⟨hx42_0, hf42_0⟩ := Kd.R_celln 0 HO239.out (x12_3 : Int) p42 q42; replace p42 := eq_true p42; replace q42 := eq_true q42; have n_ := Aside0.mk (Kd.R_mono (ok' := (fun k_ => (w.heap.size ≤ k_) ∧ some k_ ≠ (.slice (some ad240) x7_4.length co45 : Value).ownBlock ∧ some k_ ≠ (u10 : Value).ownBlock)) HO239.out (fun k_ hk => ⟨hk.1.1.1, ⟨hk.1.2, hk.2⟩⟩)); clear HO239; have HO239 := n_; clear n_; obtain ⟨hy46_, hz46_⟩ := Kd.R_celln 0 HO239.out (x12_3 : Int) (odE) (odE); have HP46 := Kd.R_putg HO239.out (x12_3 : Int) (rd x7_4 x88_4)) | ((with_reducible refine gate_store (t := 3) (p := 101) rfl ?_); refine store_event (t := 3) (p := 101) (v := ?vo_w47) (w1 := (w44.setCell ⟨go42, (x12_3 : Int).toNat, none⟩ (.int .i64 (rd x7_4 x88_4)))) ?hg ?ho ?hn ?hr ?_; (case ho => rfl); (case hg => rfl); (case hn => rfl); (case hr => first | (go_simp; done) | (go_simp; rfl)); intro w47 hw; have hg : w44.grownBy w47 (some go42) := (by rw [hw]; exact HP46.2); have hp_ : Kd.R (Kd.int .i64) 3 w47 w.heap.size (fun k_ => (w.heap.size ≤ k_) ∧ some k_ ≠ (.slice (some ad240) x7_4.length co45 : Value).ownBlock ∧ some k_ ≠ (u10 : Value).ownBlock) (.slice (some ⟨go42, 0, none⟩) t237.length co42) y241 := (by rw [hw, Ny241.out]; exact HP46.1); clear HP46; replace HO_0 := am (Kd.V_afterv (v := (.slice (some ⟨go42, 0, none⟩) t237.length co42)) (v1 := (.slice (some ⟨go42, 0, none⟩) t237.length co42)) (ok := (fun k_ => (P0_ k_ ∨ w.heap.size ≤ k_) ∧ some k_ ≠ (.slice (some ad236) x6_2.length co32 : Value).ownBlock ∧ some k_ ≠ (.slice (some ad240) x7_4.length co45 : Value).ownBlock ∧ some k_ ≠ (u10 : Value).ownBlock ∧ some k_ ≠ (u13 : Value).ownBlock)) (mvV HO_0.out) hg (.inl rfl)); replace HO_4 := am (Kd.V_afterv (v := (.slice (some ⟨go42, 0, none⟩) t237.length co42)) (v1 := (.slice (some ⟨go42, 0, none⟩) t237.length co42)) (ok := (fun k_ => (P0_ k_ ∨ w.heap.size ≤ k_) ∧ some k_ ≠ (.slice (some ad236) x6_2.length co32 : Value).ownBlock ∧ some k_ ≠ (.slice (some ad240) x7_4.length co45 : Value).ownBlock ∧ some k_ ≠ (u10 : Value).ownBlock ∧ some k_ ≠ (u13 : Value).ownBlock)) (mvV HO_4.out) hg (.inl rfl)); replace HO_6 := am (Kd.N_afterv (v := (.slice (some ⟨go42, 0, none⟩) t237.length co42)) (v1 := (.slice (some ⟨go42, 0, none⟩) t237.length co42)) (ok := (fun k_ => (P0_ k_ ∨ w.heap.size ≤ k_) ∧ some k_ ≠ (.slice (some ad240) x7_4.length co45 : Value).ownBlock ∧ some k_ ≠ (u10 : Value).ownBlock ∧ some k_ ≠ (u13 : Value).ownBlock)) (mvN HO_6.out) hg (.inl rfl)); replace HO_7 := am (Kd.R_after (v := (.slice (some ⟨go42, 0, none⟩) t237.length co42)) (v1 := (.slice (some ⟨go42, 0, none⟩) t237.length co42)) (ok := (fun k_ => (w.heap.size ≤ k_) ∧ some k_ ≠ (u10 : Value).ownBlock)) (mvR HO_7.out) hg (.inl rfl)); replace HO_10 := am (Kd.R_after (v := (.slice (some ⟨go42, 0, none⟩) t237.length co42)) (v1 := (.slice (some ⟨go42, 0, none⟩) t237.length co42)) (ok := (fun k_ => (w.heap.size ≤ k_) ∧ some k_ ≠ (.slice (some ad240) x7_4.length co45 : Value).ownBlock)) (mvR HO_10.out) hg (.inl rfl)); replace HO_13 := am (Kd.N_afterv (v := (.slice (some ⟨go42, 0, none⟩) t237.length co42)) (v1 := (.slice (some ⟨go42, 0, none⟩) t237.length co42)) (ok := (fun k_ => (P0_ k_ ∨ w.heap.size ≤ k_) ∧ some k_ ≠ (.slice (some ad236) x6_2.length co32 : Value).ownBlock ∧ some k_ ≠ (.slice (some ad240) x7_4.length co45 : Value).ownBlock ∧ some k_ ≠ (u10 : Value).ownBlock)) (mvN HO_13.out) hg (.inl rfl)); replace HL236_0 := am (Kd.V_afterv (v := (.slice (some ⟨go42, 0, none⟩) t237.length co42)) (v1 := (.slice (some ⟨go42, 0, none⟩) t237.length co42)) (ok := (fun k_ => (P0_ k_ ∨ w.heap.size ≤ k_) ∧ some k_ ≠ (.slice (some ad236) x6_2.length co32 : Value).ownBlock ∧ some k_ ≠ (.slice (some ad240) x7_4.length co45 : Value).ownBlock ∧ some k_ ≠ (u10 : Value).ownBlock ∧ some k_ ≠ (u13 : Value).ownBlock)) (Kd.V_mono (mvV HL236_0.out) (fun _ hk => ⟨⟨hk.1.1.1, ⟨hk.1.2, ⟨hk.1.1.2.1, ⟨hk.1.1.2.2.1, hk.1.1.2.2.2⟩⟩⟩⟩, hk.2⟩)) hg (.inl rfl)); replace HO239 := am (hp_); replace HB := am ((by rw [hw]; exact below_set (HB.out) GB42.out : Below w.heap.size w w47)); clear hg hw hp_) | ((with_reducible refine gate_builtin (b := .append) (xs := #[.tmp 102, .tmp 104]) rfl ?_); at_builtin; refine Kd.N_append (Kd.slice 3 (Kd.int .i64)) (w0 := w) w.heap.size rfl (.tmp 102) (.tmp 104) 22 38 (.slice none 0 0) 24 rfl Try.underlying22 info38 rfl (by decide) (by omega) u13 x13_4 y241 [.slice (some ⟨go42, 0, none⟩) t237.length co42] (fun k_ => (P0_ k_ ∨ w.heap.size ≤ k_) ∧ some k_ ≠ (.slice (some ad236) x6_2.length co32 : Value).ownBlock ∧ some k_ ≠ (.slice (some ad240) x7_4.length co45 : Value).ownBlock ∧ some k_ ≠ (u10 : Value).ownBlock) (fun k_ => ((fun k_ => (P0_ k_ ∨ w.heap.size ≤ k_) ∧ some k_ ≠ (.slice (some ad236) x6_2.length co32 : Value).ownBlock ∧ some k_ ≠ (.slice (some ad240) x7_4.length co45 : Value).ownBlock ∧ some k_ ≠ (u10 : Value).ownBlock)) k_ ∧ some k_ ≠ (u13 : Value).ownBlock) rfl rfl ?aP (fun _ hk => hk) ?aF ?aO ?aB ?aS ?aL ?_; (case aP => exact (FKR (Kd.R_mono (ok' := (fun k_ => ((fun k_ => (P0_ k_ ∨ w.heap.size ≤ k_) ∧ some k_ ≠ (.slice (some ad236) x6_2.length co32 : Value).ownBlock ∧ some k_ ≠ (.slice (some ad240) x7_4.length co45 : Value).ownBlock ∧ some k_ ≠ (u10 : Value).ownBlock)) k_ ∧ some k_ ≠ (u13 : Value).ownBlock)) (Kd.R_apart' (Kd.R_apart' (HO239.out) (Kd.N_typed HO_6.out) (by decide)) (Kd.N_typed HO_13.out) (by decide)) (fun k_ hk => ⟨⟨(.inr (hk.1.1.1)), ⟨hk.1.2, ⟨hk.1.1.2.1, hk.1.1.2.2⟩⟩⟩, hk.2⟩)))); (case aB => exact (mb HB.out)); (case aF => exact (fun k_ hk => ⟨(.inr (Nat.le_trans (below_size (mb HB.out)) hk)), Kd.fresh' (Kd.N_lt (mvN HO_6.out)) k_ hk, Kd.fresh' (Kd.R_lt (mvR HO_7.out)) k_ hk, Kd.fresh' (Kd.R_lt (mvR HO_10.out)) k_ hk⟩)); (case aO => exact (Kd.N_mono (mvN HO_13.out) (fun _ hk => ⟨hk.1.1, ⟨hk.1.2.1, ⟨hk.1.2.2.1, hk.1.2.2.2⟩⟩⟩))); (case aS => exact (below_size (mb HB.out))); (case aL => have := LMc43.out; omega); intro v243 w48 ho hb hg hat; rw [← Ny242.out] at ho; replace HO_0 := am (Kd.V_afterv (ok := (fun k_ => (P0_ k_ ∨ w.heap.size ≤ k_) ∧ some k_ ≠ (.slice (some ad236) x6_2.length co32 : Value).ownBlock ∧ some k_ ≠ (.slice (some ad240) x7_4.length co45 : Value).ownBlock ∧ some k_ ≠ (u10 : Value).ownBlock ∧ some k_ ≠ (.slice (some ⟨go42, 0, none⟩) t237.length co42 : Value).ownBlock)) (Kd.V_mono (mvV HO_0.out) (fun _ hk => ⟨⟨hk.1.1, ⟨hk.1.2.1, ⟨hk.1.2.2.1, ⟨hk.1.2.2.2.1, hk.2⟩⟩⟩⟩, hk.1.2.2.2.2⟩)) hg hat); replace HO_4 := am (Kd.V_afterv (ok := (fun k_ => (P0_ k_ ∨ w.heap.size ≤ k_) ∧ some k_ ≠ (.slice (some ad236) x6_2.length co32 : Value).ownBlock ∧ some k_ ≠ (.slice (some ad240) x7_4.length co45 : Value).ownBlock ∧ some k_ ≠ (u10 : Value).ownBlock ∧ some k_ ≠ (.slice (some ⟨go42, 0, none⟩) t237.length co42 : Value).ownBlock)) (Kd.V_mono (mvV HO_4.out) (fun _ hk => ⟨⟨hk.1.1, ⟨hk.1.2.1, ⟨hk.1.2.2.1, ⟨hk.1.2.2.2.1, hk.2⟩⟩⟩⟩, hk.1.2.2.2.2⟩)) hg hat); replace HO_6 := am (Kd.N_afterv (ok := (fun k_ => (P0_ k_ ∨ w.heap.size ≤ k_) ∧ some k_ ≠ (.slice (some ad240) x7_4.length co45 : Value).ownBlock ∧ some k_ ≠ (u10 : Value).ownBlock ∧ some k_ ≠ (.slice (some ⟨go42, 0, none⟩) t237.length co42 : Value).ownBlock)) (Kd.N_mono (mvN HO_6.out) (fun _ hk => ⟨⟨hk.1.1, ⟨hk.1.2.1, ⟨hk.1.2.2.1, hk.2⟩⟩⟩, hk.1.2.2.2⟩)) hg hat); replace HO_7 := am (Kd.R_over' (mvR HO_7.out) (Kd.N_typed (mvN HO_13.out)) (by decide) hg); replace HO_10 := am (Kd.R_over' (mvR HO_10.out) (Kd.N_typed (mvN HO_13.out)) (by decide) hg); replace HL236_0 := am (Kd.V_afterv (ok := (fun k_ => (P0_ k_ ∨ w.heap.size ≤ k_) ∧ some k_ ≠ (.slice (some ad236) x6_2.length co32 : Value).ownBlock ∧ some k_ ≠ (.slice (some ad240) x7_4.length co45 : Value).ownBlock ∧ some k_ ≠ (u10 : Value).ownBlock ∧ some k_ ≠ (.slice (some ⟨go42, 0, none⟩) t237.length co42 : Value).ownBlock)) (Kd.V_mono (mvV HL236_0.out) (fun _ hk => ⟨⟨hk.1.1, ⟨hk.1.2.1, ⟨hk.1.2.2.1, ⟨hk.1.2.2.2.1, hk.2⟩⟩⟩⟩, hk.1.2.2.2.2⟩)) hg hat); replace HB := am (hb); have HO244 := am (ho); clear HO_13; clear HO239; clear ho hb hg hat))
         go_roundg k4
         case measure => have := HK1.out; have := HK2.out; have := HK3.out; have := HK4.out; omega
         case rel => exact ⟨(x7_4), (x10_4), (y242), (wrap64 (x88_4 + 1)), eqF, H', ⟨by have := HK1.out; have := HK2.out; have := HK3.out; have := HK4.out; omega⟩, ⟨Kd.V_mono (mvV HO_0.out) (fun _ hk => ⟨hk.1.1, ⟨hk.1.2.1, ⟨hk.1.2.2.1, ⟨hk.1.2.2.2.1, hk.2⟩⟩⟩⟩)⟩, ⟨Kd.V_mono (mvV HO_4.out) (fun _ hk => ⟨hk.1.1, ⟨hk.1.2.1, ⟨hk.1.2.2.1, ⟨hk.1.2.2.2.1, hk.2⟩⟩⟩⟩)⟩, ⟨Kd.N_mono (mvN HO_6.out) (fun _ hk => ⟨hk.1.1, ⟨hk.1.2.1, ⟨hk.1.2.2.1, hk.2⟩⟩⟩)⟩, ⟨Kd.R_mono (mvR HO_7.out) (fun _ hk => ⟨hk.1.1, hk.1.2⟩)⟩, ⟨Kd.R_mono (mvR HO_10.out) (fun _ hk => ⟨hk.1.1, hk.1.2⟩)⟩, ⟨mvN HO244.out⟩, ⟨mb HB.out⟩⟩
end Go.Proofs.Ytggiicplcglalaa.All
