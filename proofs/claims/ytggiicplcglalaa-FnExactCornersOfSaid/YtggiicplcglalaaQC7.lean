/- Part of the proof that the law FnExactCornersOf answers true for all arguments. -/
import Derived.Test.YtggiicplcglalaaQC6
section
namespace Go.Proofs.Ytggiicplcglalaa.All
open Go.RowKit Go.Proofs.YtggiicplcglalaaW.PrintWords Go.Proofs.YtggiicplcglalaaW.PrintLast Go.Proofs.YtggiicplcglalaaW.PrintMore
attribute [local go_sem] max2_int min2_int max_two min_two max_three min_three max_four min_four
set_option linter.unusedVariables false
set_option linter.unusedSimpArgs false
mutual
def spec_gmDeterminant.l0 : Nat → List (List Int) → Int → Int → List Int → Int → Int → Option (Int)
 | 0, _, _, _, _, _, _ => none
 | k + 1, x0, x3, x4, x15, x16, x17 => if x17 < x16 then (if 0 ≤ x17 then (if x17 < (x15.length : Int) then (if 1 ≤ (x0.length : Int) then ((some (x0.drop 1 : List (List Int))).bind fun y132 => (spec_gmDeterminant.l1 k x0 x3 x4 x17 (rd x15 x17) ([] : List (List Int)) x15 x16 x17 y132 (y132.length : Int) 0)) else (none)) else (none)) else (none)) else (some x3)
def spec_gmDeterminant.l1 : Nat → List (List Int) → Int → Int → Int → Int → List (List Int) → List Int → Int → Int → List (List Int) → Int → Int → Option (Int)
 | 0, _, _, _, _, _, _, _, _, _, _, _, _ => none
 | k + 1, x0, x3, x4, x5, x6, x7, x15, x16, x17, x23, x24, x25 => if x25 < x24 then (if 0 ≤ x25 then (if x25 < (x23.length : Int) then (if 0 ≤ x5 then (if x5 ≤ ((rd_L1 x23 x25).length : Int) then ((spec_l1Own.f ((rd_L1 x23 x25).take (x5 : Int).toNat)).bind fun t138 => (if 0 ≤ (wrap64 (x5 + 1)) then (if (wrap64 (x5 + 1)) ≤ ((rd_L1 x23 x25).length : Int) then (if t138.length + ((rd_L1 x23 x25).drop ((wrap64 (x5 + 1)) : Int).toNat).length < 17592186044416 then (if x7.length < 5864062014805 then (spec_gmDeterminant.l1 k x0 x3 x4 x5 x6 (x7 ++ [(t138 ++ ((rd_L1 x23 x25).drop ((wrap64 (x5 + 1)) : Int).toNat))]) x15 x16 x17 x23 x24 (wrap64 (x25 + 1))) else (none)) else (none)) else (none)) else (none))) else (none)) else (none)) else (none)) else (none)) else ((spec_gmDeterminant.f k x7).bind fun t148 => (spec_gmDeterminant.l0 k x0 (wrap64 (x3 + (wrap64 ((wrap64 (x4 * x6)) * t148)))) (wrap64 (-x4)) x15 x16 (wrap64 (x17 + 1))))
def spec_gmDeterminant.f : Nat → List (List Int) → Option (Int)
 | 0, _ => none
 | k + 1, l0 => if (l0.length : Int) = 0 then (some 1) else (if 0 < (l0.length : Int) then (spec_gmDeterminant.l0 k l0 0 1 (rd_L1 l0 0) ((rd_L1 l0 0).length : Int) 0) else (none))
end
theorem spec_gmDeterminant.mono_l : ∀ k, (∀ y0, LeO (spec_gmDeterminant.f k y0) (spec_gmDeterminant.f (k + 1) y0)) ∧ (∀ y0 y1 y2 y3 y4 y5, LeO (spec_gmDeterminant.l0 k y0 y1 y2 y3 y4 y5) (spec_gmDeterminant.l0 (k + 1) y0 y1 y2 y3 y4 y5)) ∧ (∀ y0 y1 y2 y3 y4 y5 y6 y7 y8 y9 y10 y11, LeO (spec_gmDeterminant.l1 k y0 y1 y2 y3 y4 y5 y6 y7 y8 y9 y10 y11) (spec_gmDeterminant.l1 (k + 1) y0 y1 y2 y3 y4 y5 y6 y7 y8 y9 y10 y11))
 | 0 => ⟨fun _ r h => by simp [spec_gmDeterminant.f] at h, fun _ _ _ _ _ _ r h => by simp [spec_gmDeterminant.l0] at h, fun _ _ _ _ _ _ _ _ _ _ _ _ r h => by simp [spec_gmDeterminant.l1] at h⟩
 | k + 1 => by
  obtain ⟨ih0, ih1, ih2⟩ := spec_gmDeterminant.mono_l k
  refine ⟨?_, ?_, ?_⟩ <;> intros <;> (first | unfold spec_gmDeterminant.f | unfold spec_gmDeterminant.l0 | unfold spec_gmDeterminant.l1)
  all_goals repeat' first
  | (with_reducible exact ih0 ..)
  | (with_reducible exact ih1 ..)
  | (with_reducible exact ih2 ..)
  | (with_reducible exact LeO.refl _)
  | (with_reducible exact LeO.none _)
  | (with_reducible refine LeO.ite ?_ ?_)
  | (with_reducible refine LeO.bind ?_ (fun _ => ?_))
theorem spec_gmDeterminant.mono : ∀ a0 k, LeO (spec_gmDeterminant.f k a0) (spec_gmDeterminant.f (k + 1) a0) := by
 intro a0 k
 obtain ⟨ih0, ih1, ih2⟩ := spec_gmDeterminant.mono_l k
 exact ih0 a0
def spec_gmDeterminant.T11 : Bool × List (List Nat × List Nat) := (true, [([], []), ([], []), ([], []), ([1, 2], [1, 2]), ([3], [3]), ([], []), ([], []), ([6], [6]), ([5, 7], [5, 7]), ([4, 8, 4], [4, 8]), ([9], [9]), ([0, 10, 9], [0, 10]), ([11, 11, 0, 1, 2, 3, 4, 5, 6, 7, 8, 9, 10, 11], [0, 11])])
def spec_gmDeterminant.B11 : List Nat := [0, 0, 0, 6, 14, 0, 0, 64, 224, 510, 1022, 2047, 4095]
theorem spec_gmDeterminant.tab11 : rtab .any (opsOf Try.f45 11) = spec_gmDeterminant.T11 := by kernel_rfl
theorem spec_gmDeterminant.bits11 : waitsOk spec_gmDeterminant.T11.2 spec_gmDeterminant.B11 = true := by kernel_rfl
set_option maxHeartbeats 8000000 in
set_option maxRecDepth 100000 in
theorem spec_gmDeterminant.calls (k : Nat) : ∀ (A0 : Option Addr) (c0 : Nat) (l0 : List (List Int)) (r : Int) (w : World) (hr0 : Kd.C (Kd.slice 3 (Kd.int .i64)) w A0 l0.length l0) (hc0 : l0.length ≤ c0) (h : spec_gmDeterminant.f k l0 = some r),
  Calls Try.prog 45 #[.slice A0 l0.length c0] w fun e w' => e = .returned (.int .i64 r) ∧ Below w.heap.size w w' := by
 induction k using Nat.strongRecOn with
 | _ k ih =>
 intro A0 c0 l0 r w hr0 hc0 h
 cases k with
 | zero => exact absurd h (by simp [spec_gmDeterminant.f])
 | succ k =>
 simp only [spec_gmDeterminant.f] at h
 have HR0 := Aside0.mk hr0
 have HC0 := Aside0.mk hc0
 clear hr0 hc0
 have HB := Aside0.mk (Below.refl w.heap.size w)
 have H : (if (l0.length : Int) = 0 then (some 1) else (if 0 < (l0.length : Int) then (spec_gmDeterminant.l0 k l0 0 1 (rd_L1 l0 0) ((rd_L1 l0 0).length : Int) 0) else (none))) = some r := h
 clear h
 by_cases c2 : (l0.length : Int) = 0
 ·rw [if_pos c2] at H
  have c2b0 := eqb1 c2
  have c2b1 := eqb2 c2
  clear c2
  obtain rfl := Option.some.inj H
  go_enter Try.func45, Try.ntmps45
  go_wp2
  go_ret
  exact ⟨eqE, mb HB.out⟩
 rw [if_neg c2] at H
 have c2b0 := neb1 c2
 have c2b1 := neb2 c2
 have c2b2 : ¬ (l0 = []) := fun h_ => c2 (by rw [h_]; rfl)
 by_cases c3 : 0 < (l0.length : Int)
 rotate_left
 ·rw [if_neg c3] at H
  exact absurd H (by simp)
 rw [if_pos c3] at H
 have c3b0 := decide_eq_true c3
 have c3b1 : decide (0 < l0.length) = true := decide_eq_true (by omega)
 clear c3
 have H' := Aside0.mk H
 clear H
 have p130 : 0 ≤ (0 : Int) := (by omega)
 have q130 : 0 < (l0.length : Int) := odE
 obtain ⟨ad130, A130_0, c130_0, e130, hx130_0, hl130_0, hi130_0⟩ := at_L1 HR0.out 0 p130 q130
 cases e130
 have qi130 : (0 < l0.length) = True := eq_true (by omega)
 (try rw [show ((0 : Int)).toNat = 0 from rfl] at hx130_0)
 (try rw [Addr.add_zero'] at hx130_0)
 have HR130_0 := Aside0.mk hi130_0
 have HC130_0 := Aside0.mk hl130_0
 clear hi130_0 hl130_0
 replace p130 := eq_true p130
 replace q130 := eq_true q130
 go_enter Try.func45, Try.ntmps45
 go_wp2
 go_loopg [3, 4, 17] k (fun kq v3 v4 v17 w' => ∃ (x3_1 : Int) (x4_1 : Int) (x17_1 : Int), v3 = .int .i64 x3_1 ∧ v4 = .int .i64 x4_1 ∧ v17 = .int .i64 x17_1 ∧ Aside0 (spec_gmDeterminant.l0 kq l0 x3_1 x4_1 (rd_L1 l0 0) ((rd_L1 l0 0).length : Int) x17_1 = some r) ∧ Aside0 (kq ≤ k) ∧ Aside0 (Below w.heap.size w w'))
 case atStart => exact ⟨(0), (1), (0), eqF, eqF, eqF, H', ⟨Nat.le_refl _⟩, ⟨mb HB.out⟩⟩
 case round =>
  clear H'
  obtain ⟨x3_1, x4_1, x17_1, rfl, rfl, rfl, HA, HK1, HB⟩ := hrel
  cases gk with
  | zero => exact absurd HA.out (by simp [spec_gmDeterminant.l0])
  | succ k1 =>
   have H := HA.out
   clear HA
   simp only [spec_gmDeterminant.l0] at H
   by_cases c4 : x17_1 < ((rd_L1 l0 0).length : Int)
   rotate_left
   ·rw [if_neg c4] at H
    have c4b0 := decide_eq_false c4
    clear c4
    obtain rfl := Option.some.inj H
    go_wp2
    go_ret
    exact ⟨eqE, mb HB.out⟩
   rw [if_pos c4] at H
   have c4b0 := decide_eq_true c4
   clear c4
   replace H := ifD H; obtain ⟨c5b0, H⟩ := H
   replace H := ifD H; obtain ⟨c6b0, H⟩ := H
   replace H := ifP H; obtain ⟨c7, H⟩ := H
   have c7b0 := eq_true c7
   have c7b1 := decide_eq_true c7
   clear c7
   replace H := nameA (l0.drop 1) (fun y132 => (spec_gmDeterminant.l1 k1 l0 x3_1 x4_1 x17_1 (rd (rd_L1 l0 0) x17_1) ([] : List (List Int)) (rd_L1 l0 0) ((rd_L1 l0 0).length : Int) x17_1 y132 (y132.length : Int) 0) = some r) H; obtain ⟨y132, Ny132, H⟩ := H
   have H' := Aside0.mk H
   clear H
   have p131 : 0 ≤ (x17_1 : Int) := odE
   have q131 : x17_1 < ((rd_L1 l0 0).length : Int) := odE
   obtain ⟨ad131, e131, hx131_0⟩ := Kd.at_int HR130_0.out x17_1 p131 q131
   cases e131
   replace hx131_0 := (HB.out.cell (World.block_lt_of_cell? w _ hx131_0)).trans hx131_0
   replace p131 := eq_true p131
   replace q131 := eq_true q131
   have q8 : (1 : Int) ≤ ((l0.length : Int) : Int) := odE
   obtain ⟨i08, hi08, _, hsz8, _⟩ := info_parts info38
   have hroom8 : l0.length ≤ c0 := HC0.out
   have hC8 : Kd.C (Kd.slice 3 (Kd.int .i64)) _ (some ad130) l0.length l0 := HR0.out
   have hcut8 := cut_from (P := Try.prog) 22 38 .i64 Try.underlying22 hi08 1 hsz8 (some ad130) l0.length c0 1 (by omega) q8
   have hr8 := Kd.C_drop (m := (1 : Int).toNat) (c := c0) hC8 (by omega) hroom8
   obtain ⟨A8, hA8⟩ : ∃ A1, A1 = (if c0 = (1 : Int).toNat then (some ad130) else ((some ad130) : Option Addr).map (·.add ((1 : Int).toNat * 1))) := ⟨_, rfl⟩
   obtain ⟨c8, hc8⟩ : ∃ c1, c1 = c0 - (1 : Int).toNat := ⟨_, rfl⟩
   have hy8 : y132.length = l0.length - (1 : Int).toNat := (by rw [Ny132.out, List.length_drop] <;> omega)
   rw [show (l0).drop (1 : Int).toNat = y132 from Ny132.out.symm] at hr8
   replace hr8 : Kd.C (Kd.slice 3 (Kd.int .i64)) _ A8 y132.length y132 := (by rw [hA8]; exact hr8)
   rw [← hy8, ← hA8, ← hc8] at hcut8
   have HR135 := Aside0.mk hr8
   have HC135 := Aside0.mk (show y132.length ≤ c8 from by rw [hy8, hc8]; exact Nat.sub_le_sub_right hroom8 _)
   clear hr8 hC8 hroom8 hi08 hsz8 hc8
   have KY8 := Aside0.mk hy8
   have KA8 := Aside0.mk hA8
   clear hy8 hA8
   replace q8 := eq_true q8
   go_wp2
   go_loopg [7, 25] k1 (fun kq v7 v25 w' => ∃ (x7_2 : List (List Int)) (x25_2 : Int), v25 = .int .i64 x25_2 ∧ Aside0 (spec_gmDeterminant.l1 kq l0 x3_1 x4_1 x17_1 (rd (rd_L1 l0 0) x17_1) x7_2 (rd_L1 l0 0) ((rd_L1 l0 0).length : Int) x17_1 y132 (y132.length : Int) x25_2 = some r) ∧ Aside0 (kq ≤ k1) ∧ Aside0 (Kd.S (Kd.slice 3 (Kd.int .i64)) 38 w' w.heap.size (fun _ => True) v7 x7_2) ∧ Aside0 (Below w.heap.size w w'))
   case atStart => exact ⟨(([] : List (List Int))), (0), eqF, H', ⟨Nat.le_refl _⟩, ⟨by first | exact Kd.S_nil _ _ _ _ _ | exact Kd.N_nil _ _ _ _ _ | exact Kd.V_nil _ _ _ _ _ | exact Kd.Q_nil _ _ _ _ _ | exact Kd.R_nil _ _ _ _ _⟩, ⟨mb HB.out⟩⟩
   case round =>
    clear H'
    obtain ⟨x7_2, x25_2, rfl, HA, HK2, HO_7, HB⟩ := hrel
    cases gk with
    | zero => exact absurd HA.out (by simp [spec_gmDeterminant.l1])
    | succ k2 =>
     have H := HA.out
     clear HA
     simp only [spec_gmDeterminant.l1] at H
     by_cases c9 : x25_2 < (y132.length : Int)
     rotate_left
     ·rw [if_neg c9] at H
      have c9b0 := decide_eq_false c9
      clear c9
      replace H := bindA H; obtain ⟨t148, A27, H⟩ := H
      have H' := Aside0.mk H
      clear H
      obtain ⟨Ao28, co28, eo28⟩ := Kd.S_slice HO_7.out
      subst eo28
      go_wp2_with (first | ((with_reducible refine gC 45 rfl ?_); refine gL 47 Try.func45 #[.slice Ao28 x7_2.length co28] ?_; (with_reducible refine (ih k2 (by have := HK1.out; have := HK2.out; omega) _ _ x7_2 t148 _ ?side1 ?side2 A27.out).mono ?_); (case side1 => repeat (first | exact (Kd.S_reads' HO_7.out).2.2 | (with_reducible refine Kd.C_alloc ?_ _) | (with_reducible refine Kd.C_drewN ?_ _) | (with_reducible refine Kd.C_drew ?_))); (case side2 => exact (Kd.S_reads' HO_7.out).2.1); rintro e w29 ⟨rfl, hb⟩; refine ⟨_, rfl, ?_⟩; replace HO_7 := am (Kd.S_below (mvS HO_7.out) hb); replace HB := am (below_step (mb HB.out) hb); (try clear hb)))
      go_roundg k2
      case measure => have := HK1.out; have := HK2.out; omega
      case rel => exact ⟨(wrap64 (x3_1 + (wrap64 ((wrap64 (x4_1 * (rd (rd_L1 l0 0) x17_1))) * t148)))), (wrap64 (-x4_1)), (wrap64 (x17_1 + 1)), eqF, eqF, eqF, H', ⟨by have := HK1.out; have := HK2.out; omega⟩, ⟨mb HB.out⟩⟩
     rw [if_pos c9] at H
     have c9b0 := decide_eq_true c9
     clear c9
     replace H := ifD H; obtain ⟨c10b0, H⟩ := H
     replace H := ifD H; obtain ⟨c11b0, H⟩ := H
     replace H := ifP H; obtain ⟨c12, H⟩ := H
     have c12b0 := eq_true c12
     have c12b1 := decide_eq_true c12
     clear c12
     replace H := ifP H; obtain ⟨c13, H⟩ := H
     have c13b0 := eq_true c13
     have c13b1 := decide_eq_true c13
     clear c13
     replace H := bindA H; obtain ⟨t138, A14, H⟩ := H
     obtain ⟨ji15, hji15⟩ : ∃ j_ : Int, (wrap64 (x17_1 + 1)) = j_ := ⟨_, rfl⟩
     replace H : (if 0 ≤ (ji15) then (if (ji15) ≤ ((rd_L1 y132 x25_2).length : Int) then (if t138.length + ((rd_L1 y132 x25_2).drop ((ji15) : Int).toNat).length < 17592186044416 then (if x7_2.length < 5864062014805 then (spec_gmDeterminant.l1 k2 l0 x3_1 x4_1 x17_1 (rd (rd_L1 l0 0) x17_1) (x7_2 ++ [(t138 ++ ((rd_L1 y132 x25_2).drop ((ji15) : Int).toNat))]) (rd_L1 l0 0) ((rd_L1 l0 0).length : Int) x17_1 y132 (y132.length : Int) (wrap64 (x25_2 + 1))) else (none)) else (none)) else (none)) else (none)) = some r := by first | (rw [hji15] at H; exact H) | (simp only [hji15] at H ⊢; exact H)
     (try rw [hji15] at A14)
     have hji15w : (IntKind.i64.wrap (x17_1 + 1)) = ji15 := (i64_w _).trans hji15
     replace H := ifP H; obtain ⟨c16, H⟩ := H
     have c16b0 := eq_true c16
     have c16b1 := decide_eq_true c16
     clear c16
     replace H := ifP H; obtain ⟨c17, H⟩ := H
     have c17b0 := eq_true c17
     have c17b1 := decide_eq_true c17
     clear c17
     replace H := ifA H; obtain ⟨LMc18, H⟩ := H
     replace H := nameA (t138 ++ ((rd_L1 y132 x25_2).drop ((ji15) : Int).toNat)) (fun y142 => (if x7_2.length < 5864062014805 then (spec_gmDeterminant.l1 k2 l0 x3_1 x4_1 x17_1 (rd (rd_L1 l0 0) x17_1) (x7_2 ++ [y142]) (rd_L1 l0 0) ((rd_L1 l0 0).length : Int) x17_1 y132 (y132.length : Int) (wrap64 (x25_2 + 1))) else (none)) = some r) H; obtain ⟨y142, Ny142, H⟩ := H
     replace H := ifA H; obtain ⟨LMc19, H⟩ := H
     replace H := nameA (x7_2 ++ [y142]) (fun y145 => (spec_gmDeterminant.l1 k2 l0 x3_1 x4_1 x17_1 (rd (rd_L1 l0 0) x17_1) y145 (rd_L1 l0 0) ((rd_L1 l0 0).length : Int) x17_1 y132 (y132.length : Int) (wrap64 (x25_2 + 1))) = some r) H; obtain ⟨y145, Ny145, H⟩ := H
     have H' := Aside0.mk H
     clear H
     have p136 : 0 ≤ (x25_2 : Int) := odE
     have q136 : x25_2 < (y132.length : Int) := odE
     obtain ⟨ad136, A136_0, c136_0, e136, hx136_0, hl136_0, hi136_0⟩ := at_L1 HR135.out x25_2 p136 q136
     cases e136
     replace hx136_0 := (HB.out.cell (World.block_lt_of_cell? w _ hx136_0)).trans hx136_0
     have HR136_0 := Aside0.mk hi136_0
     have HC136_0 := Aside0.mk hl136_0
     clear hi136_0 hl136_0
     replace p136 := eq_true p136
     replace q136 := eq_true q136
     try go_wp2
     replace HO_7 := am (Kd.S_drew HO_7.out)
     replace HB := am (below_drew1 HB.out)
     obtain ⟨i021, hi021, _, hsz21, _⟩ := info_parts info3
     obtain ⟨hcut21, hA21, hC21⟩ := print_take_of (P := Try.prog) (Value.int .i64) 0 38 3 .i64 Try.underlying38 hi021 hsz21 A136_0 c136_0 (rd_L1 y132 x25_2) x17_1 (odE) (odE) HC136_0.out
     have HR137 := Aside0.mk (Kd.C_of_reads (h1 := fun _ => rfl) (hA21 _ (Kd.reads_of_C HR136_0.out)))
     have HC137 := Aside0.mk hC21
     clear hA21 hC21 hi021 hsz21
     obtain ⟨i022, hi022, _, hsz22, _⟩ := info_parts info3
     obtain ⟨A22, hcut22, hA22, hC22⟩ := print_drop_of (P := Try.prog) (Value.int .i64) 0 38 3 .i64 Try.underlying38 hi022 hsz22 A136_0 c136_0 (rd_L1 y132 x25_2) (ji15) (odE) (odE) HC136_0.out
     have HR141 := Aside0.mk (Kd.C_of_reads (h1 := fun _ => rfl) (hA22 _ (Kd.reads_of_C HR136_0.out)))
     have HC141 := Aside0.mk hC22
     clear hA22 hC22 hi022 hsz22
     refine start_ (n := 13) (S := fun w' => True) (ds := []) (Array.replicate 13 false) (by kernel_rfl) rfl rfl trivial (fun hHeld => ?_); refine with_tabW spec_gmDeterminant.tab11 spec_gmDeterminant.bits11 (fun HT_ HW_ => ?_)
     generalize wr.drew = w20 at HO_7 HB HR137 HR141 hHeld ⊢
     refine pY 0 29 HT_ ?_
     refine pY 1 30 HT_ ?_
     refine pY 2 31 HT_ ?_
     refine pY 3 32 HT_ ?_
     refine pY 5 34 HT_ ?_
     refine pY 6 35 HT_ ?_
     refine pY 7 36 HT_ ?_
     refine pY 8 37 HT_ ?_
     refine oY 4 33 HT_ (fun K hK => ?_)
     refine goes_ Try.func47 (by kernel_rfl) rfl #[.slice A136_0 ((rd_L1 y132 x25_2).take (x17_1 : Int).toNat).length c136_0] (by rfl) rfl rfl (by (try simp only [List.map_toArray, List.map_cons, List.map_nil]); first | done | (rw [show ((rd_L1 y132 x25_2).take (x17_1 : Int).toNat).length = x17_1.toNat from (by rw [List.length_take]; have h_ : (x17_1 : Int) ≤ ((rd_L1 y132 x25_2).length : Int) := odE; omega)] <;> rfl) | rfl | (simp only [List.length_drop, List.length_take]; rfl)) ?_
     with_reducible refine (spec_l1Own.calls _ _ ((rd_L1 y132 x25_2).take (x17_1 : Int).toNat) t138 _ ?side1 ?side2 A14.out).mono ?_
     (case side1 => exact mvC (Kd.C_below HR137.out HB.out))
     (case side2 => exact HC137.out)
     rintro e w23 ⟨v139, rfl, ho0, hb⟩
     refine ⟨_, rfl, ?_⟩
     replace HO_7 := am (Kd.S_elder' (mvS HO_7.out) (Kd.R_base ho0) hb)
     have HO140 := am (Kd.R_lower ho0 (below_size (mb HB.out)))
     replace HB := am (below_step (mb HB.out) hb)
     (try clear hb)
     (try clear hb2)
     (try clear hk)
     (try clear hi)
     (try clear ho0)
     refine hK.out _ _ trivial (fun hHeld => ?_)
     clear hK K
     refine nY 33 ?_
     refine oY 9 38 HT_ (fun K hK => ?_)
     refine Kd.R_append_rows_step (Kd.int .i64) (w0 := w) w.heap.size (by rfl) (.tmp 33) (.tmp 37) 38 3 (.int .i64 0) 8 rfl Try.underlying38 info3 rfl (by decide) (by omega) v139 t138 ((rd_L1 y132 x25_2).drop ((ji15) : Int).toNat) _ _ _ (fun _ => True) (fun _ => False) rfl rfl ?aO ?aR (fun _ _ h => h) (fun _ h => h.elim) ?aF ?aB ?aS ?aL ?_
     (case aR => first | (rw [← show ((rd_L1 y132 x25_2).drop ((ji15) : Int).toNat).length = ((rd_L1 y132 x25_2).length - (ji15).toNat) from List.length_drop]; repeat (first | exact (Kd.C_below HR141.out HB.out) | (with_reducible refine Kd.C_alloc ?_ _) | (with_reducible refine Kd.C_drewN ?_ _) | (with_reducible refine Kd.C_drew ?_))) | (repeat (first | exact (Kd.C_below HR141.out HB.out) | (with_reducible refine Kd.C_alloc ?_ _) | (with_reducible refine Kd.C_drewN ?_ _) | (with_reducible refine Kd.C_drew ?_))))
     (case aB => exact (mb HB.out))
     (case aF => exact (fun _ _ => trivial))
     (case aO => exact (mvR HO140.out))
     (case aS => exact (below_size (mb HB.out)))
     (case aL => have := LMc18.out; have hlx_ := (show ((rd_L1 y132 x25_2).drop ((ji15) : Int).toNat).length = ((rd_L1 y132 x25_2).length - (ji15).toNat) from List.length_drop); omega)
     intro v143 w24 ho hb hg hat
     rw [← Ny142.out] at ho
     replace HO_7 := am (Kd.S_after (ok := (fun _ => True)) (mvS HO_7.out) hg hat)
     replace HB := am (hb)
     have HO144 := am (ho)
     clear HO140
     clear ho hb hg hat
     obtain ⟨Ao26, co26, eo26⟩ := Kd.R_slice HO144.out
     (first | subst eo26 | (injection eo26 with f1_ f2_ f3_; have f4_ := f1_.symm; have f5_ := f3_.symm; clear f1_ f2_ f3_; subst f4_; subst f5_))
     refine hK.out _ _ trivial (fun hHeld => ?_)
     clear hK K
     refine nY 38 ?_
     refine oY 10 39 HT_ (fun K hK => ?_)
     refine value_ (w1 := ?_) (v := ?_) (by rfl) rfl ?_ ?_
     rotate_left 2
     ·go_simp
      constructor
      ·rfl
      ·rfl
     refine hK.out _ _ trivial (fun hHeld => ?_)
     clear hK K
     refine nY 39 ?_
     refine oY 11 40 HT_ (fun K hK => ?_)
     refine Kd.S_append_step (Kd.slice 3 (Kd.int .i64)) (w0 := w) w.heap.size (by rfl) (.tmp 29) (.tmp 39) 22 38 (.slice none 0 0) 24 rfl Try.underlying22 info38 rfl (by decide) (by omega) u7 x7_2 y142 [.slice Ao26 y142.length co26] (fun _ => True) (fun k_ => some k_ = (.slice Ao26 y142.length co26 : Value).ownBlock) rfl rfl ?aP (fun k_ hk_ => ((Kd.R_mono (ok' := fun k_ => ((fun _ => True)) k_ ∧ some k_ ≠ (u7 : Value).ownBlock) (Kd.R_apart' (HO144.out) (Kd.S_typed HO_7.out) (by decide)) (fun k_ hk => ⟨trivial, hk.2⟩))).1 k_ hk_.symm) ?aF ?aO ?aB ?aS ?aL ?_
     (case aP => exact Kd.M_row (Kd.R_mono (Kd.R_tight rfl (Kd.R_mono (ok' := fun k_ => ((fun _ => True)) k_ ∧ some k_ ≠ (u7 : Value).ownBlock) (Kd.R_apart' (HO144.out) (Kd.S_typed HO_7.out) (by decide)) (fun k_ hk => ⟨trivial, hk.2⟩))) (fun _ h_ => h_)))
     (case aB => exact (mb HB.out))
     (case aF => exact (fun _ _ => trivial))
     (case aO => exact (Kd.S_mono (mvS HO_7.out) (fun k_ hk => ⟨trivial, fun e_ => hk.2 e_⟩)))
     (case aS => exact (below_size (mb HB.out)))
     (case aL => have := LMc19.out; omega)
     intro v146 w25 ho hb hg hat
     rw [← Ny145.out] at ho
     replace HB := am (hb)
     have HO147 := am (ho)
     clear HO_7
     clear HO144
     clear ho hb hg hat
     refine hK.out _ _ trivial (fun hHeld => ?_)
     clear hK K
     refine nY 40 ?_
     refine pY 12 7 HT_ ?_
     refine dY HT_ ?_
     try go_wp2
     go_roundg k2
     case measure => have := HK1.out; have := HK2.out; omega
     case rel => exact ⟨(y145), (wrap64 (x25_2 + 1)), eqF, H', ⟨by have := HK1.out; have := HK2.out; omega⟩, ⟨mvS HO147.out⟩, ⟨mb HB.out⟩⟩
end Go.Proofs.Ytggiicplcglalaa.All
end
section
namespace Go.Proofs.Ytggiicplcglalaa.All
open Go.RowKit Go.Proofs.YtggiicplcglalaaW.PrintWords Go.Proofs.YtggiicplcglalaaW.PrintLast Go.Proofs.YtggiicplcglalaaW.PrintMore
attribute [local go_sem] max2_int min2_int max_two min_two max_three min_three max_four min_four
set_option linter.unusedVariables false
set_option linter.unusedSimpArgs false
set_option maxHeartbeats 8000000
set_option maxRecDepth 100000
def spec_l1Most.f (a0 : Int) (a1 : Int) : Option (Int) := if a0 > a1 then (some a0) else (some a1)
theorem spec_l1Most.calls (a0 : Int) (a1 : Int) (r : Int) (w : World) (h : spec_l1Most.f a0 a1 = some r) :
  Calls Try.prog 74 #[.int .i64 a0, .int .i64 a1] w fun e w' => e = .returned (.int .i64 r) ∧ Drawn0 w w' := by
 have H : (if a0 > a1 then (some a0) else (some a1)) = some r := h
 clear h
 by_cases c3 : a0 > a1
 ·rw [if_pos c3] at H
  have c3b0 : decide (a1 < a0) = true := decide_eq_true c3
  clear c3
  obtain rfl := Option.some.inj H
  go_enter Try.func74, Try.ntmps74
  go_wp2
  go_ret
  exact ⟨eqD, drE⟩
 rw [if_neg c3] at H
 have c3b0 : decide (a1 < a0) = false := decide_eq_false c3
 clear c3
 obtain rfl := Option.some.inj H
 go_enter Try.func74, Try.ntmps74
 go_wp2
 go_ret
 exact ⟨eqD, drE⟩
def spec_l1Abs.f (a0 : Int) : Option (Int) := (spec_l1Most.f a0 (wrap64 (-a0))).bind fun t149 => (some t149)
theorem spec_l1Abs.calls (a0 : Int) (r : Int) (w : World) (h : spec_l1Abs.f a0 = some r) :
  Calls Try.prog 46 #[.int .i64 a0] w fun e w' => e = .returned (.int .i64 r) ∧ Drawn0 w w' := by
 have H : ((spec_l1Most.f a0 (wrap64 (-a0))).bind fun t149 => (some t149)) = some r := h
 clear h
 replace H := bindA H; obtain ⟨t149, A2, H⟩ := H
 obtain rfl := Option.some.inj H
 go_enter Try.func46, Try.ntmps46
 go_wp2_with (first | ((with_reducible refine gC 74 rfl ?_); refine gL 6 Try.func74 #[.int .i64 a0, .int .i64 (wrap64 (-a0))] ?_; (with_reducible refine (spec_l1Most.calls a0 (wrap64 (-a0)) t149 _ A2.out).mono ?_); rintro e w' ⟨rfl, ⟨nd, rfl⟩⟩; refine ⟨_, rfl, ?_⟩))
 go_ret
 exact ⟨eqD, drE⟩
def spec_gmGcd.l0 : Nat → Int → Int → Option (Int)
 | 0, _, _ => none
 | k + 1, x0, x1 => if x1 = 0 then (some x0) else (spec_gmGcd.l0 k x1 (Int.tmod x0 x1))
def spec_gmGcd.f (k : Nat) (a0 : Int) (a1 : Int) : Option (Int) := spec_gmGcd.l0 k a0 a1
theorem spec_gmGcd.mono_l : ∀ k, (∀ y0 y1, LeO (spec_gmGcd.l0 k y0 y1) (spec_gmGcd.l0 (k + 1) y0 y1))
 | 0 => fun _ _ r h => by simp [spec_gmGcd.l0] at h
 | k + 1 => by
  have ih0 := spec_gmGcd.mono_l k
  ·intro y0 y1
   unfold spec_gmGcd.l0
   repeat' first
   | (with_reducible exact ih0 ..)
   | (with_reducible exact LeO.refl _)
   | (with_reducible exact LeO.none _)
   | (with_reducible refine LeO.ite ?_ ?_)
   | (with_reducible refine LeO.bind ?_ (fun _ => ?_))
theorem spec_gmGcd.mono : ∀ a0 a1 k, LeO (spec_gmGcd.f k a0 a1) (spec_gmGcd.f (k + 1) a0 a1) := by
 intro a0 a1 k
 have ih0 := spec_gmGcd.mono_l k
 unfold spec_gmGcd.f
 repeat' first
   | (with_reducible exact ih0 ..)
   | (with_reducible exact LeO.refl _)
   | (with_reducible exact LeO.none _)
   | (with_reducible refine LeO.ite ?_ ?_)
   | (with_reducible refine LeO.bind ?_ (fun _ => ?_))
theorem spec_gmGcd.calls (k : Nat) (a0 : Int) (a1 : Int) (r : Int) (w : World) (h : spec_gmGcd.f k a0 a1 = some r) :
  Calls Try.prog 48 #[.int .i64 a0, .int .i64 a1] w fun e w' => e = .returned (.int .i64 r) ∧ Drawn0 w w' := by
 have H : (spec_gmGcd.l0 k a0 a1) = some r := h
 clear h
 have H' := Aside0.mk H
 clear H
 go_enter Try.func48, Try.ntmps48
 go_wp2
 go_loopg [0, 1] k (fun kq v0 v1 w' => ∃ (x0_1 : Int) (x1_1 : Int), v0 = .int .i64 x0_1 ∧ v1 = .int .i64 x1_1 ∧ Aside0 (spec_gmGcd.l0 kq x0_1 x1_1 = some r) ∧ Aside0 (kq ≤ k) ∧ Drawn0 w w')
 case atStart => exact ⟨(a0), (a1), eqF, eqF, H', ⟨Nat.le_refl _⟩, by repeat (first | exact Drawn0.refl _ | apply Drawn0.step)⟩
 case round =>
  clear H'
  obtain ⟨x0_1, x1_1, rfl, rfl, HA, HK1, ⟨m1, rfl⟩⟩ := hrel
  cases gk with
  | zero => exact absurd HA.out (by simp [spec_gmGcd.l0])
  | succ k1 =>
   have H := HA.out
   clear HA
   simp only [spec_gmGcd.l0] at H
   by_cases c3 : x1_1 = 0
   ·rw [if_pos c3] at H
    have c3b0 := eqb1 c3
    have c3b1 := eqb2 c3
    clear c3
    obtain rfl := Option.some.inj H
    go_wp2
    go_ret
    exact ⟨eqD, drE⟩
   rw [if_neg c3] at H
   have c3b0 := neb1 c3
   have c3b1 := neb2 c3
   have H' := Aside0.mk H
   clear H
   go_wp2
   go_roundg k1
   case measure => have := HK1.out; omega
   case rel => exact ⟨(x1_1), (Int.tmod x0_1 x1_1), eqF, eqF, H', ⟨by have := HK1.out; omega⟩, by repeat (first | exact Drawn0.refl _ | apply Drawn0.step)⟩
end Go.Proofs.Ytggiicplcglalaa.All
end
