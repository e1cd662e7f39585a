/- Part of the proof that the law FnExactCornersOf answers true for all arguments. -/
import Derived.Test.YtggiicplcglalaaQC13
import Derived.Test.YtggiicplcglalaaQC16
namespace Go.Proofs.Ytggiicplcglalaa.All
open Go.RowKit Go.Proofs.YtggiicplcglalaaW.PrintWords Go.Proofs.YtggiicplcglalaaW.PrintLast Go.Proofs.YtggiicplcglalaaW.PrintMore
attribute [local go_sem] max2_int min2_int max_two min_two max_three min_three max_four min_four
set_option linter.unusedVariables false
set_option linter.unusedSimpArgs false
mutual
def impl_det.l0 : Nat → List (List Int) → Int → Int → Int → Int → Option (Int)
 | 0, _, _, _, _, _ => none
 | k + 1, x0, x3, x4, x18, x19 => if x19 < x18 then (if 1 ≤ (x0.length : Int) then ((some (x0.drop 1 : List (List Int))).bind fun y446 => (impl_det.l1 k x0 x3 x4 x19 (([] : List (List Int))) x18 x19 y446 (y446.length : Int) 0)) else (none)) else (some x3)
def impl_det.l1 : Nat → List (List Int) → Int → Int → Int → List (List Int) → Int → Int → List (List Int) → Int → Int → Option (Int)
 | 0, _, _, _, _, _, _, _, _, _, _ => none
 | k + 1, x0, x3, x4, x5, x6, x18, x19, x24, x25, x26 => if x26 < x25 then (if 0 ≤ x26 then (if x26 < (x24.length : Int) then ((slices_Clone_int_int.f (rd_L1 x24 x26)).bind fun t451 => ((slices_Delete_int_int.f t451 x5 (wrap64 (x5 + 1))).bind fun t454 => (if x6.length < 5864062014805 then (impl_det.l1 k x0 x3 x4 x5 (x6 ++ [t454]) x18 x19 x24 x25 (wrap64 (x26 + 1))) else (none)))) else (none)) else (none)) else (if 0 < (x0.length : Int) then (if 0 ≤ x5 then (if x5 < ((rd_L1 x0 0).length : Int) then ((impl_det.f k x6).bind fun t462 => (impl_det.l0 k x0 (wrap64 (x3 + (wrap64 ((wrap64 (x4 * (rd (rd_L1 x0 0) x5))) * t462)))) (wrap64 (-x4)) x18 (wrap64 (x19 + 1)))) else (none)) else (none)) else (none))
def impl_det.f : Nat → List (List Int) → Option (Int)
 | 0, _ => none
 | k + 1, l0 => if (l0.length : Int) = 1 then (if 0 < (l0.length : Int) then (if 0 < ((rd_L1 l0 0).length : Int) then (some (rd (rd_L1 l0 0) 0)) else (none)) else (none)) else (impl_det.l0 k l0 0 1 (l0.length : Int) 0)
end
theorem impl_det.mono_l : ∀ k, (∀ y0, LeO (impl_det.f k y0) (impl_det.f (k + 1) y0)) ∧ (∀ y0 y1 y2 y3 y4, LeO (impl_det.l0 k y0 y1 y2 y3 y4) (impl_det.l0 (k + 1) y0 y1 y2 y3 y4)) ∧ (∀ y0 y1 y2 y3 y4 y5 y6 y7 y8 y9, LeO (impl_det.l1 k y0 y1 y2 y3 y4 y5 y6 y7 y8 y9) (impl_det.l1 (k + 1) y0 y1 y2 y3 y4 y5 y6 y7 y8 y9))
 | 0 => ⟨fun _ r h => by simp [impl_det.f] at h, fun _ _ _ _ _ r h => by simp [impl_det.l0] at h, fun _ _ _ _ _ _ _ _ _ _ r h => by simp [impl_det.l1] at h⟩
 | k + 1 => by
  obtain ⟨ih0, ih1, ih2⟩ := impl_det.mono_l k
  refine ⟨?_, ?_, ?_⟩ <;> intros <;> (first | unfold impl_det.f | unfold impl_det.l0 | unfold impl_det.l1)
  all_goals repeat' first
  | (with_reducible exact ih0 ..)
  | (with_reducible exact ih1 ..)
  | (with_reducible exact ih2 ..)
  | (with_reducible exact LeO.refl _)
  | (with_reducible exact LeO.none _)
  | (with_reducible refine LeO.ite ?_ ?_)
  | (with_reducible refine LeO.bind ?_ (fun _ => ?_))
theorem impl_det.mono : ∀ a0 k, LeO (impl_det.f k a0) (impl_det.f (k + 1) a0) := by
 intro a0 k
 obtain ⟨ih0, ih1, ih2⟩ := impl_det.mono_l k
 exact ih0 a0
def impl_det.T13 : Bool × List (List Nat × List Nat) := (true, [([], []), ([], []), ([], []), ([2], [2]), ([3], [3]), ([], []), ([4, 5], [4, 5]), ([6], [6]), ([1, 7], [1, 7]), ([], []), ([9], [9]), ([8, 10], [8, 10]), ([0, 11], [0, 11]), ([12, 10, 0, 1, 2, 3, 4, 5, 6, 7, 8, 9, 10, 11, 12], [0, 12])])
def impl_det.B13 : List Nat := [0, 0, 0, 4, 12, 0, 60, 124, 254, 0, 512, 2046, 4095, 8191]
theorem impl_det.tab13 : rtab .any (opsOf Try.f81 13) = impl_det.T13 := by kernel_rfl
theorem impl_det.bits13 : waitsOk impl_det.T13.2 impl_det.B13 = true := by kernel_rfl
set_option maxHeartbeats 8000000 in
set_option maxRecDepth 100000 in
theorem impl_det.calls (k : Nat) : ∀ (A0 : Option Addr) (c0 : Nat) (l0 : List (List Int)) (r : Int) (w : World) (hr0 : Kd.C (Kd.slice 3 (Kd.int .i64)) w A0 l0.length l0) (hc0 : l0.length ≤ c0) (h : impl_det.f k l0 = some r),
  Calls Try.prog 81 #[.slice A0 l0.length c0] w fun e w' => e = .returned (.int .i64 r) ∧ Below w.heap.size w w' := by
 induction k using Nat.strongRecOn with
 | _ k ih =>
 intro A0 c0 l0 r w hr0 hc0 h
 cases k with
 | zero => exact absurd h (by simp [impl_det.f])
 | succ k =>
 simp only [impl_det.f] at h
 have HR0 := Aside0.mk hr0
 have HC0 := Aside0.mk hc0
 clear hr0 hc0
 have HB := Aside0.mk (Below.refl w.heap.size w)
 have H : (if (l0.length : Int) = 1 then (if 0 < (l0.length : Int) then (if 0 < ((rd_L1 l0 0).length : Int) then (some (rd (rd_L1 l0 0) 0)) else (none)) else (none)) else (impl_det.l0 k l0 0 1 (l0.length : Int) 0)) = some r := h
 clear h
 by_cases c2 : (l0.length : Int) = 1
 ·rw [if_pos c2] at H
  have c2b0 := eqb1 c2
  have c2b1 := eqb2 c2
  clear c2
  replace H := ifP H; obtain ⟨c3, H⟩ := H
  have c3b0 := decide_eq_true c3
  have c3b1 : decide (0 < l0.length) = true := decide_eq_true (by omega)
  clear c3
  replace H := ifP H; obtain ⟨c4, H⟩ := H
  have c4b0 := decide_eq_true c4
  have c4b1 : decide (0 < (rd_L1 l0 0).length) = true := decide_eq_true (by omega)
  clear c4
  obtain rfl := Option.some.inj H
  have p441 : 0 ≤ (0 : Int) := (by omega)
  have q441 : 0 < (l0.length : Int) := odE
  obtain ⟨ad441, A441_0, c441_0, e441, hx441_0, hl441_0, hi441_0⟩ := at_L1 HR0.out 0 p441 q441
  cases e441
  have qi441 : (0 < l0.length) = True := eq_true (by omega)
  (try rw [show ((0 : Int)).toNat = 0 from rfl] at hx441_0)
  (try rw [Addr.add_zero'] at hx441_0)
  have HR441_0 := Aside0.mk hi441_0
  have HC441_0 := Aside0.mk hl441_0
  clear hi441_0 hl441_0
  replace p441 := eq_true p441
  replace q441 := eq_true q441
  have p442 : 0 ≤ (0 : Int) := (by omega)
  have q442 : 0 < ((rd_L1 l0 0).length : Int) := odE
  obtain ⟨ad442, e442, hx442_0⟩ := Kd.at_int HR441_0.out 0 p442 q442
  cases e442
  have qi442 : (0 < (rd_L1 l0 0).length) = True := eq_true (by omega)
  (try rw [show ((0 : Int)).toNat = 0 from rfl] at hx442_0)
  (try rw [Addr.add_zero'] at hx442_0)
  replace p442 := eq_true p442
  replace q442 := eq_true q442
  go_enter Try.func81, Try.ntmps81
  go_wp2
  go_ret
  exact ⟨eqE, mb HB.out⟩
 rw [if_neg c2] at H
 have c2b0 := neb1 c2
 have c2b1 := neb2 c2
 have H' := Aside0.mk H
 clear H
 go_enter Try.func81, Try.ntmps81
 go_wp2
 go_loopg [3, 4, 19] k (fun kq v3 v4 v19 w' => ∃ (x3_1 : Int) (x4_1 : Int) (x19_1 : Int), v3 = .int .i64 x3_1 ∧ v4 = .int .i64 x4_1 ∧ v19 = .int .i64 x19_1 ∧ Aside0 (impl_det.l0 kq l0 x3_1 x4_1 (l0.length : Int) x19_1 = some r) ∧ Aside0 (kq ≤ k) ∧ Aside0 (Below w.heap.size w w'))
 case atStart => exact ⟨(0), (1), (0), eqF, eqF, eqF, H', ⟨Nat.le_refl _⟩, ⟨mb HB.out⟩⟩
 case round =>
  clear H'
  obtain ⟨x3_1, x4_1, x19_1, rfl, rfl, rfl, HA, HK1, HB⟩ := hrel
  cases gk with
  | zero => exact absurd HA.out (by simp [impl_det.l0])
  | succ k1 =>
   have H := HA.out
   clear HA
   simp only [impl_det.l0] at H
   by_cases c5 : x19_1 < (l0.length : Int)
   rotate_left
   ·rw [if_neg c5] at H
    have c5b0 := decide_eq_false c5
    clear c5
    obtain rfl := Option.some.inj H
    go_wp2
    go_ret
    exact ⟨eqE, mb HB.out⟩
   rw [if_pos c5] at H
   have c5b0 := decide_eq_true c5
   clear c5
   replace H := nameA (([] : List (List Int))) (fun y443 => (if 1 ≤ (l0.length : Int) then ((some (l0.drop 1 : List (List Int))).bind fun y446 => (impl_det.l1 k1 l0 x3_1 x4_1 x19_1 y443 (l0.length : Int) x19_1 y446 (y446.length : Int) 0)) else (none)) = some r) H; obtain ⟨y443, Ny443, H⟩ := H
   replace H := ifP H; obtain ⟨c6, H⟩ := H
   have c6b0 := eq_true c6
   have c6b1 := decide_eq_true c6
   clear c6
   replace H := nameA (l0.drop 1) (fun y446 => (impl_det.l1 k1 l0 x3_1 x4_1 x19_1 y443 (l0.length : Int) x19_1 y446 (y446.length : Int) 0) = some r) H; obtain ⟨y446, Ny446, H⟩ := H
   have H' := Aside0.mk H
   clear H
   go_wp2_with (first | ((with_reducible refine gate_dst (N := 22) rfl ?_); refine Kd.S_lit (Kd.slice 3 (Kd.int .i64)) _ 38 ?hg (N := 22) ?hd (xs := ([] : List (List Int))) (inner := []) (ok := fun _ => True) (okp := fun _ => True) ?hr ?hp (fun _ hk => hk) trivial (Below.refl _ _) (Nat.le_refl _) (by simp) ?_; (case hd => rfl); (case hg => rfl); (case hr => first | (go_simp; done) | (go_simp; rfl)); (case hp => exact (Reps.none _ _)); intro v444 w7 ho8 hb hg_ hnew_; clear hg_ hnew_; (first | rw [← Ny443.out] at ho8 | (simp only [Int.reduceToNat] at ho8; rw [← Ny443.out] at ho8)); have HO445 := am (Kd.S_lower ho8 (below_size (mb HB.out))); replace HB := am (below_step (mb HB.out) hb); clear hb ho8; have q9 : (1 : Int) ≤ ((l0.length : Int) : Int) := odE; obtain ⟨i09, hi09, _, hsz9, _⟩ := info_parts info38; have hroom9 : l0.length ≤ c0 := HC0.out; have hC9 : Kd.C (Kd.slice 3 (Kd.int .i64)) _ A0 l0.length l0 := HR0.out; have hcut9 := cut_from (P := Try.prog) 22 38 .i64 Try.underlying22 hi09 1 hsz9 A0 l0.length c0 1 (by omega) q9; have hr9 := Kd.C_drop (m := (1 : Int).toNat) (c := c0) hC9 (by omega) hroom9; obtain ⟨A9, hA9⟩ : ∃ A1, A1 = (if c0 = (1 : Int).toNat then A0 else (A0 : Option Addr).map (·.add ((1 : Int).toNat * 1))) := ⟨_, rfl⟩; obtain ⟨c9, hc9⟩ : ∃ c1, c1 = c0 - (1 : Int).toNat := ⟨_, rfl⟩; have hy9 : y446.length = l0.length - (1 : Int).toNat := (by rw [Ny446.out, List.length_drop] <;> omega); rw [show (l0).drop (1 : Int).toNat = y446 from Ny446.out.symm] at hr9; replace hr9 : Kd.C (Kd.slice 3 (Kd.int .i64)) _ A9 y446.length y446 := (by rw [hA9]; exact hr9); rw [← hy9, ← hA9, ← hc9] at hcut9; have HR449 := Aside0.mk hr9; have HC449 := Aside0.mk (show y446.length ≤ c9 from by rw [hy9, hc9]; exact Nat.sub_le_sub_right hroom9 _); clear hr9 hC9 hroom9 hi09 hsz9 hc9; have KY9 := Aside0.mk hy9; have KA9 := Aside0.mk hA9; clear hy9 hA9; replace q9 := eq_true q9))
   go_loopg [6, 26] k1 (fun kq v6 v26 w' => ∃ (x6_2 : List (List Int)) (x26_2 : Int), v26 = .int .i64 x26_2 ∧ Aside0 (impl_det.l1 kq l0 x3_1 x4_1 x19_1 x6_2 (l0.length : Int) x19_1 y446 (y446.length : Int) x26_2 = some r) ∧ Aside0 (kq ≤ k1) ∧ Aside0 (Kd.S (Kd.slice 3 (Kd.int .i64)) 38 w' w.heap.size (fun _ => True) v6 x6_2) ∧ Aside0 (Below w.heap.size w w'))
   case atStart => exact ⟨(y443), (0), eqF, H', ⟨Nat.le_refl _⟩, ⟨mvS HO445.out⟩, ⟨mb HB.out⟩⟩
   case round =>
    clear H'
    obtain ⟨x6_2, x26_2, rfl, HA, HK2, HO_6, HB⟩ := hrel
    cases gk with
    | zero => exact absurd HA.out (by simp [impl_det.l1])
    | succ k2 =>
     have H := HA.out
     clear HA
     simp only [impl_det.l1] at H
     by_cases c10 : x26_2 < (y446.length : Int)
     rotate_left
     ·rw [if_neg c10] at H
      have c10b0 := decide_eq_false c10
      clear c10
      replace H := ifP H; obtain ⟨c21, H⟩ := H
      have c21b0 := decide_eq_true c21
      have c21b1 : decide (0 < l0.length) = true := decide_eq_true (by omega)
      clear c21
      replace H := ifD H; obtain ⟨c22b0, H⟩ := H
      replace H := ifD H; obtain ⟨c23b0, H⟩ := H
      replace H := bindA H; obtain ⟨t462, A24, H⟩ := H
      have H' := Aside0.mk H
      clear H
      try go_wp2
      replace HO_6 := am (Kd.S_drew HO_6.out)
      replace HB := am (below_drew1 HB.out)
      have p460 : 0 ≤ (0 : Int) := (by omega)
      have q460 : 0 < (l0.length : Int) := odE
      obtain ⟨ad460, A460_0, c460_0, e460, hx460_0, hl460_0, hi460_0⟩ := at_L1 HR0.out 0 p460 q460
      have hw460_0 := hx460_0
      (try rw [show ((0 : Int)).toNat = 0 from rfl] at hw460_0)
      (try rw [show 0 * 1 = 0 from rfl] at hw460_0)
      (try rw [Addr.add_zero'] at hw460_0)
      cases e460
      have qi460 : (0 < l0.length) = True := eq_true (by omega)
      (try rw [show ((0 : Int)).toNat = 0 from rfl] at hx460_0)
      (try rw [Addr.add_zero'] at hx460_0)
      replace hx460_0 := (HB.out.cell (World.block_lt_of_cell? w _ hx460_0)).trans hx460_0
      have HR460_0 := Aside0.mk hi460_0
      have HC460_0 := Aside0.mk hl460_0
      clear hi460_0 hl460_0
      replace p460 := eq_true p460
      replace q460 := eq_true q460
      have p461 : 0 ≤ (x19_1 : Int) := odE
      have q461 : x19_1 < ((rd_L1 l0 0).length : Int) := odE
      obtain ⟨ad461, e461, hx461_0⟩ := Kd.at_int HR460_0.out x19_1 p461 q461
      have hw461_0 := hx461_0
      cases e461
      replace hx461_0 := (HB.out.cell (World.block_lt_of_cell? w _ hx461_0)).trans hx461_0
      replace p461 := eq_true p461
      replace q461 := eq_true q461
      obtain ⟨Ao26, co26, eo26⟩ := Kd.S_slice HO_6.out
      (first | subst eo26 | (injection eo26 with f1_ f2_ f3_; have f4_ := f1_.symm; have f5_ := f3_.symm; clear f1_ f2_ f3_; subst f4_; subst f5_))
      refine start_ (n := 14) (S := fun w' => w'.cell? ad460 = some (.slice (some ad461) (rd_L1 l0 0).length c460_0) ∧ w'.cell? (ad461.add (x19_1).toNat) = some (.int .i64 (rd (rd_L1 l0 0) x19_1))) (ds := []) (Array.replicate 14 false) (by kernel_rfl) rfl rfl ⟨((HB.out.cell (World.block_lt_of_cell? w _ hw460_0)).trans hw460_0), ((HB.out.cell (World.block_lt_of_cell? w _ hw461_0)).trans hw461_0)⟩ (fun hHeld => ?_); refine with_tabW impl_det.tab13 impl_det.bits13 (fun HT_ HW_ => ?_)
      generalize wr.drew = w25 at HO_6 HB HR460_0 hx460_0 hx461_0 hHeld ⊢
      refine pY 0 40 HT_ ?_
      refine pY 1 41 HT_ ?_
      refine pY 2 42 HT_ ?_
      refine pY 3 43 HT_ ?_
      refine pY 5 45 HT_ ?_
      refine pY 9 49 HT_ ?_
      refine tY 4 44 HT_ HW_ hHeld ?_
      refine pY 6 46 HT_ ?_
      refine tY 7 47 HT_ HW_ hHeld ?_
      refine pY 8 48 HT_ ?_
      refine oY 10 50 HT_ (fun K hK => ?_)
      refine gY Try.func81 #[.slice Ao26 x6_2.length co26] ?_
      with_reducible refine (ih k2 (by have := HK1.out; have := HK2.out; omega) _ _ x6_2 t462 _ ?side1 ?side2 A24.out).mono ?_
      (case side1 => repeat (first | exact (Kd.S_reads' HO_6.out).2.2 | (with_reducible refine Kd.C_alloc ?_ _) | (with_reducible refine Kd.C_drewN ?_ _) | (with_reducible refine Kd.C_drew ?_)))
      (case side2 => exact (Kd.S_reads' HO_6.out).2.1)
      rintro e w27 ⟨rfl, hb⟩
      refine ⟨_, rfl, ?_⟩
      replace HO_6 := am (Kd.S_below (mvS HO_6.out) hb)
      replace HB := am (below_step (mb HB.out) hb)
      (try clear hb)
      (try clear hb2)
      (try clear hk)
      (try clear hi)
      refine hK.out _ _ ⟨((HB.out.cell (World.block_lt_of_cell? w _ hw460_0)).trans hw460_0), ((HB.out.cell (World.block_lt_of_cell? w _ hw461_0)).trans hw461_0)⟩ (fun hHeld => ?_)
      clear hK K
      refine nY 50 ?_
      refine pY 11 51 HT_ ?_
      refine pY 12 52 HT_ ?_
      refine pY 13 3 HT_ ?_
      refine dY HT_ ?_
      try go_wp2
      go_roundg k2
      case measure => have := HK1.out; have := HK2.out; omega
      case rel => exact ⟨(wrap64 (x3_1 + (wrap64 ((wrap64 (x4_1 * (rd (rd_L1 l0 0) x19_1))) * t462)))), (wrap64 (-x4_1)), (wrap64 (x19_1 + 1)), eqF, eqF, eqF, H', ⟨by have := HK1.out; have := HK2.out; omega⟩, ⟨mb HB.out⟩⟩
     rw [if_pos c10] at H
     have c10b0 := decide_eq_true c10
     clear c10
     replace H := ifD H; obtain ⟨c11b0, H⟩ := H
     replace H := ifD H; obtain ⟨c12b0, H⟩ := H
     replace H := bindA H; obtain ⟨t451, A13, H⟩ := H
     replace H := bindA H; obtain ⟨t454, A14, H⟩ := H
     replace H := ifA H; obtain ⟨LMc15, H⟩ := H
     replace H := nameA (x6_2 ++ [t454]) (fun y457 => (impl_det.l1 k2 l0 x3_1 x4_1 x19_1 y457 (l0.length : Int) x19_1 y446 (y446.length : Int) (wrap64 (x26_2 + 1))) = some r) H; obtain ⟨y457, Ny457, H⟩ := H
     have H' := Aside0.mk H
     clear H
     have p450 : 0 ≤ (x26_2 : Int) := odE
     have q450 : x26_2 < (y446.length : Int) := odE
     obtain ⟨ad450, A450_0, c450_0, e450, hx450_0, hl450_0, hi450_0⟩ := at_L1 HR449.out x26_2 p450 q450
     cases e450
     replace hx450_0 := (HB.out.cell (World.block_lt_of_cell? w _ hx450_0)).trans hx450_0
     have HR450_0 := Aside0.mk hi450_0
     have HC450_0 := Aside0.mk hl450_0
     clear hi450_0 hl450_0
     replace p450 := eq_true p450
     replace q450 := eq_true q450
     go_wp2_with (first | ((with_reducible refine gC 58 rfl ?_); refine gL 32 Try.func58 #[.slice A450_0 (rd_L1 y446 x26_2).length c450_0] ?_; (with_reducible refine (slices_Clone_int_int.calls _ _ (rd_L1 y446 x26_2) t451 _ ?side1 ?side2 A13.out).mono ?_); (case side1 => exact mvC (Kd.C_below HR450_0.out HB.out)); (case side2 => exact HC450_0.out); rintro e w16 ⟨v452, rfl, ho0, hb⟩; refine ⟨_, rfl, ?_⟩; replace HO_6 := am (Kd.S_elder' (mvS HO_6.out) (Kd.R_base ho0) hb); have HO453 := am (Kd.R_lower ho0 (below_size (mb HB.out))); replace HB := am (below_step (mb HB.out) hb); (try clear hb ho0); obtain ⟨Ao17, co17, eo17⟩ := Kd.R_slice HO453.out; subst eo17) | ((with_reducible refine gC 90 rfl ?_); refine gL 36 Try.func90 #[.slice Ao17 t451.length co17, .int .i64 x19_1, .int .i64 (wrap64 (x19_1 + 1))] ?_; (with_reducible refine (slices_Delete_int_int.calls (fun k_ => some k_ = (.slice Ao17 t451.length co17 : Value).ownBlock) (.slice Ao17 t451.length co17) t451 x19_1 (wrap64 (x19_1 + 1)) t454 w _ ?side1 ?side2 A14.out).mono ?_); (case side1 => repeat (first | (with_reducible first | exact HB.out | apply below_alloc | apply pw_below_drewN | apply below_drew1) | exact HB.out)); (case side2 => exact Kd.R_tight rfl HO453.out); rintro e w18 ⟨v455, rfl, ho0, hb, hkp⟩; refine ⟨_, rfl, ?_⟩; replace HO_6 := am (Kd.S_mono (ok' := fun k_ => some k_ ≠ (v455 : Value).ownBlock) (Kd.S_keptB (HO_6.out) hkp (fun k_ hk_ hs_ => (hk_.2) hs_)) (fun k_ hk_ => fun e_ => Or.elim (ho0.1 k_ e_.symm) (fun hs_ => hk_.2.1 hs_) (fun hn_ => Nat.not_le.2 hk_.2.2 hn_))); have HO456 := am (Kd.R_mono (ok' := fun k_ => True) ho0 (fun k_ hk_ => trivial)); replace HB := am (hb); clear HO453; (try clear hb hkp ho0); obtain ⟨Ao20, co20, eo20⟩ := Kd.R_slice HO456.out; subst eo20) | ((with_reducible refine gate_builtin (b := .append) (xs := #[.tmp 30, .tmp 37]) rfl ?_); at_builtin; refine Kd.S_append (Kd.slice 3 (Kd.int .i64)) (w0 := w) w.heap.size rfl (.tmp 30) (.tmp 37) 22 38 (.slice none 0 0) 24 rfl Try.underlying22 info38 rfl (by decide) (by omega) u6 x6_2 t454 [.slice Ao20 t454.length co20] (fun _ => True) (fun k_ => some k_ = (.slice Ao20 t454.length co20 : Value).ownBlock) rfl rfl ?aP (fun k_ hk_ => ((Kd.R_mono (ok' := fun k_ => ((fun _ => True)) k_ ∧ some k_ ≠ (u6 : Value).ownBlock) (Kd.R_apart' (HO456.out) (Kd.S_typed HO_6.out) (by decide)) (fun k_ hk => ⟨trivial, hk.2⟩))).1 k_ hk_.symm) ?aF ?aO ?aB ?aS ?aL ?_; (case aP => exact Kd.M_row (Kd.R_mono (Kd.R_tight rfl (Kd.R_mono (ok' := fun k_ => ((fun _ => True)) k_ ∧ some k_ ≠ (u6 : Value).ownBlock) (Kd.R_apart' (HO456.out) (Kd.S_typed HO_6.out) (by decide)) (fun k_ hk => ⟨trivial, hk.2⟩))) (fun _ h_ => h_))); (case aB => exact (mb HB.out)); (case aF => exact (fun _ _ => trivial)); (case aO => exact (Kd.S_mono (mvS HO_6.out) (fun k_ hk => ⟨trivial, fun e_ => hk e_⟩))); (case aS => exact (below_size (mb HB.out))); (case aL => have := LMc15.out; omega); intro v458 w19 ho hb hg hat; rw [← Ny457.out] at ho; replace HB := am (hb); have HO459 := am (ho); clear HO_6; clear HO456; clear ho hb hg hat))
     go_roundg k2
     case measure => have := HK1.out; have := HK2.out; omega
     case rel => exact ⟨(y457), (wrap64 (x26_2 + 1)), eqF, H', ⟨by have := HK1.out; have := HK2.out; omega⟩, ⟨mvS HO459.out⟩, ⟨mb HB.out⟩⟩
end Go.Proofs.Ytggiicplcglalaa.All
