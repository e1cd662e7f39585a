/- Part of the proof that the law FnExactCornersOf answers true for all arguments. -/
import Derived.Test.YtggiicplcglalaaQC5
section
namespace Go.Proofs.Ytggiicplcglalaa.All
open Go.RowKit Go.Proofs.YtggiicplcglalaaW.PrintWords Go.Proofs.YtggiicplcglalaaW.PrintLast Go.Proofs.YtggiicplcglalaaW.PrintMore
attribute [local go_sem] max2_int min2_int max_two min_two max_three min_three max_four min_four
set_option linter.unusedVariables false
set_option linter.unusedSimpArgs false
mutual
def spec_gmMet.l0 : Nat → List (List Int) → List Int → List Int → Int → Int → Option (List Int × Bool)
 | 0, _, _, _, _, _ => none
 | k + 1, x0, x1, x6, x7, x8 => if x8 < x7 then (if 0 ≤ x8 then (if x8 < (x1.length : Int) then (if (rd x1 x8) < 0 then (some (([] : List Int), false)) else (if (rd x1 x8) = 0 then (if x6.length < 17592186044416 then (spec_gmMet.l0 k x0 x1 (x6 ++ [x8]) x7 (wrap64 (x8 + 1))) else (none)) else (spec_gmMet.l0 k x0 x1 x6 x7 (wrap64 (x8 + 1))))) else (none)) else (none)) else (spec_gmMet.l1 k x1 x6 x7 x0 (x0.length : Int) 0)
def spec_gmMet.l1 : Nat → List Int → List Int → Int → List (List Int) → Int → Int → Option (List Int × Bool)
 | 0, _, _, _, _, _, _ => none
 | k + 1, x1, x6, x7, x36, x37, x38 => if x38 < x37 then (if 0 ≤ x38 then (if x38 < (x36.length : Int) then (spec_gmMet.l2 k x1 x6 x7 x38 0 x36 x37 x38 (rd_L1 x36 x38) ((rd_L1 x36 x38).length : Int) 0) else (none)) else (none)) else (some (x6, true))
def spec_gmMet.l2 : Nat → List Int → List Int → Int → Int → Int → List (List Int) → Int → Int → List Int → Int → Int → Option (List Int × Bool)
 | 0, _, _, _, _, _, _, _, _, _, _, _ => none
 | k + 1, x1, x6, x7, x9, x11, x36, x37, x38, x43, x44, x45 => if x45 < x44 then (if 0 ≤ x45 then (if x45 < (x43.length : Int) then (if x45 < (x1.length : Int) then (spec_gmMet.l2 k x1 x6 x7 x9 (wrap64 (x11 + (wrap64 ((rd x43 x45) * (rd x1 x45))))) x36 x37 x38 x43 x44 (wrap64 (x45 + 1))) else (none)) else (none)) else (none)) else (if 0 ≤ x7 then (if x7 < (x1.length : Int) then (if x11 > (rd x1 x7) then (some (([] : List Int), false)) else (if x11 = (rd x1 x7) then (if x6.length < 17592186044416 then (spec_gmMet.l1 k x1 (x6 ++ [wrap64 (x7 + x9)]) x7 x36 x37 (wrap64 (x38 + 1))) else (none)) else (spec_gmMet.l1 k x1 x6 x7 x36 x37 (wrap64 (x38 + 1))))) else (none)) else (none))
end
def spec_gmMet.f (k : Nat) (l0 : List (List Int)) (l1 : List Int) : Option (List Int × Bool) := spec_gmMet.l0 k l0 l1 ([] : List Int) (wrap64 ((l1.length : Int) - 1)) 0
theorem spec_gmMet.mono_l : ∀ k, (∀ y0 y1 y2 y3 y4, LeO (spec_gmMet.l0 k y0 y1 y2 y3 y4) (spec_gmMet.l0 (k + 1) y0 y1 y2 y3 y4)) ∧ (∀ y0 y1 y2 y3 y4 y5, LeO (spec_gmMet.l1 k y0 y1 y2 y3 y4 y5) (spec_gmMet.l1 (k + 1) y0 y1 y2 y3 y4 y5)) ∧ (∀ y0 y1 y2 y3 y4 y5 y6 y7 y8 y9 y10, LeO (spec_gmMet.l2 k y0 y1 y2 y3 y4 y5 y6 y7 y8 y9 y10) (spec_gmMet.l2 (k + 1) y0 y1 y2 y3 y4 y5 y6 y7 y8 y9 y10))
 | 0 => ⟨fun _ _ _ _ _ r h => by simp [spec_gmMet.l0] at h, fun _ _ _ _ _ _ r h => by simp [spec_gmMet.l1] at h, fun _ _ _ _ _ _ _ _ _ _ _ r h => by simp [spec_gmMet.l2] at h⟩
 | k + 1 => by
  obtain ⟨ih0, ih1, ih2⟩ := spec_gmMet.mono_l k
  refine ⟨?_, ?_, ?_⟩ <;> intros <;> (first | unfold spec_gmMet.l0 | unfold spec_gmMet.l1 | unfold spec_gmMet.l2)
  all_goals repeat' first
  | (with_reducible exact ih0 ..)
  | (with_reducible exact ih1 ..)
  | (with_reducible exact ih2 ..)
  | (with_reducible exact LeO.refl _)
  | (with_reducible exact LeO.none _)
  | (with_reducible refine LeO.ite ?_ ?_)
  | (with_reducible refine LeO.bind ?_ (fun _ => ?_))
theorem spec_gmMet.mono : ∀ a0 a1 k, LeO (spec_gmMet.f k a0 a1) (spec_gmMet.f (k + 1) a0 a1) := by
 intro a0 a1 k
 obtain ⟨ih0, ih1, ih2⟩ := spec_gmMet.mono_l k
 unfold spec_gmMet.f
 repeat' first
   | (with_reducible exact ih0 ..)
   | (with_reducible exact ih1 ..)
   | (with_reducible exact ih2 ..)
   | (with_reducible exact LeO.refl _)
   | (with_reducible exact LeO.none _)
   | (with_reducible refine LeO.ite ?_ ?_)
   | (with_reducible refine LeO.bind ?_ (fun _ => ?_))
set_option maxHeartbeats 8000000 in
set_option maxRecDepth 100000 in
theorem spec_gmMet.calls (k : Nat) (A0 : Option Addr) (c0 : Nat) (l0 : List (List Int)) (A1 : Option Addr) (c1 : Nat) (l1 : List Int) (r1 : List Int) (r2 : Bool) (w : World) (hr0 : Kd.C (Kd.slice 3 (Kd.int .i64)) w A0 l0.length l0) (hc0 : l0.length ≤ c0) (hr1 : Kd.C (Kd.int .i64) w A1 l1.length l1) (hc1 : l1.length ≤ c1) (h : spec_gmMet.f k l0 l1 = some (r1, r2)) :
  Calls Try.prog 49 #[.slice A0 l0.length c0, .slice A1 l1.length c1] w fun e w' => ∃ v0_ : Value, e = .returned (.tuple #[v0_, .bool r2]) ∧ Kd.R (Kd.int .i64) 3 w' w.heap.size (fun _ => True) v0_ r1 ∧ Below w.heap.size w w' := by
 have HR0 := Aside0.mk hr0
 have HC0 := Aside0.mk hc0
 clear hr0 hc0
 have HR1 := Aside0.mk hr1
 have HC1 := Aside0.mk hc1
 clear hr1 hc1
 have HB := Aside0.mk (Below.refl w.heap.size w)
 have H : (spec_gmMet.l0 k l0 l1 ([] : List Int) (wrap64 ((l1.length : Int) - 1)) 0) = some (r1, r2) := h
 clear h
 have H' := Aside0.mk H
 clear H
 go_enter Try.func49, Try.ntmps49
 go_wp2
 go_loopg [6, 8] k (fun kq v6 v8 w' => ∃ (x6_1 : List Int) (x8_1 : Int), v8 = .int .i64 x8_1 ∧ Aside0 (spec_gmMet.l0 kq l0 l1 x6_1 (wrap64 ((l1.length : Int) - 1)) x8_1 = some (r1, r2)) ∧ Aside0 (kq ≤ k) ∧ Aside0 (Kd.R (Kd.int .i64) 3 w' w.heap.size (fun _ => True) v6 x6_1) ∧ Aside0 (Below w.heap.size w w'))
 case atStart => exact ⟨(([] : List Int)), (0), eqF, H', ⟨Nat.le_refl _⟩, ⟨nilE⟩, ⟨mb HB.out⟩⟩
 case round =>
  clear H'
  obtain ⟨x6_1, x8_1, rfl, HA, HK1, HO_6, HB⟩ := hrel
  cases gk with
  | zero => exact absurd HA.out (by simp [spec_gmMet.l0])
  | succ k1 =>
   have H := HA.out
   clear HA
   simp only [spec_gmMet.l0] at H
   by_cases c3 : x8_1 < (wrap64 ((l1.length : Int) - 1))
   ·rw [if_pos c3] at H
    have c3b0 := decide_eq_true c3
    clear c3
    replace H := ifD H; obtain ⟨c4b0, H⟩ := H
    replace H := ifD H; obtain ⟨c5b0, H⟩ := H
    by_cases c6 : (rd l1 x8_1) < 0
    ·rw [if_pos c6] at H
     have c6b0 := decide_eq_true c6
     clear c6
     simp only [Option.some.injEq, Prod.mk.injEq] at H
     obtain ⟨rfl, rfl⟩ := H
     have p150 : 0 ≤ (x8_1 : Int) := odE
     have q150 : x8_1 < (l1.length : Int) := odE
     obtain ⟨ad150, e150, hx150_0⟩ := Kd.at_int HR1.out x8_1 p150 q150
     cases e150
     replace hx150_0 := (HB.out.cell (World.block_lt_of_cell? w _ hx150_0)).trans hx150_0
     replace p150 := eq_true p150
     replace q150 := eq_true q150
     go_wp2
     go_ret2
     exact ⟨_, eqE, nilE, mb HB.out⟩
    rw [if_neg c6] at H
    have c6b0 := decide_eq_false c6
    clear c6
    by_cases c7 : (rd l1 x8_1) = 0
    rotate_left
    ·rw [if_neg c7] at H
     have c7b0 := neb1 c7
     have c7b1 := neb2 c7
     have H' := Aside0.mk H
     clear H
     have p150 : 0 ≤ (x8_1 : Int) := odE
     have q150 : x8_1 < (l1.length : Int) := odE
     obtain ⟨ad150, e150, hx150_0⟩ := Kd.at_int HR1.out x8_1 p150 q150
     cases e150
     replace hx150_0 := (HB.out.cell (World.block_lt_of_cell? w _ hx150_0)).trans hx150_0
     replace p150 := eq_true p150
     replace q150 := eq_true q150
     have p151 : 0 ≤ (x8_1 : Int) := odE
     have q151 : x8_1 < (l1.length : Int) := odE
     obtain ⟨ad151, e151, hx151_0⟩ := Kd.at_int HR1.out x8_1 p151 q151
     obtain rfl : ad150 = ad151 := (by injection e151)
     replace hx151_0 := (HB.out.cell (World.block_lt_of_cell? w _ hx151_0)).trans hx151_0
     replace p151 := eq_true p151
     replace q151 := eq_true q151
     go_wp2
     go_roundg k1
     case measure => have := HK1.out; omega
     case rel => exact ⟨(x6_1), (wrap64 (x8_1 + 1)), eqF, H', ⟨by have := HK1.out; omega⟩, ⟨mvR HO_6.out⟩, ⟨mb HB.out⟩⟩
    rw [if_pos c7] at H
    have c7b0 := eqb1 c7
    have c7b1 := eqb2 c7
    clear c7
    replace H := ifA H; obtain ⟨LMc8, H⟩ := H
    replace H := nameA (x6_1 ++ [x8_1]) (fun y152 => (spec_gmMet.l0 k1 l0 l1 y152 (wrap64 ((l1.length : Int) - 1)) (wrap64 (x8_1 + 1))) = some (r1, r2)) H; obtain ⟨y152, Ny152, H⟩ := H
    have H' := Aside0.mk H
    clear H
    have p150 : 0 ≤ (x8_1 : Int) := odE
    have q150 : x8_1 < (l1.length : Int) := odE
    obtain ⟨ad150, e150, hx150_0⟩ := Kd.at_int HR1.out x8_1 p150 q150
    cases e150
    replace hx150_0 := (HB.out.cell (World.block_lt_of_cell? w _ hx150_0)).trans hx150_0
    replace p150 := eq_true p150
    replace q150 := eq_true q150
    have p151 : 0 ≤ (x8_1 : Int) := odE
    have q151 : x8_1 < (l1.length : Int) := odE
    obtain ⟨ad151, e151, hx151_0⟩ := Kd.at_int HR1.out x8_1 p151 q151
    obtain rfl : ad150 = ad151 := (by injection e151)
    replace hx151_0 := (HB.out.cell (World.block_lt_of_cell? w _ hx151_0)).trans hx151_0
    replace p151 := eq_true p151
    replace q151 := eq_true q151
    go_wp2_with (first | ((with_reducible refine gate_builtin (b := .append) (xs := #[.tmp 32, .tmp 34]) rfl ?_); at_builtin; refine Kd.R_append (Kd.int .i64) (w0 := w) w.heap.size rfl (.tmp 32) (.tmp 34) 38 3 (.int .i64 0) 8 rfl Try.underlying38 info3 rfl (by decide) (by omega) u6 x6_1 x8_1 [.int .i64 x8_1] (fun _ => True) (fun _ => False) rfl rfl ?aP (fun _ hk => hk.elim) ?aF ?aO ?aB ?aS ?aL ?_; (case aP => exact rfl); (case aB => exact (mb HB.out)); (case aF => exact (fun _ _ => trivial)); (case aO => exact (mvR HO_6.out)); (case aS => exact (below_size (mb HB.out))); (case aL => have := LMc8.out; omega); intro v153 w9 ho hb hg hat; rw [← Ny152.out] at ho; replace HB := am (hb); have HO154 := am (ho); clear HO_6; clear ho hb hg hat))
    go_roundg k1
    case measure => have := HK1.out; omega
    case rel => exact ⟨(y152), (wrap64 (x8_1 + 1)), eqF, H', ⟨by have := HK1.out; omega⟩, ⟨mvR HO154.out⟩, ⟨mb HB.out⟩⟩
   rw [if_neg c3] at H
   have c3b0 := decide_eq_false c3
   clear c3
   have H' := Aside0.mk H
   clear H
   go_wp2
   go_loopg [6, 38] k1 (fun kq v6 v38 w' => ∃ (x6_2 : List Int) (x38_2 : Int), v38 = .int .i64 x38_2 ∧ Aside0 (spec_gmMet.l1 kq l1 x6_2 (wrap64 ((l1.length : Int) - 1)) l0 (l0.length : Int) x38_2 = some (r1, r2)) ∧ Aside0 (kq ≤ k1) ∧ Aside0 (Kd.R (Kd.int .i64) 3 w' w.heap.size (fun _ => True) v6 x6_2) ∧ Aside0 (Below w.heap.size w w'))
   case atStart => exact ⟨(x6_1), (0), eqF, H', ⟨Nat.le_refl _⟩, ⟨mvR HO_6.out⟩, ⟨mb HB.out⟩⟩
   case round =>
    clear H'
    obtain ⟨x6_2, x38_2, rfl, HA, HK2, HO_6, HB⟩ := hrel
    cases gk with
    | zero => exact absurd HA.out (by simp [spec_gmMet.l1])
    | succ k2 =>
     have H := HA.out
     clear HA
     simp only [spec_gmMet.l1] at H
     by_cases c10 : x38_2 < (l0.length : Int)
     rotate_left
     ·rw [if_neg c10] at H
      have c10b0 := decide_eq_false c10
      clear c10
      simp only [Option.some.injEq, Prod.mk.injEq] at H
      obtain ⟨rfl, rfl⟩ := H
      go_wp2
      go_ret2
      exact ⟨_, eqE, mvR HO_6.out, mb HB.out⟩
     rw [if_pos c10] at H
     have c10b0 := decide_eq_true c10
     clear c10
     replace H := ifD H; obtain ⟨c11b0, H⟩ := H
     replace H := ifD H; obtain ⟨c12b0, H⟩ := H
     have H' := Aside0.mk H
     clear H
     have p155 : 0 ≤ (x38_2 : Int) := odE
     have q155 : x38_2 < (l0.length : Int) := odE
     obtain ⟨ad155, A155_0, c155_0, e155, hx155_0, hl155_0, hi155_0⟩ := at_L1 HR0.out x38_2 p155 q155
     cases e155
     replace hx155_0 := (HB.out.cell (World.block_lt_of_cell? w _ hx155_0)).trans hx155_0
     have HR155_0 := Aside0.mk hi155_0
     have HC155_0 := Aside0.mk hl155_0
     clear hi155_0 hl155_0
     replace p155 := eq_true p155
     replace q155 := eq_true q155
     go_wp2
     go_loopg [11, 45] k2 (fun kq v11 v45 w' => ∃ (x11_3 : Int) (x45_3 : Int), v11 = .int .i64 x11_3 ∧ v45 = .int .i64 x45_3 ∧ Aside0 (spec_gmMet.l2 kq l1 x6_2 (wrap64 ((l1.length : Int) - 1)) x38_2 x11_3 l0 (l0.length : Int) x38_2 (rd_L1 l0 x38_2) ((rd_L1 l0 x38_2).length : Int) x45_3 = some (r1, r2)) ∧ Aside0 (kq ≤ k2) ∧ Aside0 (Kd.R (Kd.int .i64) 3 w' w.heap.size (fun _ => True) u6 x6_2) ∧ Aside0 (Below w.heap.size w w'))
     case atStart => exact ⟨(0), (0), eqF, eqF, H', ⟨Nat.le_refl _⟩, ⟨mvR HO_6.out⟩, ⟨mb HB.out⟩⟩
     case round =>
      clear H'
      obtain ⟨x11_3, x45_3, rfl, rfl, HA, HK3, HO_6, HB⟩ := hrel
      cases gk with
      | zero => exact absurd HA.out (by simp [spec_gmMet.l2])
      | succ k3 =>
       have H := HA.out
       clear HA
       simp only [spec_gmMet.l2] at H
       by_cases c13 : x45_3 < ((rd_L1 l0 x38_2).length : Int)
       ·rw [if_pos c13] at H
        have c13b0 := decide_eq_true c13
        clear c13
        replace H := ifD H; obtain ⟨c14b0, H⟩ := H
        replace H := ifD H; obtain ⟨c15b0, H⟩ := H
        replace H := ifD H; obtain ⟨c16b0, H⟩ := H
        have H' := Aside0.mk H
        clear H
        have p156 : 0 ≤ (x45_3 : Int) := odE
        have q156 : x45_3 < ((rd_L1 l0 x38_2).length : Int) := odE
        obtain ⟨ad156, e156, hx156_0⟩ := Kd.at_int HR155_0.out x45_3 p156 q156
        cases e156
        replace hx156_0 := (HB.out.cell (World.block_lt_of_cell? w _ hx156_0)).trans hx156_0
        replace p156 := eq_true p156
        replace q156 := eq_true q156
        have p157 : 0 ≤ (x45_3 : Int) := odE
        have q157 : x45_3 < (l1.length : Int) := odE
        obtain ⟨ad157, e157, hx157_0⟩ := Kd.at_int HR1.out x45_3 p157 q157
        cases e157
        replace hx157_0 := (HB.out.cell (World.block_lt_of_cell? w _ hx157_0)).trans hx157_0
        replace p157 := eq_true p157
        replace q157 := eq_true q157
        go_wp2
        go_roundg k3
        case measure => have := HK1.out; have := HK2.out; have := HK3.out; omega
        case rel => exact ⟨(wrap64 (x11_3 + (wrap64 ((rd (rd_L1 l0 x38_2) x45_3) * (rd l1 x45_3))))), (wrap64 (x45_3 + 1)), eqF, eqF, H', ⟨by have := HK1.out; have := HK2.out; have := HK3.out; omega⟩, ⟨mvR HO_6.out⟩, ⟨mb HB.out⟩⟩
       rw [if_neg c13] at H
       have c13b0 := decide_eq_false c13
       clear c13
       obtain ⟨ji17, hji17⟩ : ∃ j_ : Int, (wrap64 ((l1.length : Int) - 1)) = j_ := ⟨_, rfl⟩
       replace H : (if 0 ≤ (ji17) then (if (ji17) < (l1.length : Int) then (if x11_3 > (rd l1 (ji17)) then (some (([] : List Int), false)) else (if x11_3 = (rd l1 (ji17)) then (if x6_2.length < 17592186044416 then (spec_gmMet.l1 k3 l1 (x6_2 ++ [wrap64 ((ji17) + x38_2)]) (ji17) l0 (l0.length : Int) (wrap64 (x38_2 + 1))) else (none)) else (spec_gmMet.l1 k3 l1 x6_2 (ji17) l0 (l0.length : Int) (wrap64 (x38_2 + 1))))) else (none)) else (none)) = some (r1, r2) := by first | (rw [hji17] at H; exact H) | (simp only [hji17] at H ⊢; exact H)
       (try rw [hji17] at c3b0)
       have hji17w : (IntKind.i64.wrap ((l1.length : Int) - 1)) = ji17 := (i64_w _).trans hji17
       replace H := ifD H; obtain ⟨c18b0, H⟩ := H
       replace H := ifD H; obtain ⟨c19b0, H⟩ := H
       by_cases c20 : x11_3 > (rd l1 (ji17))
       ·rw [if_pos c20] at H
        have c20b0 : decide ((rd l1 (ji17)) < x11_3) = true := decide_eq_true c20
        clear c20
        simp only [Option.some.injEq, Prod.mk.injEq] at H
        obtain ⟨rfl, rfl⟩ := H
        have p158 : 0 ≤ ((ji17) : Int) := odE
        have q158 : (ji17) < (l1.length : Int) := odE
        obtain ⟨ad158, e158, hx158_0⟩ := Kd.at_int HR1.out (ji17) p158 q158
        cases e158
        replace hx158_0 := (HB.out.cell (World.block_lt_of_cell? w _ hx158_0)).trans hx158_0
        replace p158 := eq_true p158
        replace q158 := eq_true q158
        go_wp2
        go_ret2
        exact ⟨_, by first | rfl | (simp [errW_none, errW_some] <;> rfl) | (simp only [← hji17]; first | rfl | (simp [errW_none, errW_some] <;> rfl)) | (simp [*, errW_none, errW_some] <;> rfl), nilE, mb HB.out⟩
       rw [if_neg c20] at H
       have c20b0 : decide ((rd l1 (ji17)) < x11_3) = false := decide_eq_false c20
       clear c20
       by_cases c21 : x11_3 = (rd l1 (ji17))
       rotate_left
       ·rw [if_neg c21] at H
        have c21b0 := neb1 c21
        have c21b1 := neb2 c21
        have H' := Aside0.mk H
        clear H
        have p158 : 0 ≤ ((ji17) : Int) := odE
        have q158 : (ji17) < (l1.length : Int) := odE
        obtain ⟨ad158, e158, hx158_0⟩ := Kd.at_int HR1.out (ji17) p158 q158
        cases e158
        replace hx158_0 := (HB.out.cell (World.block_lt_of_cell? w _ hx158_0)).trans hx158_0
        replace p158 := eq_true p158
        replace q158 := eq_true q158
        have p159 : 0 ≤ ((ji17) : Int) := odE
        have q159 : (ji17) < (l1.length : Int) := odE
        obtain ⟨ad159, e159, hx159_0⟩ := Kd.at_int HR1.out (ji17) p159 q159
        obtain rfl : ad158 = ad159 := (by injection e159)
        replace hx159_0 := (HB.out.cell (World.block_lt_of_cell? w _ hx159_0)).trans hx159_0
        replace p159 := eq_true p159
        replace q159 := eq_true q159
        go_wp2
        subst hji17
        go_roundg k3
        case measure => have := HK1.out; have := HK2.out; have := HK3.out; omega
        case rel => exact ⟨(x6_2), (wrap64 (x38_2 + 1)), eqF, H', ⟨by have := HK1.out; have := HK2.out; have := HK3.out; omega⟩, ⟨mvR HO_6.out⟩, ⟨mb HB.out⟩⟩
       rw [if_pos c21] at H
       have c21b0 := eqb1 c21
       have c21b1 := eqb2 c21
       clear c21
       replace H := ifA H; obtain ⟨LMc22, H⟩ := H
       replace H := nameA (x6_2 ++ [wrap64 ((ji17) + x38_2)]) (fun y160 => (spec_gmMet.l1 k3 l1 y160 (ji17) l0 (l0.length : Int) (wrap64 (x38_2 + 1))) = some (r1, r2)) H; obtain ⟨y160, Ny160, H⟩ := H
       have H' := Aside0.mk H
       clear H
       have p158 : 0 ≤ ((ji17) : Int) := odE
       have q158 : (ji17) < (l1.length : Int) := odE
       obtain ⟨ad158, e158, hx158_0⟩ := Kd.at_int HR1.out (ji17) p158 q158
       cases e158
       replace hx158_0 := (HB.out.cell (World.block_lt_of_cell? w _ hx158_0)).trans hx158_0
       replace p158 := eq_true p158
       replace q158 := eq_true q158
       have p159 : 0 ≤ ((ji17) : Int) := odE
       have q159 : (ji17) < (l1.length : Int) := odE
       obtain ⟨ad159, e159, hx159_0⟩ := Kd.at_int HR1.out (ji17) p159 q159
       obtain rfl : ad158 = ad159 := (by injection e159)
       replace hx159_0 := (HB.out.cell (World.block_lt_of_cell? w _ hx159_0)).trans hx159_0
       replace p159 := eq_true p159
       replace q159 := eq_true q159
       go_wp2_with (first | ((with_reducible refine gate_builtin (b := .append) (xs := #[.tmp 71, .tmp 75]) rfl ?_); at_builtin; refine Kd.R_append (Kd.int .i64) (w0 := w) w.heap.size rfl (.tmp 71) (.tmp 75) 38 3 (.int .i64 0) 8 rfl Try.underlying38 info3 rfl (by decide) (by omega) u6 x6_2 (wrap64 ((ji17) + x38_2)) [.int .i64 (wrap64 ((ji17) + x38_2))] (fun _ => True) (fun _ => False) rfl rfl ?aP (fun _ hk => hk.elim) ?aF ?aO ?aB ?aS ?aL ?_; (case aP => exact rfl); (case aB => exact (mb HB.out)); (case aF => exact (fun _ _ => trivial)); (case aO => exact (mvR HO_6.out)); (case aS => exact (below_size (mb HB.out))); (case aL => have := LMc22.out; omega); intro v161 w23 ho hb hg hat; rw [← Ny160.out] at ho; replace HB := am (hb); have HO162 := am (ho); clear HO_6; clear ho hb hg hat))
       subst hji17
       go_roundg k3
       case measure => have := HK1.out; have := HK2.out; have := HK3.out; omega
       case rel => exact ⟨(y160), (wrap64 (x38_2 + 1)), eqF, H', ⟨by have := HK1.out; have := HK2.out; have := HK3.out; omega⟩, ⟨mvR HO162.out⟩, ⟨mb HB.out⟩⟩
end Go.Proofs.Ytggiicplcglalaa.All
end
section
namespace Go.Proofs.Ytggiicplcglalaa.All
open Go.RowKit Go.Proofs.YtggiicplcglalaaW.PrintWords Go.Proofs.YtggiicplcglalaaW.PrintLast Go.Proofs.YtggiicplcglalaaW.PrintMore
attribute [local go_sem] max2_int min2_int max_two min_two max_three min_three max_four min_four
set_option linter.unusedVariables false
set_option linter.unusedSimpArgs false
set_option maxHeartbeats 8000000
set_option maxRecDepth 100000
def spec_l1Same.l0 : Nat → List Int → List Int → Int → Int → Option (Bool)
 | 0, _, _, _, _ => none
 | k + 1, x0, x1, x12, x13 => if x13 < x12 then (if 0 ≤ x13 then (if x13 < (x0.length : Int) then (if x13 < (x1.length : Int) then (if (rd x0 x13) = (rd x1 x13) then (spec_l1Same.l0 k x0 x1 x12 (wrap64 (x13 + 1))) else (some false)) else (none)) else (none)) else (none)) else (some true)
def spec_l1Same.f (k : Nat) (l0 : List Int) (l1 : List Int) : Option (Bool) := if (l0.length : Int) = (l1.length : Int) then (spec_l1Same.l0 k l0 l1 (l0.length : Int) 0) else (some false)
theorem spec_l1Same.mono_l : ∀ k, (∀ y0 y1 y2 y3, LeO (spec_l1Same.l0 k y0 y1 y2 y3) (spec_l1Same.l0 (k + 1) y0 y1 y2 y3))
 | 0 => fun _ _ _ _ r h => by simp [spec_l1Same.l0] at h
 | k + 1 => by
  have ih0 := spec_l1Same.mono_l k
  ·intro y0 y1 y2 y3
   unfold spec_l1Same.l0
   repeat' first
   | (with_reducible exact ih0 ..)
   | (with_reducible exact LeO.refl _)
   | (with_reducible exact LeO.none _)
   | (with_reducible refine LeO.ite ?_ ?_)
   | (with_reducible refine LeO.bind ?_ (fun _ => ?_))
theorem spec_l1Same.mono : ∀ a0 a1 k, LeO (spec_l1Same.f k a0 a1) (spec_l1Same.f (k + 1) a0 a1) := by
 intro a0 a1 k
 have ih0 := spec_l1Same.mono_l k
 unfold spec_l1Same.f
 repeat' first
   | (with_reducible exact ih0 ..)
   | (with_reducible exact LeO.refl _)
   | (with_reducible exact LeO.none _)
   | (with_reducible refine LeO.ite ?_ ?_)
   | (with_reducible refine LeO.bind ?_ (fun _ => ?_))
theorem spec_l1Same.calls (k : Nat) (A0 : Option Addr) (c0 : Nat) (l0 : List Int) (A1 : Option Addr) (c1 : Nat) (l1 : List Int) (r : Bool) (w : World) (hr0 : Kd.C (Kd.int .i64) w A0 l0.length l0) (hc0 : l0.length ≤ c0) (hr1 : Kd.C (Kd.int .i64) w A1 l1.length l1) (hc1 : l1.length ≤ c1) (h : spec_l1Same.f k l0 l1 = some r) :
  Calls Try.prog 35 #[.slice A0 l0.length c0, .slice A1 l1.length c1] w fun e w' => e = .returned (.bool r) ∧ Drawn0 w w' := by
 have HR0 := Aside0.mk hr0
 have HC0 := Aside0.mk hc0
 clear hr0 hc0
 have HR1 := Aside0.mk hr1
 have HC1 := Aside0.mk hc1
 clear hr1 hc1
 have H : (if (l0.length : Int) = (l1.length : Int) then (spec_l1Same.l0 k l0 l1 (l0.length : Int) 0) else (some false)) = some r := h
 clear h
 by_cases c3 : (l0.length : Int) = (l1.length : Int)
 rotate_left
 ·rw [if_neg c3] at H
  have c3b0 := neb1 c3
  have c3b1 := neb2 c3
  have c3b2 : (l0.length == l1.length) = false := by first | simpa using c3 | (simp at c3 ⊢; omega)
  obtain rfl := Option.some.inj H
  go_enter Try.func35, Try.ntmps35
  go_wp2
  repeat (go_quiet (fail); try go_wp2)
  go_ret
  exact ⟨eqD, drE⟩
 rw [if_pos c3] at H
 have c3b0 := eqb1 c3
 have c3b1 := eqb2 c3
 have c3b2 : (l0.length == l1.length) = true := by first | simpa using c3 | (simp at c3 ⊢; omega)
 clear c3
 have H' := Aside0.mk H
 clear H
 go_enter Try.func35, Try.ntmps35
 go_wp2
 repeat (go_quiet (fail); try go_wp2)
 go_loopg [13] k (fun kq v13 w' => ∃ (x13_1 : Int), v13 = .int .i64 x13_1 ∧ Aside0 (spec_l1Same.l0 kq l0 l1 (l0.length : Int) x13_1 = some r) ∧ Aside0 (kq ≤ k) ∧ Drawn0 w w')
 case atStart => exact ⟨(0), eqF, H', ⟨Nat.le_refl _⟩, by repeat (first | exact Drawn0.refl _ | apply Drawn0.step)⟩
 case round =>
  clear H'
  obtain ⟨x13_1, rfl, HA, HK1, ⟨m1, rfl⟩⟩ := hrel
  cases gk with
  | zero => exact absurd HA.out (by simp [spec_l1Same.l0])
  | succ k1 =>
   have H := HA.out
   clear HA
   simp only [spec_l1Same.l0] at H
   by_cases c4 : x13_1 < (l0.length : Int)
   rotate_left
   ·rw [if_neg c4] at H
    have c4b0 := decide_eq_false c4
    clear c4
    obtain rfl := Option.some.inj H
    go_wp2
    repeat (go_quiet (fail); try go_wp2)
    go_ret
    exact ⟨eqD, drE⟩
   rw [if_pos c4] at H
   have c4b0 := decide_eq_true c4
   clear c4
   replace H := ifD H; obtain ⟨c5b0, H⟩ := H
   replace H := ifD H; obtain ⟨c6b0, H⟩ := H
   replace H := ifD H; obtain ⟨c7b0, H⟩ := H
   by_cases c8 : (rd l0 x13_1) = (rd l1 x13_1)
   rotate_left
   ·rw [if_neg c8] at H
    have c8b0 := neb1 c8
    have c8b1 := neb2 c8
    obtain rfl := Option.some.inj H
    have p163 : 0 ≤ (x13_1 : Int) := odE
    have q163 : x13_1 < (l0.length : Int) := odE
    obtain ⟨ad163, e163, hx163_0⟩ := Kd.at_int HR0.out x13_1 p163 q163
    cases e163
    replace p163 := eq_true p163
    replace q163 := eq_true q163
    have p164 : 0 ≤ (x13_1 : Int) := odE
    have q164 : x13_1 < (l1.length : Int) := odE
    obtain ⟨ad164, e164, hx164_0⟩ := Kd.at_int HR1.out x13_1 p164 q164
    cases e164
    replace p164 := eq_true p164
    replace q164 := eq_true q164
    go_wp2
    repeat (go_quiet (fail); try go_wp2)
    go_ret
    exact ⟨eqD, drE⟩
   rw [if_pos c8] at H
   have c8b0 := eqb1 c8
   have c8b1 := eqb2 c8
   clear c8
   have H' := Aside0.mk H
   clear H
   have p163 : 0 ≤ (x13_1 : Int) := odE
   have q163 : x13_1 < (l0.length : Int) := odE
   obtain ⟨ad163, e163, hx163_0⟩ := Kd.at_int HR0.out x13_1 p163 q163
   cases e163
   replace p163 := eq_true p163
   replace q163 := eq_true q163
   have p164 : 0 ≤ (x13_1 : Int) := odE
   have q164 : x13_1 < (l1.length : Int) := odE
   obtain ⟨ad164, e164, hx164_0⟩ := Kd.at_int HR1.out x13_1 p164 q164
   cases e164
   replace p164 := eq_true p164
   replace q164 := eq_true q164
   go_wp2
   repeat (go_quiet (fail); try go_wp2)
   go_roundg k1
   case measure => have := HK1.out; omega
   case rel => exact ⟨(wrap64 (x13_1 + 1)), eqF, H', ⟨by have := HK1.out; omega⟩, by repeat (first | exact Drawn0.refl _ | apply Drawn0.step)⟩
def spec_gmLess.l0 : Nat → List Int → List Int → Int → Int → Option (Bool)
 | 0, _, _, _, _ => none
 | k + 1, x0, x1, x7, x8 => if x8 < x7 then (if 0 ≤ x8 then (if x8 < (x0.length : Int) then (if x8 < (x1.length : Int) then (if (rd x0 x8) = (rd x1 x8) then (spec_gmLess.l0 k x0 x1 x7 (wrap64 (x8 + 1))) else (some (decide ((rd x0 x8) < (rd x1 x8))))) else (none)) else (none)) else (none)) else (some false)
def spec_gmLess.f (k : Nat) (l0 : List Int) (l1 : List Int) : Option (Bool) := spec_gmLess.l0 k l0 l1 (l0.length : Int) 0
theorem spec_gmLess.mono_l : ∀ k, (∀ y0 y1 y2 y3, LeO (spec_gmLess.l0 k y0 y1 y2 y3) (spec_gmLess.l0 (k + 1) y0 y1 y2 y3))
 | 0 => fun _ _ _ _ r h => by simp [spec_gmLess.l0] at h
 | k + 1 => by
  have ih0 := spec_gmLess.mono_l k
  ·intro y0 y1 y2 y3
   unfold spec_gmLess.l0
   repeat' first
   | (with_reducible exact ih0 ..)
   | (with_reducible exact LeO.refl _)
   | (with_reducible exact LeO.none _)
   | (with_reducible refine LeO.ite ?_ ?_)
   | (with_reducible refine LeO.bind ?_ (fun _ => ?_))
theorem spec_gmLess.mono : ∀ a0 a1 k, LeO (spec_gmLess.f k a0 a1) (spec_gmLess.f (k + 1) a0 a1) := by
 intro a0 a1 k
 have ih0 := spec_gmLess.mono_l k
 unfold spec_gmLess.f
 repeat' first
   | (with_reducible exact ih0 ..)
   | (with_reducible exact LeO.refl _)
   | (with_reducible exact LeO.none _)
   | (with_reducible refine LeO.ite ?_ ?_)
   | (with_reducible refine LeO.bind ?_ (fun _ => ?_))
theorem spec_gmLess.calls (k : Nat) (A0 : Option Addr) (c0 : Nat) (l0 : List Int) (A1 : Option Addr) (c1 : Nat) (l1 : List Int) (r : Bool) (w : World) (hr0 : Kd.C (Kd.int .i64) w A0 l0.length l0) (hc0 : l0.length ≤ c0) (hr1 : Kd.C (Kd.int .i64) w A1 l1.length l1) (hc1 : l1.length ≤ c1) (h : spec_gmLess.f k l0 l1 = some r) :
  Calls Try.prog 75 #[.slice A0 l0.length c0, .slice A1 l1.length c1] w fun e w' => e = .returned (.bool r) ∧ Drawn0 w w' := by
 have HR0 := Aside0.mk hr0
 have HC0 := Aside0.mk hc0
 clear hr0 hc0
 have HR1 := Aside0.mk hr1
 have HC1 := Aside0.mk hc1
 clear hr1 hc1
 have H : (spec_gmLess.l0 k l0 l1 (l0.length : Int) 0) = some r := h
 clear h
 have H' := Aside0.mk H
 clear H
 go_enter Try.func75, Try.ntmps75
 go_wp2
 repeat (go_quiet (fail); try go_wp2)
 go_loopg [8] k (fun kq v8 w' => ∃ (x8_1 : Int), v8 = .int .i64 x8_1 ∧ Aside0 (spec_gmLess.l0 kq l0 l1 (l0.length : Int) x8_1 = some r) ∧ Aside0 (kq ≤ k) ∧ Drawn0 w w')
 case atStart => exact ⟨(0), eqF, H', ⟨Nat.le_refl _⟩, by repeat (first | exact Drawn0.refl _ | apply Drawn0.step)⟩
 case round =>
  clear H'
  obtain ⟨x8_1, rfl, HA, HK1, ⟨m1, rfl⟩⟩ := hrel
  cases gk with
  | zero => exact absurd HA.out (by simp [spec_gmLess.l0])
  | succ k1 =>
   have H := HA.out
   clear HA
   simp only [spec_gmLess.l0] at H
   by_cases c3 : x8_1 < (l0.length : Int)
   rotate_left
   ·rw [if_neg c3] at H
    have c3b0 := decide_eq_false c3
    clear c3
    obtain rfl := Option.some.inj H
    go_wp2
    repeat (go_quiet (fail); try go_wp2)
    go_ret
    exact ⟨eqD, drE⟩
   rw [if_pos c3] at H
   have c3b0 := decide_eq_true c3
   clear c3
   replace H := ifD H; obtain ⟨c4b0, H⟩ := H
   replace H := ifD H; obtain ⟨c5b0, H⟩ := H
   replace H := ifD H; obtain ⟨c6b0, H⟩ := H
   by_cases c7 : (rd l0 x8_1) = (rd l1 x8_1)
   ·rw [if_pos c7] at H
    have c7b0 := eqb1 c7
    have c7b1 := eqb2 c7
    clear c7
    have H' := Aside0.mk H
    clear H
    have p165 : 0 ≤ (x8_1 : Int) := odE
    have q165 : x8_1 < (l0.length : Int) := odE
    obtain ⟨ad165, e165, hx165_0⟩ := Kd.at_int HR0.out x8_1 p165 q165
    cases e165
    replace p165 := eq_true p165
    replace q165 := eq_true q165
    have p166 : 0 ≤ (x8_1 : Int) := odE
    have q166 : x8_1 < (l1.length : Int) := odE
    obtain ⟨ad166, e166, hx166_0⟩ := Kd.at_int HR1.out x8_1 p166 q166
    cases e166
    replace p166 := eq_true p166
    replace q166 := eq_true q166
    go_wp2
    repeat (go_quiet (fail); try go_wp2)
    go_roundg k1
    case measure => have := HK1.out; omega
    case rel => exact ⟨(wrap64 (x8_1 + 1)), eqF, H', ⟨by have := HK1.out; omega⟩, by repeat (first | exact Drawn0.refl _ | apply Drawn0.step)⟩
   rw [if_neg c7] at H
   have c7b0 := neb1 c7
   have c7b1 := neb2 c7
   obtain rfl := Option.some.inj H
   have p165 : 0 ≤ (x8_1 : Int) := odE
   have q165 : x8_1 < (l0.length : Int) := odE
   obtain ⟨ad165, e165, hx165_0⟩ := Kd.at_int HR0.out x8_1 p165 q165
   cases e165
   replace p165 := eq_true p165
   replace q165 := eq_true q165
   have p166 : 0 ≤ (x8_1 : Int) := odE
   have q166 : x8_1 < (l1.length : Int) := odE
   obtain ⟨ad166, e166, hx166_0⟩ := Kd.at_int HR1.out x8_1 p166 q166
   cases e166
   replace p166 := eq_true p166
   replace q166 := eq_true q166
   have p167 : 0 ≤ (x8_1 : Int) := odE
   have q167 : x8_1 < (l0.length : Int) := odE
   obtain ⟨ad167, e167, hx167_0⟩ := Kd.at_int HR0.out x8_1 p167 q167
   obtain rfl : ad165 = ad167 := (by injection e167)
   replace p167 := eq_true p167
   replace q167 := eq_true q167
   have p168 : 0 ≤ (x8_1 : Int) := odE
   have q168 : x8_1 < (l1.length : Int) := odE
   obtain ⟨ad168, e168, hx168_0⟩ := Kd.at_int HR1.out x8_1 p168 q168
   obtain rfl : ad166 = ad168 := (by injection e168)
   replace p168 := eq_true p168
   replace q168 := eq_true q168
   go_wp2
   repeat (go_quiet (fail); try go_wp2)
   go_ret
   exact ⟨eqD, drE⟩
end Go.Proofs.Ytggiicplcglalaa.All
end
