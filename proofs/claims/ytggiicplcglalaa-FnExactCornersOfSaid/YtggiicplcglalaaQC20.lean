/- Part of the proof that the law FnExactCornersOf answers true for all arguments. -/
import Derived.Test.YtggiicplcglalaaQC19
section
namespace Go.Proofs.Ytggiicplcglalaa.All
open Go.RowKit Go.Proofs.YtggiicplcglalaaW.PrintWords Go.Proofs.YtggiicplcglalaaW.PrintLast Go.Proofs.YtggiicplcglalaaW.PrintMore
attribute [local go_sem] max2_int min2_int max_two min_two max_three min_three max_four min_four
set_option linter.unusedVariables false
set_option linter.unusedSimpArgs false
set_option maxHeartbeats 8000000
set_option maxRecDepth 100000
mutual
def impl_reduced.l0 : Nat → List Int → Int → List Int → List Int → Int → Int → Option (List Int)
 | 0, _, _, _, _, _, _ => none
 | k + 1, x0, x3, x4, x10, x11, x12 => if x12 < x11 then (if 0 ≤ x12 then (if x12 < (x10.length : Int) then ((impl_gcd.f k x3 (rd x10 x12)).bind fun t509 => (impl_reduced.l0 k x0 t509 x4 x10 x11 (wrap64 (x12 + 1)))) else (none)) else (none)) else (impl_reduced.l1 k x3 x4 x0 (x0.length : Int) 0)
def impl_reduced.l1 : Nat → Int → List Int → List Int → Int → Int → Option (List Int)
 | 0, _, _, _, _, _ => none
 | k + 1, x3, x4, x20, x21, x22 => if x22 < x21 then (if 0 ≤ x22 then (if x22 < (x20.length : Int) then (if (mx x3 1) = 0 then (none) else (if x4.length < 17592186044416 then (impl_reduced.l1 k x3 (x4 ++ [wrap64 (Int.tdiv (rd x20 x22) (mx x3 1))]) x20 x21 (wrap64 (x22 + 1))) else (none))) else (none)) else (none)) else (some x4)
end
def impl_reduced.f (k : Nat) (l0 : List Int) : Option (List Int) := impl_reduced.l0 k l0 0 (([] : List Int)) l0 (l0.length : Int) 0
theorem impl_reduced.mono_l : ∀ k, (∀ y0 y1 y2 y3 y4 y5, LeO (impl_reduced.l0 k y0 y1 y2 y3 y4 y5) (impl_reduced.l0 (k + 1) y0 y1 y2 y3 y4 y5)) ∧ (∀ y0 y1 y2 y3 y4, LeO (impl_reduced.l1 k y0 y1 y2 y3 y4) (impl_reduced.l1 (k + 1) y0 y1 y2 y3 y4))
 | 0 => ⟨fun _ _ _ _ _ _ r h => by simp [impl_reduced.l0] at h, fun _ _ _ _ _ r h => by simp [impl_reduced.l1] at h⟩
 | k + 1 => by
  obtain ⟨ih0, ih1⟩ := impl_reduced.mono_l k
  refine ⟨?_, ?_⟩ <;> intros <;> (first | unfold impl_reduced.l0 | unfold impl_reduced.l1)
  all_goals repeat' first
  | (with_reducible exact ih0 ..)
  | (with_reducible exact ih1 ..)
  | (with_reducible exact impl_gcd.mono ..)
  | (with_reducible exact LeO.refl _)
  | (with_reducible exact LeO.none _)
  | (with_reducible refine LeO.ite ?_ ?_)
  | (with_reducible refine LeO.bind ?_ (fun _ => ?_))
theorem impl_reduced.mono : ∀ a0 k, LeO (impl_reduced.f k a0) (impl_reduced.f (k + 1) a0) := by
 intro a0 k
 obtain ⟨ih0, ih1⟩ := impl_reduced.mono_l k
 unfold impl_reduced.f
 repeat' first
   | (with_reducible exact ih0 ..)
   | (with_reducible exact ih1 ..)
   | (with_reducible exact impl_gcd.mono ..)
   | (with_reducible exact LeO.refl _)
   | (with_reducible exact LeO.none _)
   | (with_reducible refine LeO.ite ?_ ?_)
   | (with_reducible refine LeO.bind ?_ (fun _ => ?_))
theorem impl_reduced.calls (k : Nat) (A0 : Option Addr) (c0 : Nat) (l0 : List Int) (r : List Int) (w : World) (hr0 : Kd.C (Kd.int .i64) w A0 l0.length l0) (hc0 : l0.length ≤ c0) (h : impl_reduced.f k l0 = some r) :
  Calls Try.prog 66 #[.slice A0 l0.length c0] w fun e w' => ∃ v0_ : Value, e = .returned (v0_) ∧ Kd.R (Kd.int .i64) 3 w' w.heap.size (fun _ => True) v0_ r ∧ Below w.heap.size w w' := by
 have HR0 := Aside0.mk hr0
 have HC0 := Aside0.mk hc0
 clear hr0 hc0
 have HB := Aside0.mk (Below.refl w.heap.size w)
 have H : (impl_reduced.l0 k l0 0 (([] : List Int)) l0 (l0.length : Int) 0) = some r := h
 clear h
 replace H := nameA (([] : List Int)) (fun y505 => (impl_reduced.l0 k l0 0 y505 l0 (l0.length : Int) 0) = some r) H; obtain ⟨y505, Ny505, H⟩ := H
 have H' := Aside0.mk H
 clear H
 go_enter Try.func66, Try.ntmps66
 go_wp2_with (first | ((with_reducible refine gate_dst (N := 9) rfl ?_); refine Kd.R_lit (Kd.int .i64) _ 3 ?hg (N := 9) ?hd (xs := ([] : List Int)) (inner := []) (ok := fun _ => True) (okp := fun _ => True) ?hr ?hp (fun _ hk => hk) trivial (Below.refl _ _) (Nat.le_refl _) (by simp) ?_; (case hd => rfl); (case hg => rfl); (case hr => first | (go_simp; done) | (go_simp; rfl)); (case hp => exact (Reps.none _ _)); intro v506 w2 ho3 hb hg_ hnew_; clear hg_ hnew_; (first | rw [← Ny505.out] at ho3 | (simp only [Int.reduceToNat] at ho3; rw [← Ny505.out] at ho3)); have HO507 := am (Kd.R_lower ho3 (below_size (mb HB.out))); replace HB := am (below_step (mb HB.out) hb); clear hb ho3))
 go_loopg [3, 12] k (fun kq v3 v12 w' => ∃ (x3_1 : Int) (x12_1 : Int), v3 = .int .i64 x3_1 ∧ v12 = .int .i64 x12_1 ∧ Aside0 (impl_reduced.l0 kq l0 x3_1 y505 l0 (l0.length : Int) x12_1 = some r) ∧ Aside0 (kq ≤ k) ∧ Aside0 (Kd.R (Kd.int .i64) 3 w' w.heap.size (fun _ => True) v506 y505) ∧ Aside0 (Below w.heap.size w w'))
 case atStart => exact ⟨(0), (0), eqF, eqF, H', ⟨Nat.le_refl _⟩, ⟨mvR HO507.out⟩, ⟨mb HB.out⟩⟩
 case round =>
  clear H'
  obtain ⟨x3_1, x12_1, rfl, rfl, HA, HK1, HO_4, HB⟩ := hrel
  cases gk with
  | zero => exact absurd HA.out (by simp [impl_reduced.l0])
  | succ k1 =>
   have H := HA.out
   clear HA
   simp only [impl_reduced.l0] at H
   by_cases c4 : x12_1 < (l0.length : Int)
   ·rw [if_pos c4] at H
    have c4b0 := decide_eq_true c4
    clear c4
    replace H := ifD H; obtain ⟨c5b0, H⟩ := H
    replace H := ifD H; obtain ⟨c6b0, H⟩ := H
    replace H := bindA H; obtain ⟨t509, A7, H⟩ := H
    have H' := Aside0.mk H
    clear H
    have p508 : 0 ≤ (x12_1 : Int) := odE
    have q508 : x12_1 < (l0.length : Int) := odE
    obtain ⟨ad508, e508, hx508_0⟩ := Kd.at_int HR0.out x12_1 p508 q508
    cases e508
    replace hx508_0 := (HB.out.cell (World.block_lt_of_cell? w _ hx508_0)).trans hx508_0
    replace p508 := eq_true p508
    replace q508 := eq_true q508
    go_wp2_with (first | ((with_reducible refine gC 84 rfl ?_); refine gL 18 Try.func84 #[.int .i64 x3_1, .int .i64 (rd l0 x12_1)] ?_; (with_reducible refine (impl_gcd.calls k1 x3_1 (rd l0 x12_1) t509 _ A7.out).mono ?_); rintro e w' ⟨rfl, ⟨nd, rfl⟩⟩; refine ⟨_, rfl, ?_⟩))
    go_roundg k1
    case measure => have := HK1.out; omega
    case rel => exact ⟨(t509), (wrap64 (x12_1 + 1)), eqF, eqF, H', ⟨by have := HK1.out; omega⟩, ⟨mvR HO_4.out⟩, ⟨mb HB.out⟩⟩
   rw [if_neg c4] at H
   have c4b0 := decide_eq_false c4
   clear c4
   have H' := Aside0.mk H
   clear H
   go_wp2
   go_loopg [4, 22] k1 (fun kq v4 v22 w' => ∃ (x4_2 : List Int) (x22_2 : Int), v22 = .int .i64 x22_2 ∧ Aside0 (impl_reduced.l1 kq x3_1 x4_2 l0 (l0.length : Int) x22_2 = some r) ∧ Aside0 (kq ≤ k1) ∧ Aside0 (Kd.R (Kd.int .i64) 3 w' w.heap.size (fun _ => True) v4 x4_2) ∧ Aside0 (Below w.heap.size w w'))
   case atStart => exact ⟨(y505), (0), eqF, H', ⟨Nat.le_refl _⟩, ⟨mvR HO_4.out⟩, ⟨mb HB.out⟩⟩
   case round =>
    clear H'
    obtain ⟨x4_2, x22_2, rfl, HA, HK2, HO_4, HB⟩ := hrel
    cases gk with
    | zero => exact absurd HA.out (by simp [impl_reduced.l1])
    | succ k2 =>
     have H := HA.out
     clear HA
     simp only [impl_reduced.l1] at H
     by_cases c8 : x22_2 < (l0.length : Int)
     rotate_left
     ·rw [if_neg c8] at H
      have c8b0 := decide_eq_false c8
      clear c8
      obtain rfl := Option.some.inj H
      go_wp2
      go_ret
      exact ⟨_, eqE, mvR HO_4.out, mb HB.out⟩
     rw [if_pos c8] at H
     have c8b0 := decide_eq_true c8
     clear c8
     replace H := ifD H; obtain ⟨c9b0, H⟩ := H
     replace H := ifD H; obtain ⟨c10b0, H⟩ := H
     obtain ⟨ji11, hji11⟩ : ∃ j_ : Int, (mx x3_1 1) = j_ := ⟨_, rfl⟩
     replace H : (if (ji11) = 0 then (none) else (if x4_2.length < 17592186044416 then (impl_reduced.l1 k2 x3_1 (x4_2 ++ [wrap64 (Int.tdiv (rd l0 x22_2) (ji11))]) l0 (l0.length : Int) (wrap64 (x22_2 + 1))) else (none))) = some r := by first | (rw [hji11] at H; exact H) | (simp only [hji11] at H ⊢; exact H)
     have hji11_ : (if x3_1 < 1 then 1 else x3_1) = ji11 := hji11
     replace H := ifN H; obtain ⟨c12, H⟩ := H
     have c12b0 := neb1 c12
     have c12b1 := neb2 c12
     replace H := ifA H; obtain ⟨LMc13, H⟩ := H
     replace H := nameA (x4_2 ++ [wrap64 (Int.tdiv (rd l0 x22_2) (ji11))]) (fun y511 => (impl_reduced.l1 k2 x3_1 y511 l0 (l0.length : Int) (wrap64 (x22_2 + 1))) = some r) H; obtain ⟨y511, Ny511, H⟩ := H
     have H' := Aside0.mk H
     clear H
     have p510 : 0 ≤ (x22_2 : Int) := odE
     have q510 : x22_2 < (l0.length : Int) := odE
     obtain ⟨ad510, e510, hx510_0⟩ := Kd.at_int HR0.out x22_2 p510 q510
     cases e510
     replace hx510_0 := (HB.out.cell (World.block_lt_of_cell? w _ hx510_0)).trans hx510_0
     replace p510 := eq_true p510
     replace q510 := eq_true q510
     go_wp2_with (first | ((with_reducible refine gate_builtin (b := .append) (xs := #[.tmp 26, .tmp 31]) rfl ?_); at_builtin; refine Kd.R_append (Kd.int .i64) (w0 := w) w.heap.size rfl (.tmp 26) (.tmp 31) 38 3 (.int .i64 0) 8 rfl Try.underlying38 info3 rfl (by decide) (by omega) u4 x4_2 (wrap64 (Int.tdiv (rd l0 x22_2) (ji11))) [.int .i64 (wrap64 (Int.tdiv (rd l0 x22_2) (ji11)))] (fun _ => True) (fun _ => False) rfl rfl ?aP (fun _ hk => hk.elim) ?aF ?aO ?aB ?aS ?aL ?_; (case aP => exact rfl); (case aB => exact (mb HB.out)); (case aF => exact (fun _ _ => trivial)); (case aO => exact (mvR HO_4.out)); (case aS => exact (below_size (mb HB.out))); (case aL => have := LMc13.out; omega); intro v512 w14 ho hb hg hat; rw [← Ny511.out] at ho; replace HB := am (hb); have HO513 := am (ho); clear HO_4; clear ho hb hg hat))
     go_roundg k2
     case measure => have := HK1.out; have := HK2.out; omega
     case rel => exact ⟨(y511), (wrap64 (x22_2 + 1)), eqF, H', ⟨by have := HK1.out; have := HK2.out; omega⟩, ⟨mvR HO513.out⟩, ⟨mb HB.out⟩⟩
def cmp_isNaN_int.f (a0 : Int) : Option (Bool) := some (a0 != a0)
theorem cmp_isNaN_int.calls (a0 : Int) (r : Bool) (w : World) (h : cmp_isNaN_int.f a0 = some r) :
  Calls Try.prog 101 #[.int .i64 a0] w fun e w' => e = .returned (.bool r) ∧ Drawn0 w w' := by
 have H : (some (a0 != a0)) = some r := h
 clear h
 obtain rfl := Option.some.inj H
 go_enter Try.func101, Try.ntmps101
 go_wp2
 go_ret
 exact ⟨eqD, drE⟩
def cmp_Compare_int.f (a0 : Int) (a1 : Int) : Option (Int) := (cmp_isNaN_int.f a0).bind fun t514 => ((cmp_isNaN_int.f a1).bind fun t515 => (if t514 = true then (if t515 = true then (some 0) else (some (-1))) else (if t515 = true then (some 1) else (if a0 < a1 then (some (-1)) else (if a0 > a1 then (some 1) else (some 0))))))
theorem cmp_Compare_int.calls (a0 : Int) (a1 : Int) (r : Int) (w : World) (h : cmp_Compare_int.f a0 a1 = some r) :
  Calls Try.prog 87 #[.int .i64 a0, .int .i64 a1] w fun e w' => e = .returned (.int .i64 r) ∧ Drawn0 w w' := by
 have H : ((cmp_isNaN_int.f a0).bind fun t514 => ((cmp_isNaN_int.f a1).bind fun t515 => (if t514 = true then (if t515 = true then (some 0) else (some (-1))) else (if t515 = true then (some 1) else (if a0 < a1 then (some (-1)) else (if a0 > a1 then (some 1) else (some 0))))))) = some r := h
 clear h
 replace H := bindA H; obtain ⟨t514, A3, H⟩ := H
 replace H := bindA H; obtain ⟨t515, A4, H⟩ := H
 by_cases c5 : t514 = true
 ·subst c5
  replace H := ifT H
  by_cases c6 : t515 = true
  ·subst c6
   replace H := ifT H
   obtain rfl := Option.some.inj H
   go_enter Try.func87, Try.ntmps87
   go_wp2_with (first | ((with_reducible refine gC 101 rfl ?_); refine gL 8 Try.func101 #[.int .i64 a0] ?_; (with_reducible refine (cmp_isNaN_int.calls a0 true _ A3.out).mono ?_); rintro e w' ⟨rfl, ⟨nd, rfl⟩⟩; refine ⟨_, rfl, ?_⟩) | ((with_reducible refine gC 101 rfl ?_); refine gL 10 Try.func101 #[.int .i64 a1] ?_; (with_reducible refine (cmp_isNaN_int.calls a1 true _ A4.out).mono ?_); rintro e w' ⟨rfl, ⟨nd, rfl⟩⟩; refine ⟨_, rfl, ?_⟩))
   go_ret
   exact ⟨eqD, drE⟩
  replace c6 := Bool.eq_false_iff.mpr c6
  subst c6
  replace H := ifF H
  obtain rfl := Option.some.inj H
  go_enter Try.func87, Try.ntmps87
  go_wp2_with (first | ((with_reducible refine gC 101 rfl ?_); refine gL 8 Try.func101 #[.int .i64 a0] ?_; (with_reducible refine (cmp_isNaN_int.calls a0 true _ A3.out).mono ?_); rintro e w' ⟨rfl, ⟨nd, rfl⟩⟩; refine ⟨_, rfl, ?_⟩) | ((with_reducible refine gC 101 rfl ?_); refine gL 10 Try.func101 #[.int .i64 a1] ?_; (with_reducible refine (cmp_isNaN_int.calls a1 false _ A4.out).mono ?_); rintro e w' ⟨rfl, ⟨nd, rfl⟩⟩; refine ⟨_, rfl, ?_⟩))
  go_ret
  exact ⟨eqD, drE⟩
 replace c5 := Bool.eq_false_iff.mpr c5
 subst c5
 replace H := ifF H
 by_cases c7 : t515 = true
 ·subst c7
  replace H := ifT H
  obtain rfl := Option.some.inj H
  go_enter Try.func87, Try.ntmps87
  go_wp2_with (first | ((with_reducible refine gC 101 rfl ?_); refine gL 8 Try.func101 #[.int .i64 a0] ?_; (with_reducible refine (cmp_isNaN_int.calls a0 false _ A3.out).mono ?_); rintro e w' ⟨rfl, ⟨nd, rfl⟩⟩; refine ⟨_, rfl, ?_⟩) | ((with_reducible refine gC 101 rfl ?_); refine gL 10 Try.func101 #[.int .i64 a1] ?_; (with_reducible refine (cmp_isNaN_int.calls a1 true _ A4.out).mono ?_); rintro e w' ⟨rfl, ⟨nd, rfl⟩⟩; refine ⟨_, rfl, ?_⟩))
  go_ret
  exact ⟨eqD, drE⟩
 replace c7 := Bool.eq_false_iff.mpr c7
 subst c7
 replace H := ifF H
 by_cases c8 : a0 < a1
 ·rw [if_pos c8] at H
  have c8b0 := decide_eq_true c8
  clear c8
  obtain rfl := Option.some.inj H
  go_enter Try.func87, Try.ntmps87
  go_wp2_with (first | ((with_reducible refine gC 101 rfl ?_); refine gL 8 Try.func101 #[.int .i64 a0] ?_; (with_reducible refine (cmp_isNaN_int.calls a0 false _ A3.out).mono ?_); rintro e w' ⟨rfl, ⟨nd, rfl⟩⟩; refine ⟨_, rfl, ?_⟩) | ((with_reducible refine gC 101 rfl ?_); refine gL 10 Try.func101 #[.int .i64 a1] ?_; (with_reducible refine (cmp_isNaN_int.calls a1 false _ A4.out).mono ?_); rintro e w' ⟨rfl, ⟨nd, rfl⟩⟩; refine ⟨_, rfl, ?_⟩))
  go_ret
  exact ⟨eqD, drE⟩
 rw [if_neg c8] at H
 have c8b0 := decide_eq_false c8
 clear c8
 by_cases c9 : a0 > a1
 ·rw [if_pos c9] at H
  have c9b0 : decide (a1 < a0) = true := decide_eq_true c9
  clear c9
  obtain rfl := Option.some.inj H
  go_enter Try.func87, Try.ntmps87
  go_wp2_with (first | ((with_reducible refine gC 101 rfl ?_); refine gL 8 Try.func101 #[.int .i64 a0] ?_; (with_reducible refine (cmp_isNaN_int.calls a0 false _ A3.out).mono ?_); rintro e w' ⟨rfl, ⟨nd, rfl⟩⟩; refine ⟨_, rfl, ?_⟩) | ((with_reducible refine gC 101 rfl ?_); refine gL 10 Try.func101 #[.int .i64 a1] ?_; (with_reducible refine (cmp_isNaN_int.calls a1 false _ A4.out).mono ?_); rintro e w' ⟨rfl, ⟨nd, rfl⟩⟩; refine ⟨_, rfl, ?_⟩))
  go_ret
  exact ⟨eqD, drE⟩
 rw [if_neg c9] at H
 have c9b0 : decide (a1 < a0) = false := decide_eq_false c9
 clear c9
 obtain rfl := Option.some.inj H
 go_enter Try.func87, Try.ntmps87
 go_wp2_with (first | ((with_reducible refine gC 101 rfl ?_); refine gL 8 Try.func101 #[.int .i64 a0] ?_; (with_reducible refine (cmp_isNaN_int.calls a0 false _ A3.out).mono ?_); rintro e w' ⟨rfl, ⟨nd, rfl⟩⟩; refine ⟨_, rfl, ?_⟩) | ((with_reducible refine gC 101 rfl ?_); refine gL 10 Try.func101 #[.int .i64 a1] ?_; (with_reducible refine (cmp_isNaN_int.calls a1 false _ A4.out).mono ?_); rintro e w' ⟨rfl, ⟨nd, rfl⟩⟩; refine ⟨_, rfl, ?_⟩))
 go_ret
 exact ⟨eqD, drE⟩
def slices_Compare_int_int.l0 : Nat → List Int → List Int → List Int → Int → Int → Option (Int)
 | 0, _, _, _, _, _ => none
 | k + 1, x0, x1, x9, x10, x11 => if x11 < x10 then (if 0 ≤ x11 then (if x11 < (x9.length : Int) then (if x11 ≥ (x1.length : Int) then (some 1) else (if x11 < (x1.length : Int) then ((cmp_Compare_int.f (rd x9 x11) (rd x1 x11)).bind fun t518 => (if t518 = 0 then (slices_Compare_int_int.l0 k x0 x1 x9 x10 (wrap64 (x11 + 1))) else (some t518))) else (none))) else (none)) else (none)) else (if (x0.length : Int) < (x1.length : Int) then (some (-1)) else (some 0))
def slices_Compare_int_int.f (k : Nat) (l0 : List Int) (l1 : List Int) : Option (Int) := slices_Compare_int_int.l0 k l0 l1 l0 (l0.length : Int) 0
theorem slices_Compare_int_int.mono_l : ∀ k, (∀ y0 y1 y2 y3 y4, LeO (slices_Compare_int_int.l0 k y0 y1 y2 y3 y4) (slices_Compare_int_int.l0 (k + 1) y0 y1 y2 y3 y4))
 | 0 => fun _ _ _ _ _ r h => by simp [slices_Compare_int_int.l0] at h
 | k + 1 => by
  have ih0 := slices_Compare_int_int.mono_l k
  ·intro y0 y1 y2 y3 y4
   unfold slices_Compare_int_int.l0
   repeat' first
   | (with_reducible exact ih0 ..)
   | (with_reducible exact LeO.refl _)
   | (with_reducible exact LeO.none _)
   | (with_reducible refine LeO.ite ?_ ?_)
   | (with_reducible refine LeO.bind ?_ (fun _ => ?_))
theorem slices_Compare_int_int.mono : ∀ a0 a1 k, LeO (slices_Compare_int_int.f k a0 a1) (slices_Compare_int_int.f (k + 1) a0 a1) := by
 intro a0 a1 k
 have ih0 := slices_Compare_int_int.mono_l k
 unfold slices_Compare_int_int.f
 repeat' first
   | (with_reducible exact ih0 ..)
   | (with_reducible exact LeO.refl _)
   | (with_reducible exact LeO.none _)
   | (with_reducible refine LeO.ite ?_ ?_)
   | (with_reducible refine LeO.bind ?_ (fun _ => ?_))
theorem slices_Compare_int_int.calls (k : Nat) (A0 : Option Addr) (c0 : Nat) (l0 : List Int) (A1 : Option Addr) (c1 : Nat) (l1 : List Int) (r : Int) (w : World) (hr0 : Kd.C (Kd.int .i64) w A0 l0.length l0) (hc0 : l0.length ≤ c0) (hr1 : Kd.C (Kd.int .i64) w A1 l1.length l1) (hc1 : l1.length ≤ c1) (h : slices_Compare_int_int.f k l0 l1 = some r) :
  Calls Try.prog 68 #[.slice A0 l0.length c0, .slice A1 l1.length c1] w fun e w' => e = .returned (.int .i64 r) ∧ Drawn0 w w' := by
 have HR0 := Aside0.mk hr0
 have HC0 := Aside0.mk hc0
 clear hr0 hc0
 have HR1 := Aside0.mk hr1
 have HC1 := Aside0.mk hc1
 clear hr1 hc1
 have H : (slices_Compare_int_int.l0 k l0 l1 l0 (l0.length : Int) 0) = some r := h
 clear h
 have H' := Aside0.mk H
 clear H
 go_enter Try.func68, Try.ntmps68
 go_wp2
 go_loopg [11] k (fun kq v11 w' => ∃ (x11_1 : Int), v11 = .int .i64 x11_1 ∧ Aside0 (slices_Compare_int_int.l0 kq l0 l1 l0 (l0.length : Int) x11_1 = some r) ∧ Aside0 (kq ≤ k) ∧ Drawn0 w w')
 case atStart => exact ⟨(0), eqF, H', ⟨Nat.le_refl _⟩, by repeat (first | exact Drawn0.refl _ | apply Drawn0.step)⟩
 case round =>
  clear H'
  obtain ⟨x11_1, rfl, HA, HK1, ⟨m1, rfl⟩⟩ := hrel
  cases gk with
  | zero => exact absurd HA.out (by simp [slices_Compare_int_int.l0])
  | succ k1 =>
   have H := HA.out
   clear HA
   simp only [slices_Compare_int_int.l0] at H
   by_cases c3 : x11_1 < (l0.length : Int)
   rotate_left
   ·rw [if_neg c3] at H
    have c3b0 := decide_eq_false c3
    clear c3
    by_cases c10 : (l0.length : Int) < (l1.length : Int)
    ·rw [if_pos c10] at H
     have c10b0 := decide_eq_true c10
     have c10b1 : decide (l0.length < l1.length) = true := decide_eq_true (Int.ofNat_lt.mp c10)
     clear c10
     obtain rfl := Option.some.inj H
     go_wp2
     go_ret
     exact ⟨eqD, drE⟩
    rw [if_neg c10] at H
    have c10b0 := decide_eq_false c10
    have c10b1 : decide (l0.length < l1.length) = false := decide_eq_false (fun h => c10 (Int.ofNat_lt.mpr h))
    clear c10
    obtain rfl := Option.some.inj H
    go_wp2
    go_ret
    exact ⟨eqD, drE⟩
   rw [if_pos c3] at H
   have c3b0 := decide_eq_true c3
   clear c3
   replace H := ifD H; obtain ⟨c4b0, H⟩ := H
   replace H := ifD H; obtain ⟨c5b0, H⟩ := H
   by_cases c6 : x11_1 ≥ (l1.length : Int)
   ·rw [if_pos c6] at H
    have c6b0 : decide ((l1.length : Int) ≤ x11_1) = true := decide_eq_true c6
    clear c6
    obtain rfl := Option.some.inj H
    have p516 : 0 ≤ (x11_1 : Int) := odE
    have q516 : x11_1 < (l0.length : Int) := odE
    obtain ⟨ad516, e516, hx516_0⟩ := Kd.at_int HR0.out x11_1 p516 q516
    cases e516
    replace p516 := eq_true p516
    replace q516 := eq_true q516
    go_wp2
    go_ret
    exact ⟨eqD, drE⟩
   rw [if_neg c6] at H
   have c6b0 : decide ((l1.length : Int) ≤ x11_1) = false := decide_eq_false c6
   clear c6
   replace H := ifD H; obtain ⟨c7b0, H⟩ := H
   replace H := bindA H; obtain ⟨t518, A8, H⟩ := H
   by_cases c9 : t518 = 0
   rotate_left
   ·rw [if_neg c9] at H
    have c9b0 := neb1 c9
    have c9b1 := neb2 c9
    obtain rfl := Option.some.inj H
    have p516 : 0 ≤ (x11_1 : Int) := odE
    have q516 : x11_1 < (l0.length : Int) := odE
    obtain ⟨ad516, e516, hx516_0⟩ := Kd.at_int HR0.out x11_1 p516 q516
    cases e516
    replace p516 := eq_true p516
    replace q516 := eq_true q516
    have p517 : 0 ≤ (x11_1 : Int) := odE
    have q517 : x11_1 < (l1.length : Int) := odE
    obtain ⟨ad517, e517, hx517_0⟩ := Kd.at_int HR1.out x11_1 p517 q517
    cases e517
    replace p517 := eq_true p517
    replace q517 := eq_true q517
    go_wp2_with (first | ((with_reducible refine gC 87 rfl ?_); refine gL 26 Try.func87 #[.int .i64 (rd l0 x11_1), .int .i64 (rd l1 x11_1)] ?_; (with_reducible refine (cmp_Compare_int.calls (rd l0 x11_1) (rd l1 x11_1) t518 _ A8.out).mono ?_); rintro e w' ⟨rfl, ⟨nd, rfl⟩⟩; refine ⟨_, rfl, ?_⟩))
    go_ret
    exact ⟨eqD, drE⟩
   rw [if_pos c9] at H
   have c9b0 := eqb1 c9
   have c9b1 := eqb2 c9
   clear c9
   have H' := Aside0.mk H
   clear H
   have p516 : 0 ≤ (x11_1 : Int) := odE
   have q516 : x11_1 < (l0.length : Int) := odE
   obtain ⟨ad516, e516, hx516_0⟩ := Kd.at_int HR0.out x11_1 p516 q516
   cases e516
   replace p516 := eq_true p516
   replace q516 := eq_true q516
   have p517 : 0 ≤ (x11_1 : Int) := odE
   have q517 : x11_1 < (l1.length : Int) := odE
   obtain ⟨ad517, e517, hx517_0⟩ := Kd.at_int HR1.out x11_1 p517 q517
   cases e517
   replace p517 := eq_true p517
   replace q517 := eq_true q517
   go_wp2_with (first | ((with_reducible refine gC 87 rfl ?_); refine gL 26 Try.func87 #[.int .i64 (rd l0 x11_1), .int .i64 (rd l1 x11_1)] ?_; (with_reducible refine (cmp_Compare_int.calls (rd l0 x11_1) (rd l1 x11_1) t518 _ A8.out).mono ?_); rintro e w' ⟨rfl, ⟨nd, rfl⟩⟩; refine ⟨_, rfl, ?_⟩))
   go_roundg k1
   case measure => have := HK1.out; omega
   case rel => exact ⟨(wrap64 (x11_1 + 1)), eqF, H', ⟨by have := HK1.out; omega⟩, by repeat (first | exact Drawn0.refl _ | apply Drawn0.step)⟩
end Go.Proofs.Ytggiicplcglalaa.All
end
section
namespace Go.Proofs.Ytggiicplcglalaa.All
open Go.RowKit Go.Proofs.YtggiicplcglalaaW.PrintWords Go.Proofs.YtggiicplcglalaaW.PrintLast Go.Proofs.YtggiicplcglalaaW.PrintMore
attribute [local go_sem] max2_int min2_int max_two min_two max_three min_three max_four min_four
set_option linter.unusedVariables false
set_option linter.unusedSimpArgs false
def srtRen : Go.Shelf.Ren := ⟨fun | 6 => 67 | 14 => 85 | 15 => 86 | 20 => 91 | 21 => 92 | 22 => 93 | 23 => 94 | 24 => 95 | 25 => 96 | 26 => 97 | 27 => 98 | 28 => 99 | 29 => 100 | 46 => 102 | 47 => 103 | 48 => 104 | 49 => 105 | 50 => 106 | 57 => 107 | n => n, fun | 0 => 0 | 3 => 3 | 4 => 4 | 5 => 5 | 9 => 9 | 22 => 22 | 24 => 38 | 25 => 78 | 39 => 89 | 45 => 93 | 46 => 94 | 50 => 98 | 53 => 101 | 55 => 103 | 66 => 104 | 70 => 108 | 76 => 110 | 77 => 111 | n => n, fun | n => n⟩
theorem srtLay : SlLaysF.n6 Try.prog srtRen := {
 mixed := by kernel_rfl
 f6 := ⟨Try.f67.name, by decide, Try.func67.trans (congrArg some (by kernel_rfl))⟩
 f14 := ⟨Try.f85.name, by decide, Try.func85.trans (congrArg some (by kernel_rfl))⟩
 f15 := Try.func86.trans (congrArg some (by kernel_rfl))
 f20 := ⟨Try.f91.name, by decide, Try.func91.trans (congrArg some (by kernel_rfl))⟩
 f21 := ⟨Try.f92.name, by decide, Try.func92.trans (congrArg some (by kernel_rfl))⟩
 f22 := ⟨Try.f93.name, by decide, Try.func93.trans (congrArg some (by kernel_rfl))⟩
 f23 := ⟨Try.f94.name, by decide, Try.func94.trans (congrArg some (by kernel_rfl))⟩
 f24 := ⟨Try.f95.name, by decide, Try.func95.trans (congrArg some (by kernel_rfl))⟩
 f25 := ⟨Try.f96.name, by decide, Try.func96.trans (congrArg some (by kernel_rfl))⟩
 f26 := ⟨Try.f97.name, by decide, Try.func97.trans (congrArg some (by kernel_rfl))⟩
 f27 := ⟨Try.f98.name, by decide, Try.func98.trans (congrArg some (by kernel_rfl))⟩
 f28 := Try.func99.trans (congrArg some (by kernel_rfl))
 f29 := Try.func100.trans (congrArg some (by kernel_rfl))
 f46 := ⟨Try.f102.name, by decide, Try.func102.trans (congrArg some (by kernel_rfl))⟩
 f47 := Try.func103.trans (congrArg some (by kernel_rfl))
 f48 := Try.func104.trans (congrArg some (by kernel_rfl))
 f49 := ⟨Try.f105.name, by decide, Try.func105.trans (congrArg some (by kernel_rfl))⟩
 f50 := ⟨Try.f106.name, by decide, Try.func106.trans (congrArg some (by kernel_rfl))⟩
 f57 := ⟨Try.f107.name, by decide, Try.func107.trans (congrArg some (by kernel_rfl))⟩
 t0 := Try.underlying0
 a0 := Try.isAgg0
 z0 := Try.sizeOf0
 v0 := Try.zeroValue0
 t3 := Try.underlying3
 a3 := Try.isAgg3
 z3 := Try.sizeOf3
 v3 := Try.zeroValue3
 t4 := Try.underlying4
 a4 := Try.isAgg4
 z4 := Try.sizeOf4
 v4 := Try.zeroValue4
 t5 := Try.underlying5
 a5 := Try.isAgg5
 z5 := Try.sizeOf5
 v5 := Try.zeroValue5
 t9 := Try.underlying9
 a9 := Try.isAgg9
 z9 := Try.sizeOf9
 v9 := Try.zeroValue9
 t22 := Try.underlying22
 a22 := Try.isAgg22
 z22 := Try.sizeOf22
 v22 := Try.zeroValue22
 a24 := Try.isAgg38
 z24 := Try.sizeOf38
 t25 := Try.underlying78
 a25 := Try.isAgg78
 z25 := Try.sizeOf78
 v25 := Try.zeroValue78
 t39 := Try.underlying89
 a39 := Try.isAgg89
 z39 := Try.sizeOf89
 v39 := Try.zeroValue89
 t45 := Try.underlying93
 a45 := Try.isAgg93
 z45 := Try.sizeOf93
 v45 := Try.zeroValue93
 t46 := Try.underlying94
 a46 := Try.isAgg94
 z46 := Try.sizeOf94
 v46 := Try.zeroValue94
 t50 := Try.underlying98
 a50 := Try.isAgg98
 z50 := Try.sizeOf98
 v50 := Try.zeroValue98
 t53 := Try.underlying101
 a53 := Try.isAgg101
 z53 := Try.sizeOf101
 v53 := Try.zeroValue101
 t55 := Try.underlying103
 a55 := Try.isAgg103
 z55 := Try.sizeOf103
 v55 := Try.zeroValue103
 t66 := Try.underlying104
 a66 := Try.isAgg104
 z66 := Try.sizeOf104
 v66 := Try.zeroValue104
 t70 := Try.underlying108
 a70 := Try.isAgg108
 z70 := Try.sizeOf108
 v70 := Try.zeroValue108
 t76 := Try.underlying110
 a76 := Try.isAgg110
 z76 := Try.sizeOf110
 v76 := Try.zeroValue110
 t77 := Try.underlying111
 a77 := Try.isAgg111
 z77 := Try.sizeOf111
 v77 := Try.zeroValue111 }
section
variable {α : Type} [Inhabited α]
open Go.Sort in
theorem heap_put (enc : α → Value) {w : World} {g n : Nat} {os : Array Obj} {cur : Array Value} {e : TypeId} {fr : Nat × Nat} (d : Array α) (hb : w.heap[g]? = some (.cells cur e fr)) :
  (Go.Sort.grow (putRow enc (Sort.ahead w n) g 0 d) os).heap[g]? = some (.cells (putCells enc 0 d cur) e fr) := by
 have hg : g < w.heap.size := (Array.getElem?_eq_some_iff.1 hb).1
 rw [heap_grow_old _ _ (by simpa using hg)]
 simp [putRow, mapBlock, Sort.ahead, Array.getElem?_modify, hb, onCells]
open Go.Sort in
theorem grown_put (enc : α → Value) {w : World} {g n : Nat} {os : Array Obj} (d : Array α) : w.grownBy (Go.Sort.grow (putRow enc (Sort.ahead w n) g 0 d) os) (some g) := by
 refine ⟨rfl, rfl, rfl, by simp, fun k hk hne => ?_⟩
 rw [heap_grow_old _ _ (by simpa using hk)]
 have : g ≠ k := fun e => hne (by rw [e])
 simp [putRow, mapBlock, Sort.ahead, Array.getElem?_modify, this]
open Go.Sort in
theorem take_put (enc : α → Value) (cur : Array Value) (ts : List α) (h : ts.length ≤ cur.size) : (putCells enc 0 ts.toArray cur).toList.take ts.length = ts.map enc := by
 apply List.ext_getElem?
 intro j
 by_cases hj : j < ts.length
 rotate_left
 ·rw [List.getElem?_take_eq_none (by omega), List.getElem?_eq_none (by simp; omega)]
 rw [List.getElem?_take_of_lt hj, Array.getElem?_toList]
 simp [putCells, hj, show j < cur.size by omega]
open Go.Sort in
theorem holds_block (enc : α → Value) {w : World} {g : Nat} {cur : Array Value} {e : TypeId} {ss : List α} (hb : w.heap[g]? = some (.cells cur e (0, 0))) (ht : cur.toList.take ss.length = ss.map enc) : Holds enc w g 0 ss.toArray := by
 intro j hj
 have hj' : j < ss.length := by simpa using hj
 refine ⟨?_, by simp [World.frozen?, hb]⟩
 have h1 : (cur.toList.take ss.length)[j]? = (ss.map enc)[j]? := by rw [ht]
 rw [List.getElem?_take_of_lt hj'] at h1
 simp only [World.cell?, hb, Nat.zero_add]
 simp only [Option.isSome_none, Bool.false_eq_true, if_false]
 rw [← Array.getElem?_toList, h1]
 simp [hj']
end
structure RowAt (w : World) (base : Nat) (ok : Nat → Prop) (f : Nat → Nat) where
 v : Value
 l : List Int
 i : Nat
 m : (Kd.slice 3 (Kd.int .i64)).M w base (fun k => ok k ∧ f k = i) l [v]
section
variable {w : World} {base : Nat} {ok : Nat → Prop} {f : Nat → Nat}
instance : Inhabited (RowAt w base ok f) := ⟨⟨.slice none 0 0, [], 0, ⟨_, rfl, Kd.R_nil _ _ _ _ _⟩⟩⟩
theorem RowAt.one (x : RowAt w base ok f) : x.v.oneCell' = true := (Kd.slice 3 (Kd.int .i64)).K_one ((Kd.slice 3 (Kd.int .i64)).K_of_M x.m) x.v (by simp)
theorem RowAt.reads (x : RowAt w base ok f) {W : World} (hW : ∀ k, ok k → k < w.heap.size → W.heap[k]? = w.heap[k]?) : ∃ A c, x.v = .slice A x.l.length c ∧ x.l.length ≤ c ∧ Kd.C (Kd.int .i64) W A x.l.length x.l := by
 obtain ⟨A, c, e, hl, hr⟩ := (Kd.slice 3 (Kd.int .i64)).K_of_M (Kd.M_step x.m (fun k hk hlt => hW k hk.1 hlt))
 injection e with e _
 exact ⟨A, c, e, hl, hr⟩
theorem S_open {e : Nat} {v : Value} {xs : List (List Int)} (h : Kd.S (Kd.slice 3 (Kd.int .i64)) e w base ok v xs) (hne : xs ≠ []) :
  ∃ (f : Nat → Nat) (g cap : Nat) (cur : Array Value) (d : List (RowAt w base (fun k => ok k ∧ k ≠ g) f)), v = .slice (some ⟨g, 0, none⟩) xs.length cap ∧ base ≤ g ∧ ok g ∧ w.heap[g]? = some (.cells cur e (0, 0)) ∧ xs.length ≤ cap ∧ cap ≤ maxLen ∧ cur.size = cap * 1 ∧ cur.toList.take xs.length = d.map (·.v) ∧ d.map (·.l) = xs ∧ d.map (·.i) = List.range xs.length := by
 obtain ⟨f, h0, inner, ho, hr⟩ := h
 rw [List.length_zipIdx] at ho
 have hpos : 0 < xs.length := List.length_pos_iff.mpr hne
 rcases ho.2 with ⟨_, hn⟩ | ⟨g, cap, cur, rfl, hbase, hheap, h1, h2, h3, h4⟩
 ·omega
 have hlen : inner.length = xs.length := by rw [ho.1]; exact Nat.mul_one _
 have hM : ∀ j (hj : j < xs.length), (Kd.slice 3 (Kd.int .i64)).M w base (fun k => (ok k ∧ k ≠ g) ∧ f k = j) xs[j] [inner[j]'(by omega)] := by
  intro j hj
  have hz : xs.zipIdx[j]? = some (xs[j], j) := Kd.zip_at (List.getElem?_eq_getElem hj)
  have hm := hr.2 j _ hz
  have e1 : (inner.drop (j * 1)).take 1 = [inner[j]'(by omega)] := by
   rw [Nat.mul_one, List.drop_eq_getElem_cons (by omega), List.take_succ_cons, List.take_zero]
  have e2 : ((inner.drop (j * (Kd.tag f (Kd.slice 3 (Kd.int .i64))).sz)).take (Kd.tag f (Kd.slice 3 (Kd.int .i64))).sz) = [inner[j]'(by omega)] := e1
  rw [e2] at hm
  exact (Kd.slice 3 (Kd.int .i64)).M_mono (fun k hk => ⟨⟨hk.1.1, fun e_ => hk.1.2 (by rw [e_]; rfl)⟩, hk.2⟩) hm
 refine ⟨f, g, cap, cur, List.ofFn (fun j : Fin xs.length => ⟨inner[j.1]'(by omega), xs[j.1], j.1, hM j.1 j.2⟩), rfl, hbase, h0 g rfl, hheap, h1, h2, h3, ?_, ?_, ?_⟩
 ·have h4' : cur.toList.take xs.length = inner := by have := h4; rwa [show xs.length * (Kd.tag f (Kd.slice 3 (Kd.int .i64))).sz = xs.length from Nat.mul_one _] at this
  rw [h4']
  apply List.ext_getElem (by simp [hlen])
  intro j h5 h6
  simp
 ·apply List.ext_getElem (by simp)
  intro j h5 h6
  simp
 ·apply List.ext_getElem (by simp)
  intro j h5 h6
  simp
theorem S_close {e g cap : Nat} {w' : World} {cur' : Array Value} (d' : List (RowAt w base (fun k => ok k ∧ k ≠ g) f)) (hn : (d'.map (·.i)).Nodup) (hok : ok g) (hbase : base ≤ g) (hheap : w'.heap[g]? = some (.cells cur' e (0, 0))) (h1 : d'.length ≤ cap) (h2 : cap ≤ maxLen) (h3 : cur'.size = cap * 1) (h4 : cur'.toList.take d'.length = d'.map (·.v)) (hm : ∀ k, k ≠ g → k < w.heap.size → w'.heap[k]? = w.heap[k]?) :
  Kd.S (Kd.slice 3 (Kd.int .i64)) e w' base ok (.slice (some ⟨g, 0, none⟩) d'.length cap) (d'.map (·.l)) := by
 refine ⟨fun k => (d'.map (·.i)).idxOf (f k), fun k hk => ?_, d'.map (·.v), ?_, ?_⟩
 ·have : g = k := by simpa [Value.ownBlock] using hk
  subst this; exact hok
 ·rw [List.length_zipIdx, List.length_map]
  exact ⟨by rw [List.length_map]; exact (Nat.mul_one _).symm, .inr ⟨g, cap, cur', rfl, hbase, hheap, h1, h2, h3, by rw [show d'.length * (Kd.tag (fun k => (d'.map (·.i)).idxOf (f k)) (Kd.slice 3 (Kd.int .i64))).sz = d'.length from Nat.mul_one _]; exact h4⟩⟩
 ·refine ⟨by rw [List.length_map, List.length_zipIdx, List.length_map]; exact (Nat.mul_one _).symm, fun j p hp => ?_⟩
  have hj : j < d'.length := by
   have := (List.getElem?_eq_some_iff.mp hp).1
   simpa using this
  have hp' : p = ((d'[j]).l, j) := by
   rw [Kd.zip_at (List.getElem?_eq_getElem (by simpa using hj))] at hp
   injection hp with hp
   rw [← hp]; simp
  subst hp'
  have e2 : (((d'.map (·.v)).drop (j * (Kd.tag (fun k => (d'.map (·.i)).idxOf (f k)) (Kd.slice 3 (Kd.int .i64))).sz)).take (Kd.tag (fun k => (d'.map (·.i)).idxOf (f k)) (Kd.slice 3 (Kd.int .i64))).sz) = [(d'[j]).v] := by
   show ((d'.map (·.v)).drop (j * 1)).take 1 = _
   rw [Nat.mul_one, List.drop_eq_getElem_cons (by simpa using hj), List.take_succ_cons, List.take_zero]
   simp
  rw [e2]
  have hmv := Kd.M_step (w1 := w') (d'[j]).m (fun k hk hlt => hm k hk.1.2 hlt)
  show (Kd.slice 3 (Kd.int .i64)).M w' base (fun k => (ok k ∧ some k ≠ (Value.slice (some ⟨g, 0, none⟩) d'.length cap).ownBlock) ∧ (d'.map (·.i)).idxOf (f k) = j) (d'[j]).l [(d'[j]).v]
  refine (Kd.slice 3 (Kd.int .i64)).M_mono (fun k hk => ⟨⟨hk.1.1, fun e_ => hk.1.2 (Option.some.inj e_)⟩, ?_⟩) hmv
  show (d'.map (·.i)).idxOf (f k) = j
  rw [hk.2]
  have : (d'[j]).i = (d'.map (·.i))[j]'(by simpa using hj) := by simp
  rw [this]
  exact List.Nodup.idxOf_getElem hn j (by simpa using hj)
end
def cmpL : List Int → List Int → Int
 | [], [] => 0
 | [], _ :: _ => -1
 | _ :: _, [] => 1
 | a :: l, b :: m => if a < b then -1 else if b < a then 1 else cmpL l m
theorem cmp_int (a b : Int) : cmp_Compare_int.f a b = some (if a < b then -1 else if b < a then 1 else 0) := by
 simp only [cmp_Compare_int.f, cmp_isNaN_int.f, Option.bind_some]
 simp
 split <;> simp_all
 split <;> simp_all
theorem rd_drop (x : List Int) (i : Nat) (h : i < x.length) : x.drop i = rd x i :: x.drop (i + 1) := by
 rw [List.drop_eq_getElem_cons h]
 simp [rd, h]
theorem compare_l0 (x y : List Int) (hx : x.length ≤ 9223372036854775807) : ∀ (d i : Nat), x.length - i ≤ d → i ≤ x.length → i ≤ y.length → slices_Compare_int_int.l0 (d + 1) x y x (x.length : Int) (i : Int) = some (cmpL (x.drop i) (y.drop i)) := by
 intro d
 induction d with
 | zero =>
  intro i h1 h2 h3
  have e : i = x.length := by omega
  subst e
  simp only [slices_Compare_int_int.l0]
  rw [if_neg (by omega), List.drop_length]
  by_cases c : (x.length : Int) < (y.length : Int)
  ·rw [if_pos c, rd_drop y x.length (by omega)]; rfl
  rw [if_neg c, List.drop_eq_nil_of_le (by omega)]; rfl
 | succ d ih =>
  intro i h1 h2 h3
  by_cases c : i < x.length
  rotate_left
  ·have e : i = x.length := by omega
   subst e
   simp only [slices_Compare_int_int.l0]
   rw [if_neg (by omega), List.drop_length]
   by_cases c : (x.length : Int) < (y.length : Int)
   ·rw [if_pos c, rd_drop y x.length (by omega)]; rfl
   rw [if_neg c, List.drop_eq_nil_of_le (by omega)]; rfl
  simp only [slices_Compare_int_int.l0]
  rw [if_pos (by omega), if_pos (by omega), if_pos (by omega), rd_drop x i c]
  by_cases c2 : i < y.length
  rotate_left
  ·rw [if_pos (by omega), show y.drop i = [] from List.drop_eq_nil_of_le (by omega)]; rfl
  rw [if_neg (by omega), if_pos (by omega), rd_drop y i c2, cmp_int]
  simp only [Option.bind_some, cmpL]
  by_cases c3 : rd x i < rd y i
  ·simp [c3]
  by_cases c4 : rd y i < rd x i
  ·simp [c3, c4]
  simp only [c3, c4, if_false]
  have hw : wrap64 ((i : Int) + 1) = ((i + 1 : Nat) : Int) := by unfold wrap64; omega
  rw [hw]
  exact ih (i + 1) (by omega) (by omega) (by omega)
theorem compare_is (x y : List Int) (hx : x.length ≤ 9223372036854775807) : slices_Compare_int_int.f (x.length + 1) x y = some (cmpL x y) := by
 have := compare_l0 x y hx x.length 0 (by omega) (by omega) (by omega)
 simpa [slices_Compare_int_int.f] using this
theorem cmpL_lt_irrefl : ∀ x : List Int, ¬ cmpL x x < 0
 | [] => by simp [cmpL]
 | a :: x => by simp only [cmpL, Int.lt_irrefl, if_false]; exact cmpL_lt_irrefl x
theorem cmpL_lt_trans : ∀ {x y z : List Int}, cmpL x y < 0 → cmpL y z < 0 → cmpL x z < 0
 | [], [], _, h, _ => by simp [cmpL] at h
 | [], _ :: _, [], _, h => by simp [cmpL] at h
 | [], _ :: _, _ :: _, _, _ => by simp [cmpL]
 | _ :: _, [], _, h, _ => by simp [cmpL] at h
 | _ :: _, _ :: _, [], _, h => by simp [cmpL] at h
 | a :: x, b :: y, c :: z, h1, h2 => by
  simp only [cmpL] at *
  by_cases e1 : a < b
  ·by_cases e2 : b < c
   ·rw [if_pos (by omega)]; omega
   rw [if_neg e2] at h2
   by_cases e3 : c < b
   ·rw [if_pos e3] at h2; omega
   rw [if_pos (by omega)]; omega
  rw [if_neg e1] at h1
  by_cases e2 : b < a
  ·rw [if_pos e2] at h1; omega
  rw [if_neg e2] at h1
  by_cases e3 : b < c
  ·rw [if_pos (by omega)]; omega
  rw [if_neg e3] at h2
  by_cases e4 : c < b
  ·rw [if_pos e4] at h2; omega
  rw [if_neg e4] at h2
  rw [if_neg (by omega), if_neg (by omega)]
  exact cmpL_lt_trans h1 h2
theorem cmpL_eq : ∀ {x y : List Int}, ¬ cmpL x y < 0 → ¬ cmpL y x < 0 → x = y
 | [], [], _, _ => rfl
 | [], _ :: _, h, _ => by simp [cmpL] at h
 | _ :: _, [], _, h => by simp [cmpL] at h
 | a :: x, b :: y, h1, h2 => by
  simp only [cmpL] at h1 h2
  by_cases e1 : a < b
  ·rw [if_pos e1] at h1; omega
  by_cases e2 : b < a
  ·rw [if_pos e2] at h2; omega
  rw [if_neg e1, if_neg e2] at h1
  rw [if_neg e2, if_neg e1] at h2
  have : a = b := by omega
  subst this
  rw [cmpL_eq h1 h2]
open Go.Sort in
theorem cmpL_swo {α : Type} (t : α → List Int) : SWO (ltOf fun x y : α => cmpL (t x) (t y)) where
 irrefl x := decide_eq_false (cmpL_lt_irrefl _)
 trans x y z h1 h2 := decide_eq_true (cmpL_lt_trans (of_decide_eq_true h1) (of_decide_eq_true h2))
 ntrans x y z h1 h2 := by
  have a := of_decide_eq_false h1
  have b := of_decide_eq_false h2
  refine decide_eq_false (fun c => ?_)
  by_cases e : cmpL (t y) (t x) < 0
  ·exact b (cmpL_lt_trans e c)
  have c' : cmpL (t x) (t z) < 0 := c
  rw [cmpL_eq a e] at c'
  exact b c'
open Go.Sort in
theorem sortFuncS {v : Value} {xs : List (List Int)} {w0 w : World} {ok : Nat → Prop} (hB : Go.RowKit.Below w0.heap.size w0 w) (ho : Kd.S (Kd.slice 3 (Kd.int .i64)) 38 w w0.heap.size ok v xs) (hne : xs ≠ []) (hlm : xs.length < 4611686018427387904) :
  Calls Try.prog 67 #[v, .func (.func 68) #[] #[]] w fun e w' => e = .returned (.tuple #[]) ∧ ∃ ys : List (List Int), ys.Perm xs ∧ ys.Pairwise (fun a b => ¬ cmpL b a < 0) ∧ Kd.S (Kd.slice 3 (Kd.int .i64)) 38 w' w0.heap.size ok v ys ∧ Go.RowKit.Below w0.heap.size w0 w' := by
 obtain ⟨f, g, cap, cur, d, rfl, hbase, hok, hheap, h1, h2, h3, h4, h5, h6⟩ := S_open ho hne
 have hdl : d.length = xs.length := by have := congrArg List.length h5; simpa using this
 have hlt : g < w.heap.size := (Array.getElem?_eq_some_iff.1 hheap).1
 have hH : Holds (fun x : RowAt w w0.heap.size (fun k => ok k ∧ k ≠ g) f => x.v) w g 0 d.toArray := holds_block _ hheap (by rw [hdl]; exact h4)
 have hmaxl : ∀ x : RowAt w w0.heap.size (fun k => ok k ∧ k ≠ g) f, x.l.length ≤ 9223372036854775807 := fun x => by
  obtain ⟨A, c, _, _, hr⟩ := x.reads (W := w) (fun _ _ _ => rfl)
  exact hr.2.1
 have hcon := Any.slices_SortFunc srtLay (fun x : RowAt w w0.heap.size (fun k => ok k ∧ k ≠ g) f => x.v) (fun x => x.one) (fun x y => cmpL x.l y.l) (cmpL_swo _) 68 #[] g 0 cap d.toArray w
  (enters_of Try.func68 (by kernel_rfl) rfl)
  (fun m os dk hs x y => by
   have hW : ∀ k, (ok k ∧ k ≠ g) → k < w.heap.size → (sortWorld (fun x : RowAt w w0.heap.size (fun k => ok k ∧ k ≠ g) f => x.v) w g 0 m dk os).heap[k]? = w.heap[k]? := fun k hk hl => (grown_put (fun x : RowAt w w0.heap.size (fun k => ok k ∧ k ≠ g) f => x.v) dk).block k hl (fun e_ => hk.2 (by injection e_))
   obtain ⟨A, c, e1, l1, r1⟩ := x.reads hW
   obtain ⟨A', c', e2, l2, r2⟩ := y.reads hW
   have hc := slices_Compare_int_int.calls _ A c x.l A' c' y.l _ _ r1 l1 r2 l2 (compare_is x.l y.l (hmaxl x))
   simp only [e1, e2]
   refine Calls.mono hc ?_
   rintro e w' ⟨he, ⟨nd, hw⟩⟩
   exact ⟨he, nd, #[], by rw [grow_empty]; exact hw⟩)
  hH hlt (by simp only [List.size_toArray]; omega)
 change Calls Try.prog 67 _ _ _ at hcon
 simp only [List.size_toArray, hdl] at hcon
 refine hcon.mono ?_
 rintro e w' ⟨rfl, d', n, os, hp, hs, rfl⟩
 have hsz : d'.size = xs.length := by rw [hp.1]; simpa using hdl
 have hperm : d'.toList.Perm d := by
  have := hp.2.2
  rw [show d'.extract 0 xs.length = d' by rw [← hsz]; simp, show d.toArray.extract 0 xs.length = d.toArray by rw [← hdl]; simp] at this
  simpa using this
 have hg := grown_put (fun x : RowAt w w0.heap.size (fun k => ok k ∧ k ≠ g) f => x.v) (w := w) (g := g) (n := n) (os := os) d'
 refine ⟨rfl, d'.toList.map (·.l), ?_, ?_, ?_, hB.grown hg hB.size (fun k hk => by cases hk; exact hbase)⟩
 ·rw [← h5]; exact hperm.map _
 ·rw [List.pairwise_map, List.pairwise_iff_getElem]
  intro i j hi hj hij
  have hi' : i < d'.size := by simpa using hi
  have hj' : j < d'.size := by simpa using hj
  have := hs i j (Nat.zero_le _) hij (by omega)
  rw [getElem!_pos d' i hi', getElem!_pos d' j hj'] at this
  exact of_decide_eq_false this
 ·have hl : d'.toList.length = xs.length := by simpa using hsz
  rw [← hl]
  refine S_close d'.toList ?_ hok hbase (heap_put _ d' hheap) (by omega) h2 (by simp [putCells, h3]) ?_ (fun k hk hlt => hg.block k hlt (fun e_ => hk (by injection e_)))
  ·have hn : (d.map (·.i)).Nodup := by rw [h6]; exact List.nodup_range
   exact ((hperm.map (·.i)).nodup_iff).mpr hn
  ·have := take_put (fun x : RowAt w w0.heap.size (fun k => ok k ∧ k ≠ g) f => x.v) cur d'.toList (by rw [hl, h3]; omega)
   simpa using this
end Go.Proofs.Ytggiicplcglalaa.All
end
