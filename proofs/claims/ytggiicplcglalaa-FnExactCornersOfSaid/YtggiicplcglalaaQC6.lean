/- Part of the proof that the law FnExactCornersOf answers true for all arguments. -/
import Derived.Test.YtggiicplcglalaaQC5
section
namespace Go.Proofs.Ytggiicplcglalaa.All
open Go.RowKit Go.Proofs.YtggiicplcglalaaW.PrintWords Go.Proofs.YtggiicplcglalaaW.PrintLast Go.Proofs.YtggiicplcglalaaW.PrintMore
attribute [local go_sem] max2_int min2_int max_two min_two max_three min_three max_four min_four
set_option linter.unusedVariables false
set_option linter.unusedSimpArgs false
mutual
def spec_gmRows.j0 : Nat → List (List Int) → Bool → Option (Bool)
 | 0, _, _ => none
 | k + 1, x0, x16 => if x16 = true then (some false) else (spec_gmRows.l0 k x0 x0 (x0.length : Int) 0)
def spec_gmRows.l0 : Nat → List (List Int) → List (List Int) → Int → Int → Option (Bool)
 | 0, _, _, _, _ => none
 | k + 1, x0, x17, x18, x19 => if x19 < x18 then (if 0 ≤ x19 then (if x19 < (x17.length : Int) then (if 0 < (x0.length : Int) then (if ((rd_L1 x17 x19).length : Int) = ((rd_L1 x0 0).length : Int) then ((spec_l1All.f k (rd_L1 x17 x19) (-9) 9).bind fun t113 => (if t113 = true then (spec_gmRows.l0 k x0 x17 x18 (wrap64 (x19 + 1))) else (some false))) else (some false)) else (none)) else (none)) else (none)) else (some true)
end
def spec_gmRows.f (k : Nat) (l0 : List (List Int)) : Option (Bool) := (spec_l1In.f (l0.length : Int) 1 3).bind fun t108 => (if t108 = true then (if 0 < (l0.length : Int) then ((spec_l1In.f ((rd_L1 l0 0).length : Int) 1 3).bind fun t110 => (spec_gmRows.j0 k l0 (!t110))) else (none)) else (spec_gmRows.j0 k l0 true))
theorem spec_gmRows.mono_l : ∀ k, (∀ y0 y1, LeO (spec_gmRows.j0 k y0 y1) (spec_gmRows.j0 (k + 1) y0 y1)) ∧ (∀ y0 y1 y2 y3, LeO (spec_gmRows.l0 k y0 y1 y2 y3) (spec_gmRows.l0 (k + 1) y0 y1 y2 y3))
 | 0 => ⟨fun _ _ r h => by simp [spec_gmRows.j0] at h, fun _ _ _ _ r h => by simp [spec_gmRows.l0] at h⟩
 | k + 1 => by
  obtain ⟨ih0, ih1⟩ := spec_gmRows.mono_l k
  refine ⟨?_, ?_⟩ <;> intros <;> (first | unfold spec_gmRows.j0 | unfold spec_gmRows.l0)
  all_goals repeat' first
  | (with_reducible exact ih0 ..)
  | (with_reducible exact ih1 ..)
  | (with_reducible exact spec_l1All.mono ..)
  | (with_reducible exact LeO.refl _)
  | (with_reducible exact LeO.none _)
  | (with_reducible refine LeO.ite ?_ ?_)
  | (with_reducible refine LeO.bind ?_ (fun _ => ?_))
theorem spec_gmRows.mono : ∀ a0 k, LeO (spec_gmRows.f k a0) (spec_gmRows.f (k + 1) a0) := by
 intro a0 k
 obtain ⟨ih0, ih1⟩ := spec_gmRows.mono_l k
 unfold spec_gmRows.f
 repeat' first
   | (with_reducible exact ih0 ..)
   | (with_reducible exact ih1 ..)
   | (with_reducible exact spec_l1All.mono ..)
   | (with_reducible exact LeO.refl _)
   | (with_reducible exact LeO.none _)
   | (with_reducible refine LeO.ite ?_ ?_)
   | (with_reducible refine LeO.bind ?_ (fun _ => ?_))
set_option maxHeartbeats 8000000 in
set_option maxRecDepth 100000 in
theorem spec_gmRows.calls (k : Nat) (A0 : Option Addr) (c0 : Nat) (l0 : List (List Int)) (r : Bool) (w : World) (hr0 : Kd.C (Kd.slice 3 (Kd.int .i64)) w A0 l0.length l0) (hc0 : l0.length ≤ c0) (h : spec_gmRows.f k l0 = some r) :
  Calls Try.prog 42 #[.slice A0 l0.length c0] w fun e w' => e = .returned (.bool r) ∧ Drawn0 w w' := by
 have HR0 := Aside0.mk hr0
 have HC0 := Aside0.mk hc0
 clear hr0 hc0
 have H : ((spec_l1In.f (l0.length : Int) 1 3).bind fun t108 => (if t108 = true then (if 0 < (l0.length : Int) then ((spec_l1In.f ((rd_L1 l0 0).length : Int) 1 3).bind fun t110 => (spec_gmRows.j0 k l0 (!t110))) else (none)) else (spec_gmRows.j0 k l0 true))) = some r := h
 clear h
 have HC2 := Aside0.mk H
 clear H
 go_enter Try.func42, Try.ntmps42
 go_upto_region 1 with (fail)
 go_cut [16] (fun v16 wc => ∃ (kq : Nat) (x16_1 : Bool), v16 = .bool x16_1 ∧ Aside0 (spec_gmRows.j0 kq l0 x16_1 = some r) ∧ Aside0 (kq ≤ k) ∧ Drawn0 w wc)
 case first =>
  have H := HC2.out
  clear HC2
  replace H := bindA H; obtain ⟨t108, A3, H⟩ := H
  by_cases c4 : t108 = true
  rotate_left
  ·replace c4 := Bool.eq_false_iff.mpr c4
   subst c4
   replace H := ifF H
   have H' := Aside0.mk H
   clear H
   go_wp2_with (first | ((with_reducible refine gC 43 rfl ?_); refine gL 7 Try.func43 #[.int .i64 (l0.length : Int), .int .i64 1, .int .i64 3] ?_; (with_reducible refine (spec_l1In.calls (l0.length : Int) 1 3 false _ A3.out).mono ?_); rintro e w' ⟨rfl, ⟨nd, rfl⟩⟩; refine ⟨_, rfl, ?_⟩))
   go_meet
   case rel => exact ⟨_, (true), eqF, H', ⟨by first | omega | exact Nat.le_refl _⟩, by repeat (first | exact Drawn0.refl _ | apply Drawn0.step)⟩
  subst c4
  replace H := ifT H
  replace H := ifP H; obtain ⟨c5, H⟩ := H
  have c5b0 := decide_eq_true c5
  have c5b1 : decide (0 < l0.length) = true := decide_eq_true (by omega)
  clear c5
  (first | rw [c5b0] | (simp only [i64_w, i32_w]; rw [c5b0]) | skip)
  replace H := bindA H; obtain ⟨t110, A6, H⟩ := H
  have H' := Aside0.mk H
  clear H
  go_wp2_with (first | ((with_reducible refine gC 43 rfl ?_); refine gL 7 Try.func43 #[.int .i64 (l0.length : Int), .int .i64 1, .int .i64 3] ?_; (with_reducible refine (spec_l1In.calls (l0.length : Int) 1 3 true _ A3.out).mono ?_); rintro e w' ⟨rfl, ⟨nd, rfl⟩⟩; refine ⟨_, rfl, ?_⟩; have p109 : 0 ≤ (0 : Int) := (by omega); have q109 : 0 < (l0.length : Int) := odE; obtain ⟨ad109, A109_0, c109_0, e109, hx109_0, hl109_0, hi109_0⟩ := at_L1 HR0.out 0 p109 q109; cases e109; have qi109 : (0 < l0.length) = True := eq_true (by omega); (try rw [show ((0 : Int)).toNat = 0 from rfl] at hx109_0); (try rw [Addr.add_zero'] at hx109_0); have HR109_0 := Aside0.mk hi109_0; have HC109_0 := Aside0.mk hl109_0; clear hi109_0 hl109_0; replace p109 := eq_true p109; replace q109 := eq_true q109) | (go_at_call 43; (with_reducible refine (spec_l1In.calls ((rd_L1 l0 0).length : Int) 1 3 t110 _ A6.out).mono ?_); rintro e w' ⟨rfl, ⟨nd, rfl⟩⟩))
  go_meet
  case rel => exact ⟨_, (!t110), eqF, H', ⟨by first | omega | exact Nat.le_refl _⟩, by repeat (first | exact Drawn0.refl _ | apply Drawn0.step)⟩
 case rest =>
  clear HC2
  obtain ⟨kq, x16_1, rfl, HA, HJ1, ⟨mc1, rfl⟩⟩ := hcut
  cases kq with
  | zero => exact absurd HA.out (by simp [spec_gmRows.j0])
  | succ kj1 =>
   have H := HA.out
   clear HA
   simp only [spec_gmRows.j0] at H
   by_cases c7 : x16_1 = true
   ·subst c7
    replace H := ifT H
    obtain rfl := Option.some.inj H
    go_wp2
    go_ret
    exact ⟨eqD, drE⟩
   replace c7 := Bool.eq_false_iff.mpr c7
   subst c7
   replace H := ifF H
   have H' := Aside0.mk H
   clear H
   go_wp2
   go_loopg [19] kj1 (fun kq v19 w' => ∃ (x19_2 : Int), v19 = .int .i64 x19_2 ∧ Aside0 (spec_gmRows.l0 kq l0 l0 (l0.length : Int) x19_2 = some r) ∧ Aside0 (kq ≤ kj1) ∧ Drawn0 w w')
   case atStart => exact ⟨(0), eqF, H', ⟨Nat.le_refl _⟩, by repeat (first | exact Drawn0.refl _ | apply Drawn0.step)⟩
   case round =>
    clear H'
    obtain ⟨x19_2, rfl, HA, HK2, ⟨m2, rfl⟩⟩ := hrel
    cases gk with
    | zero => exact absurd HA.out (by simp [spec_gmRows.l0])
    | succ k2 =>
     have H := HA.out
     clear HA
     simp only [spec_gmRows.l0] at H
     by_cases c8 : x19_2 < (l0.length : Int)
     rotate_left
     ·rw [if_neg c8] at H
      have c8b0 := decide_eq_false c8
      clear c8
      obtain rfl := Option.some.inj H
      go_wp2
      go_ret
      exact ⟨eqD, drE⟩
     rw [if_pos c8] at H
     have c8b0 := decide_eq_true c8
     clear c8
     replace H := ifD H; obtain ⟨c9b0, H⟩ := H
     replace H := ifD H; obtain ⟨c10b0, H⟩ := H
     replace H := ifP H; obtain ⟨c11, H⟩ := H
     have c11b0 := decide_eq_true c11
     have c11b1 : decide (0 < l0.length) = true := decide_eq_true (by omega)
     clear c11
     by_cases c12 : ((rd_L1 l0 x19_2).length : Int) = ((rd_L1 l0 0).length : Int)
     rotate_left
     ·rw [if_neg c12] at H
      have c12b0 := neb1 c12
      have c12b1 := neb2 c12
      have c12b2 : ((rd_L1 l0 x19_2).length == (rd_L1 l0 0).length) = false := by first | simpa using c12 | (simp at c12 ⊢; omega)
      obtain rfl := Option.some.inj H
      have p111 : 0 ≤ (x19_2 : Int) := odE
      have q111 : x19_2 < (l0.length : Int) := odE
      obtain ⟨ad111, A111_0, c111_0, e111, hx111_0, hl111_0, hi111_0⟩ := at_L1 HR0.out x19_2 p111 q111
      cases e111
      have HR111_0 := Aside0.mk hi111_0
      have HC111_0 := Aside0.mk hl111_0
      clear hi111_0 hl111_0
      replace p111 := eq_true p111
      replace q111 := eq_true q111
      have p112 : 0 ≤ (0 : Int) := (by omega)
      have q112 : 0 < (l0.length : Int) := odE
      obtain ⟨ad112, A112_0, c112_0, e112, hx112_0, hl112_0, hi112_0⟩ := at_L1 HR0.out 0 p112 q112
      obtain rfl : ad111 = ad112 := (by injection e112)
      have qi112 : (0 < l0.length) = True := eq_true (by omega)
      (try rw [show ((0 : Int)).toNat = 0 from rfl] at hx112_0)
      (try rw [Addr.add_zero'] at hx112_0)
      have HR112_0 := Aside0.mk hi112_0
      have HC112_0 := Aside0.mk hl112_0
      clear hi112_0 hl112_0
      replace p112 := eq_true p112
      replace q112 := eq_true q112
      go_wp2
      go_ret
      exact ⟨eqD, drE⟩
     rw [if_pos c12] at H
     have c12b0 := eqb1 c12
     have c12b1 := eqb2 c12
     have c12b2 : ((rd_L1 l0 x19_2).length == (rd_L1 l0 0).length) = true := by first | simpa using c12 | (simp at c12 ⊢; omega)
     clear c12
     replace H := bindA H; obtain ⟨t113, A13, H⟩ := H
     by_cases c14 : t113 = true
     rotate_left
     ·replace c14 := Bool.eq_false_iff.mpr c14
      subst c14
      replace H := ifF H
      obtain rfl := Option.some.inj H
      have p111 : 0 ≤ (x19_2 : Int) := odE
      have q111 : x19_2 < (l0.length : Int) := odE
      obtain ⟨ad111, A111_0, c111_0, e111, hx111_0, hl111_0, hi111_0⟩ := at_L1 HR0.out x19_2 p111 q111
      cases e111
      have HR111_0 := Aside0.mk hi111_0
      have HC111_0 := Aside0.mk hl111_0
      clear hi111_0 hl111_0
      replace p111 := eq_true p111
      replace q111 := eq_true q111
      have p112 : 0 ≤ (0 : Int) := (by omega)
      have q112 : 0 < (l0.length : Int) := odE
      obtain ⟨ad112, A112_0, c112_0, e112, hx112_0, hl112_0, hi112_0⟩ := at_L1 HR0.out 0 p112 q112
      obtain rfl : ad111 = ad112 := (by injection e112)
      have qi112 : (0 < l0.length) = True := eq_true (by omega)
      (try rw [show ((0 : Int)).toNat = 0 from rfl] at hx112_0)
      (try rw [Addr.add_zero'] at hx112_0)
      have HR112_0 := Aside0.mk hi112_0
      have HC112_0 := Aside0.mk hl112_0
      clear hi112_0 hl112_0
      replace p112 := eq_true p112
      replace q112 := eq_true q112
      go_wp2_with (first | (go_at_call 73; (with_reducible refine (spec_l1All.calls k2 _ _ (rd_L1 l0 x19_2) (-9) 9 false _ ?side1 ?side2 A13.out).mono ?_); (case side1 => exact mvC HR111_0.out); (case side2 => exact HC111_0.out); rintro e w' ⟨rfl, ⟨nd, rfl⟩⟩))
      go_ret
      exact ⟨eqD, drE⟩
     subst c14
     replace H := ifT H
     have H' := Aside0.mk H
     clear H
     have p111 : 0 ≤ (x19_2 : Int) := odE
     have q111 : x19_2 < (l0.length : Int) := odE
     obtain ⟨ad111, A111_0, c111_0, e111, hx111_0, hl111_0, hi111_0⟩ := at_L1 HR0.out x19_2 p111 q111
     cases e111
     have HR111_0 := Aside0.mk hi111_0
     have HC111_0 := Aside0.mk hl111_0
     clear hi111_0 hl111_0
     replace p111 := eq_true p111
     replace q111 := eq_true q111
     have p112 : 0 ≤ (0 : Int) := (by omega)
     have q112 : 0 < (l0.length : Int) := odE
     obtain ⟨ad112, A112_0, c112_0, e112, hx112_0, hl112_0, hi112_0⟩ := at_L1 HR0.out 0 p112 q112
     obtain rfl : ad111 = ad112 := (by injection e112)
     have qi112 : (0 < l0.length) = True := eq_true (by omega)
     (try rw [show ((0 : Int)).toNat = 0 from rfl] at hx112_0)
     (try rw [Addr.add_zero'] at hx112_0)
     have HR112_0 := Aside0.mk hi112_0
     have HC112_0 := Aside0.mk hl112_0
     clear hi112_0 hl112_0
     replace p112 := eq_true p112
     replace q112 := eq_true q112
     go_wp2_with (first | (go_at_call 73; (with_reducible refine (spec_l1All.calls k2 _ _ (rd_L1 l0 x19_2) (-9) 9 true _ ?side1 ?side2 A13.out).mono ?_); (case side1 => exact mvC HR111_0.out); (case side2 => exact HC111_0.out); rintro e w' ⟨rfl, ⟨nd, rfl⟩⟩))
     go_roundg k2
     case measure => have := HJ1.out; have := HK2.out; omega
     case rel => exact ⟨(wrap64 (x19_2 + 1)), eqF, H', ⟨by have := HJ1.out; have := HK2.out; omega⟩, by repeat (first | exact Drawn0.refl _ | apply Drawn0.step)⟩
def spec_gmGood.f (k : Nat) (l0_0 : List (List Int)) (l0_1 : List (List Int)) : Option (Bool) := (spec_gmRows.f k l0_0).bind fun t115 => (if t115 = true then ((spec_gmRows.f k l0_1).bind fun t116 => (if t116 = true then (if (l0_0.length : Int) = (l0_1.length : Int) then (if 0 < (l0_0.length : Int) then (if 0 < (l0_1.length : Int) then (some (((rd_L1 l0_0 0).length : Int) == ((rd_L1 l0_1 0).length : Int))) else (none)) else (none)) else (some false)) else (some false))) else (some false))
theorem spec_gmGood.mono : ∀ a0 a1 k, LeO (spec_gmGood.f k a0 a1) (spec_gmGood.f (k + 1) a0 a1) := by
 intro a0 a1 k
 unfold spec_gmGood.f
 repeat' first
   | (with_reducible exact spec_gmRows.mono ..)
   | (with_reducible exact LeO.refl _)
   | (with_reducible exact LeO.none _)
   | (with_reducible refine LeO.ite ?_ ?_)
   | (with_reducible refine LeO.bind ?_ (fun _ => ?_))
def spec_gmGood.T1 : Bool × List (List Nat × List Nat) := (true, [([], []), ([0], [0]), ([1], [1]), ([2, 2], [2]), ([3], [3]), ([4, 3], [3, 4]), ([5, 3, 3], [3, 5]), ([3, 6], [3, 6]), ([7, 6], [7]), ([8], [8]), ([9, 8], [8, 9]), ([10, 8], [8, 10]), ([8], [8]), ([12, 8], [8, 12]), ([13, 8], [8, 13]), ([11, 14, 8], [8, 11, 14]), ([8, 15], [8, 15]), ([16, 8], [16]), ([17], [17]), ([18, 17], [17, 18]), ([19, 17], [17, 19]), ([20, 17], [17, 20]), ([21, 17], [17, 21]), ([17], [17]), ([23, 17], [17, 23]), ([24, 17], [17, 24]), ([25, 17], [17, 25]), ([26, 17], [17, 26]), ([22, 27, 17], [17, 22, 27]), ([17, 28], [17, 28]), ([29, 17, 0, 1, 2, 3, 4, 5, 6, 7, 8, 9, 10, 11, 12, 13, 14, 15, 16, 17, 18, 19, 20, 21, 22, 23, 24, 25, 26, 27, 28, 29], [29])])
def spec_gmGood.B1 : List Nat := [0, 1, 3, 7, 15, 31, 63, 127, 255, 511, 1023, 2047, 511, 4607, 12799, 32767, 65535, 131071, 262143, 524287, 1048575, 2097151, 4194303, 262143, 8650751, 25427967, 58982399, 126091263, 268435455, 536870911, 1073741823]
theorem spec_gmGood.tab1 : rtab .any (opsOf Try.f24 1) = spec_gmGood.T1 := by kernel_rfl
theorem spec_gmGood.bits1 : waitsOk spec_gmGood.T1.2 spec_gmGood.B1 = true := by kernel_rfl
set_option maxHeartbeats 8000000 in
set_option maxRecDepth 100000 in
theorem spec_gmGood.calls (k : Nat) (A0_0 : Option Addr) (c0_0 : Nat) (l0_0 : List (List Int)) (A0_1 : Option Addr) (c0_1 : Nat) (l0_1 : List (List Int)) (r : Bool) (w : World) (hr0_0 : Kd.C (Kd.slice 3 (Kd.int .i64)) w A0_0 l0_0.length l0_0) (hc0_0 : l0_0.length ≤ c0_0) (hr0_1 : Kd.C (Kd.slice 3 (Kd.int .i64)) w A0_1 l0_1.length l0_1) (hc0_1 : l0_1.length ≤ c0_1) (h : spec_gmGood.f k l0_0 l0_1 = some r) :
  Calls Try.prog 24 #[.agg #[.slice A0_0 l0_0.length c0_0, .slice A0_1 l0_1.length c0_1]] w fun e w' => e = .returned (.bool r) ∧ Below w.heap.size w w' := by
 have hu28 := Try.underlying28
 have HR0_0 := Aside0.mk hr0_0
 have HC0_0 := Aside0.mk hc0_0
 clear hr0_0 hc0_0
 have HR0_1 := Aside0.mk hr0_1
 have HC0_1 := Aside0.mk hc0_1
 clear hr0_1 hc0_1
 have HB := Aside0.mk (Below.refl w.heap.size w)
 have H : ((spec_gmRows.f k l0_0).bind fun t115 => (if t115 = true then ((spec_gmRows.f k l0_1).bind fun t116 => (if t116 = true then (if (l0_0.length : Int) = (l0_1.length : Int) then (if 0 < (l0_0.length : Int) then (if 0 < (l0_1.length : Int) then (some (((rd_L1 l0_0 0).length : Int) == ((rd_L1 l0_1 0).length : Int))) else (none)) else (none)) else (some false)) else (some false))) else (some false))) = some r := h
 clear h
 replace H := bindA H; obtain ⟨t115, A2, H⟩ := H
 by_cases c3 : t115 = true
 rotate_left
 ·replace c3 := Bool.eq_false_iff.mpr c3
  subst c3
  replace H := ifF H
  obtain rfl := Option.some.inj H
  go_enter Try.func24, Try.ntmps24
  try go_wp2_with (first | ((with_reducible refine gate_dst (N := 1) rfl ?_); (try (refine gate_guard (by rfl) ?_; dsimp only)); refine bE 1 #[.slice A0_0 l0_0.length c0_0, .slice A0_1 l0_1.length c0_1] 28 ?_; intro gb114 hg w15 hbox hb; have BK114 := am (hbox); have GW114 := am ((by rw [hg]; exact (below_size (mb HB.out)) : w.heap.size ≤ gb114)); have GE114 := GW114; replace HB := am (below_step (mb HB.out) hb); clear hb hbox hg))
  replace BK114 := am (blk_drew BK114.out)
  replace HB := am (below_drew1 HB.out)
  refine start_ (n := 31) (S := fun w' => w'.cell? ⟨gb114, 0, none⟩ = some (.slice A0_0 l0_0.length c0_0) ∧ w'.cell? ⟨gb114, 1, none⟩ = some (.slice A0_1 l0_1.length c0_1)) (ds := []) (Array.replicate 31 false) (by kernel_rfl) rfl rfl ⟨(blk_cell BK114.out 0).trans rfl, (blk_cell BK114.out 1).trans rfl⟩ (fun hHeld => ?_); refine with_tabW spec_gmGood.tab1 spec_gmGood.bits1 (fun HT_ HW_ => ?_)
  generalize w15.drew = w16 at BK114 HB hHeld ⊢
  refine pY 0 3 HT_ ?_
  refine tY 1 4 HT_ HW_ hHeld ?_
  refine oY 2 5 HT_ (fun K hK => ?_)
  refine gY Try.func42 #[.slice A0_0 l0_0.length c0_0] ?_
  with_reducible refine (spec_gmRows.calls k _ _ l0_0 false _ ?side1 ?side2 A2.out).mono ?_
  (case side1 => exact mvC (Kd.C_below HR0_0.out HB.out))
  (case side2 => exact HC0_0.out)
  rintro e w' ⟨rfl, ⟨nd, rfl⟩⟩
  refine ⟨_, rfl, ?_⟩
  refine hK.out _ _ ⟨(blk_cell BK114.out 0).trans rfl, (blk_cell BK114.out 1).trans rfl⟩ (fun hHeld => ?_)
  clear hK K
  refine nY 5 ?_
  refine pY 3 6 HT_ ?_
  refine uY 4 7 HT_ ?_; refine uY 5 8 HT_ ?_
  refine uY 6 9 HT_ ?_
  refine pY 7 10 HT_ ?_
  refine pY 8 11 HT_ ?_
  refine uY 9 12 HT_ ?_; refine uY 10 13 HT_ ?_
  refine uY 11 14 HT_ ?_; refine uY 12 15 HT_ ?_
  refine uY 13 16 HT_ ?_; refine uY 14 17 HT_ ?_
  refine uY 15 18 HT_ ?_
  refine pY 16 19 HT_ ?_
  refine pY 17 20 HT_ ?_
  refine uY 18 21 HT_ ?_; refine uY 19 22 HT_ ?_
  refine uY 20 23 HT_ ?_; refine uY 21 24 HT_ ?_
  refine uY 22 25 HT_ ?_; refine uY 23 26 HT_ ?_
  refine uY 24 27 HT_ ?_; refine uY 25 28 HT_ ?_
  refine uY 26 29 HT_ ?_; refine uY 27 30 HT_ ?_
  refine uY 28 31 HT_ ?_
  refine pY 29 32 HT_ ?_
  refine pY 30 2 HT_ ?_
  refine dY HT_ ?_
  try go_wp2
  go_ret
  exact ⟨eqE, mb HB.out⟩
 subst c3
 replace H := ifT H
 replace H := bindA H; obtain ⟨t116, A4, H⟩ := H
 by_cases c5 : t116 = true
 rotate_left
 ·replace c5 := Bool.eq_false_iff.mpr c5
  subst c5
  replace H := ifF H
  obtain rfl := Option.some.inj H
  go_enter Try.func24, Try.ntmps24
  try go_wp2_with (first | ((with_reducible refine gate_dst (N := 1) rfl ?_); (try (refine gate_guard (by rfl) ?_; dsimp only)); refine bE 1 #[.slice A0_0 l0_0.length c0_0, .slice A0_1 l0_1.length c0_1] 28 ?_; intro gb114 hg w13 hbox hb; have BK114 := am (hbox); have GW114 := am ((by rw [hg]; exact (below_size (mb HB.out)) : w.heap.size ≤ gb114)); have GE114 := GW114; replace HB := am (below_step (mb HB.out) hb); clear hb hbox hg))
  replace BK114 := am (blk_drew BK114.out)
  replace HB := am (below_drew1 HB.out)
  refine start_ (n := 31) (S := fun w' => w'.cell? ⟨gb114, 0, none⟩ = some (.slice A0_0 l0_0.length c0_0) ∧ w'.cell? ⟨gb114, 1, none⟩ = some (.slice A0_1 l0_1.length c0_1)) (ds := []) (Array.replicate 31 false) (by kernel_rfl) rfl rfl ⟨(blk_cell BK114.out 0).trans rfl, (blk_cell BK114.out 1).trans rfl⟩ (fun hHeld => ?_); refine with_tabW spec_gmGood.tab1 spec_gmGood.bits1 (fun HT_ HW_ => ?_)
  generalize w13.drew = w14 at BK114 HB hHeld ⊢
  refine pY 0 3 HT_ ?_
  refine tY 1 4 HT_ HW_ hHeld ?_
  refine oY 2 5 HT_ (fun K hK => ?_)
  refine gY Try.func42 #[.slice A0_0 l0_0.length c0_0] ?_
  with_reducible refine (spec_gmRows.calls k _ _ l0_0 true _ ?side1 ?side2 A2.out).mono ?_
  (case side1 => exact mvC (Kd.C_below HR0_0.out HB.out))
  (case side2 => exact HC0_0.out)
  rintro e w' ⟨rfl, ⟨nd, rfl⟩⟩
  refine ⟨_, rfl, ?_⟩
  refine hK.out _ _ ⟨(blk_cell BK114.out 0).trans rfl, (blk_cell BK114.out 1).trans rfl⟩ (fun hHeld => ?_)
  clear hK K
  refine nY 5 ?_
  refine pY 3 6 HT_ ?_
  refine pY 4 7 HT_ ?_
  refine tY 5 8 HT_ HW_ hHeld ?_
  refine oY 6 9 HT_ (fun K hK => ?_)
  refine gY Try.func42 #[.slice A0_1 l0_1.length c0_1] ?_
  with_reducible refine (spec_gmRows.calls k _ _ l0_1 false _ ?side1 ?side2 A4.out).mono ?_
  (case side1 => exact mvC (Kd.C_below HR0_1.out (mb HB.out)))
  (case side2 => exact HC0_1.out)
  rintro e w' ⟨rfl, ⟨nd, rfl⟩⟩
  refine ⟨_, rfl, ?_⟩
  refine hK.out _ _ ⟨(blk_cell BK114.out 0).trans rfl, (blk_cell BK114.out 1).trans rfl⟩ (fun hHeld => ?_)
  clear hK K
  refine nY 9 ?_
  refine pY 7 10 HT_ ?_
  refine pY 8 11 HT_ ?_
  refine uY 9 12 HT_ ?_; refine uY 10 13 HT_ ?_
  refine uY 11 14 HT_ ?_; refine uY 12 15 HT_ ?_
  refine uY 13 16 HT_ ?_; refine uY 14 17 HT_ ?_
  refine uY 15 18 HT_ ?_
  refine pY 16 19 HT_ ?_
  refine pY 17 20 HT_ ?_
  refine uY 18 21 HT_ ?_; refine uY 19 22 HT_ ?_
  refine uY 20 23 HT_ ?_; refine uY 21 24 HT_ ?_
  refine uY 22 25 HT_ ?_; refine uY 23 26 HT_ ?_
  refine uY 24 27 HT_ ?_; refine uY 25 28 HT_ ?_
  refine uY 26 29 HT_ ?_; refine uY 27 30 HT_ ?_
  refine uY 28 31 HT_ ?_
  refine pY 29 32 HT_ ?_
  refine pY 30 2 HT_ ?_
  refine dY HT_ ?_
  try go_wp2
  go_ret
  exact ⟨eqE, mb HB.out⟩
 subst c5
 replace H := ifT H
 by_cases c6 : (l0_0.length : Int) = (l0_1.length : Int)
 rotate_left
 ·rw [if_neg c6] at H
  have c6b0 := neb1 c6
  have c6b1 := neb2 c6
  have c6b2 : (l0_0.length == l0_1.length) = false := by first | simpa using c6 | (simp at c6 ⊢; omega)
  obtain rfl := Option.some.inj H
  go_enter Try.func24, Try.ntmps24
  try go_wp2_with (first | ((with_reducible refine gate_dst (N := 1) rfl ?_); (try (refine gate_guard (by rfl) ?_; dsimp only)); refine bE 1 #[.slice A0_0 l0_0.length c0_0, .slice A0_1 l0_1.length c0_1] 28 ?_; intro gb114 hg w11 hbox hb; have BK114 := am (hbox); have GW114 := am ((by rw [hg]; exact (below_size (mb HB.out)) : w.heap.size ≤ gb114)); have GE114 := GW114; replace HB := am (below_step (mb HB.out) hb); clear hb hbox hg))
  replace BK114 := am (blk_drew BK114.out)
  replace HB := am (below_drew1 HB.out)
  refine start_ (n := 31) (S := fun w' => w'.cell? ⟨gb114, 0, none⟩ = some (.slice A0_0 l0_0.length c0_0) ∧ w'.cell? ⟨gb114, 1, none⟩ = some (.slice A0_1 l0_1.length c0_1)) (ds := []) (Array.replicate 31 false) (by kernel_rfl) rfl rfl ⟨(blk_cell BK114.out 0).trans rfl, (blk_cell BK114.out 1).trans rfl⟩ (fun hHeld => ?_); refine with_tabW spec_gmGood.tab1 spec_gmGood.bits1 (fun HT_ HW_ => ?_)
  generalize w11.drew = w12 at BK114 HB hHeld ⊢
  refine pY 0 3 HT_ ?_
  refine tY 1 4 HT_ HW_ hHeld ?_
  refine oY 2 5 HT_ (fun K hK => ?_)
  refine gY Try.func42 #[.slice A0_0 l0_0.length c0_0] ?_
  with_reducible refine (spec_gmRows.calls k _ _ l0_0 true _ ?side1 ?side2 A2.out).mono ?_
  (case side1 => exact mvC (Kd.C_below HR0_0.out HB.out))
  (case side2 => exact HC0_0.out)
  rintro e w' ⟨rfl, ⟨nd, rfl⟩⟩
  refine ⟨_, rfl, ?_⟩
  refine hK.out _ _ ⟨(blk_cell BK114.out 0).trans rfl, (blk_cell BK114.out 1).trans rfl⟩ (fun hHeld => ?_)
  clear hK K
  refine nY 5 ?_
  refine pY 3 6 HT_ ?_
  refine pY 4 7 HT_ ?_
  refine tY 5 8 HT_ HW_ hHeld ?_
  refine oY 6 9 HT_ (fun K hK => ?_)
  refine gY Try.func42 #[.slice A0_1 l0_1.length c0_1] ?_
  with_reducible refine (spec_gmRows.calls k _ _ l0_1 true _ ?side1 ?side2 A4.out).mono ?_
  (case side1 => exact mvC (Kd.C_below HR0_1.out (mb HB.out)))
  (case side2 => exact HC0_1.out)
  rintro e w' ⟨rfl, ⟨nd, rfl⟩⟩
  refine ⟨_, rfl, ?_⟩
  refine hK.out _ _ ⟨(blk_cell BK114.out 0).trans rfl, (blk_cell BK114.out 1).trans rfl⟩ (fun hHeld => ?_)
  clear hK K
  refine nY 9 ?_
  refine pY 7 10 HT_ ?_
  refine pY 8 11 HT_ ?_
  refine pY 9 12 HT_ ?_
  refine pY 12 15 HT_ ?_
  refine tY 10 13 HT_ HW_ hHeld ?_
  refine pY 11 14 HT_ ?_
  refine tY 13 16 HT_ HW_ hHeld ?_
  refine pY 14 17 HT_ ?_
  refine pY 15 18 HT_ ?_
  refine pY 16 19 HT_ ?_
  refine pY 17 20 HT_ ?_
  refine uY 18 21 HT_ ?_; refine uY 19 22 HT_ ?_
  refine uY 20 23 HT_ ?_; refine uY 21 24 HT_ ?_
  refine uY 22 25 HT_ ?_; refine uY 23 26 HT_ ?_
  refine uY 24 27 HT_ ?_; refine uY 25 28 HT_ ?_
  refine uY 26 29 HT_ ?_; refine uY 27 30 HT_ ?_
  refine uY 28 31 HT_ ?_
  refine pY 29 32 HT_ ?_
  refine pY 30 2 HT_ ?_
  refine dY HT_ ?_
  try go_wp2
  go_ret
  exact ⟨eqE, mb HB.out⟩
 rw [if_pos c6] at H
 have c6b0 := eqb1 c6
 have c6b1 := eqb2 c6
 have c6b2 : (l0_0.length == l0_1.length) = true := by first | simpa using c6 | (simp at c6 ⊢; omega)
 clear c6
 replace H := ifP H; obtain ⟨c7, H⟩ := H
 have c7b0 := decide_eq_true c7
 have c7b1 : decide (0 < l0_0.length) = true := decide_eq_true (by omega)
 clear c7
 replace H := ifP H; obtain ⟨c8, H⟩ := H
 have c8b0 := decide_eq_true c8
 have c8b1 : decide (0 < l0_1.length) = true := decide_eq_true (by omega)
 clear c8
 obtain rfl := Option.some.inj H
 go_enter Try.func24, Try.ntmps24
 try go_wp2_with (first | ((with_reducible refine gate_dst (N := 1) rfl ?_); (try (refine gate_guard (by rfl) ?_; dsimp only)); refine bE 1 #[.slice A0_0 l0_0.length c0_0, .slice A0_1 l0_1.length c0_1] 28 ?_; intro gb114 hg w9 hbox hb; have BK114 := am (hbox); have GW114 := am ((by rw [hg]; exact (below_size (mb HB.out)) : w.heap.size ≤ gb114)); have GE114 := GW114; replace HB := am (below_step (mb HB.out) hb); clear hb hbox hg))
 replace BK114 := am (blk_drew BK114.out)
 replace HB := am (below_drew1 HB.out)
 have p117 : 0 ≤ (0 : Int) := (by omega)
 have q117 : 0 < (l0_0.length : Int) := odE
 obtain ⟨ad117, A117_0, c117_0, e117, hx117_0, hl117_0, hi117_0⟩ := at_L1 HR0_0.out 0 p117 q117
 have hw117_0 := hx117_0
 (try rw [show ((0 : Int)).toNat = 0 from rfl] at hw117_0)
 (try rw [show 0 * 1 = 0 from rfl] at hw117_0)
 (try rw [Addr.add_zero'] at hw117_0)
 cases e117
 have qi117 : (0 < l0_0.length) = True := eq_true (by omega)
 (try rw [show ((0 : Int)).toNat = 0 from rfl] at hx117_0)
 (try rw [Addr.add_zero'] at hx117_0)
 replace hx117_0 := (HB.out.cell (World.block_lt_of_cell? w _ hx117_0)).trans hx117_0
 have HR117_0 := Aside0.mk hi117_0
 have HC117_0 := Aside0.mk hl117_0
 clear hi117_0 hl117_0
 replace p117 := eq_true p117
 replace q117 := eq_true q117
 have p118 : 0 ≤ (0 : Int) := (by omega)
 have q118 : 0 < (l0_1.length : Int) := odE
 obtain ⟨ad118, A118_0, c118_0, e118, hx118_0, hl118_0, hi118_0⟩ := at_L1 HR0_1.out 0 p118 q118
 have hw118_0 := hx118_0
 (try rw [show ((0 : Int)).toNat = 0 from rfl] at hw118_0)
 (try rw [show 0 * 1 = 0 from rfl] at hw118_0)
 (try rw [Addr.add_zero'] at hw118_0)
 cases e118
 have qi118 : (0 < l0_1.length) = True := eq_true (by omega)
 (try rw [show ((0 : Int)).toNat = 0 from rfl] at hx118_0)
 (try rw [Addr.add_zero'] at hx118_0)
 replace hx118_0 := (HB.out.cell (World.block_lt_of_cell? w _ hx118_0)).trans hx118_0
 have HR118_0 := Aside0.mk hi118_0
 have HC118_0 := Aside0.mk hl118_0
 clear hi118_0 hl118_0
 replace p118 := eq_true p118
 replace q118 := eq_true q118
 refine start_ (n := 31) (S := fun w' => w'.cell? ⟨gb114, 0, none⟩ = some (.slice (some ad117) l0_0.length c0_0) ∧ w'.cell? ⟨gb114, 1, none⟩ = some (.slice (some ad118) l0_1.length c0_1) ∧ w'.cell? ad117 = some (.slice A117_0 (rd_L1 l0_0 0).length c117_0) ∧ w'.cell? ad118 = some (.slice A118_0 (rd_L1 l0_1 0).length c118_0)) (ds := []) (Array.replicate 31 false) (by kernel_rfl) rfl rfl ⟨(blk_cell BK114.out 0).trans rfl, (blk_cell BK114.out 1).trans rfl, ((HB.out.cell (World.block_lt_of_cell? w _ hw117_0)).trans hw117_0), ((HB.out.cell (World.block_lt_of_cell? w _ hw118_0)).trans hw118_0)⟩ (fun hHeld => ?_); refine with_tabW spec_gmGood.tab1 spec_gmGood.bits1 (fun HT_ HW_ => ?_)
 generalize w9.drew = w10 at BK114 HB HR117_0 HR118_0 hx117_0 hx118_0 hHeld ⊢
 refine pY 0 3 HT_ ?_
 refine tY 1 4 HT_ HW_ hHeld ?_
 refine oY 2 5 HT_ (fun K hK => ?_)
 refine gY Try.func42 #[.slice (some ad117) l0_0.length c0_0] ?_
 with_reducible refine (spec_gmRows.calls k _ _ l0_0 true _ ?side1 ?side2 A2.out).mono ?_
 (case side1 => exact mvC (Kd.C_below HR0_0.out HB.out))
 (case side2 => exact HC0_0.out)
 rintro e w' ⟨rfl, ⟨nd, rfl⟩⟩
 refine ⟨_, rfl, ?_⟩
 refine hK.out _ _ ⟨(blk_cell BK114.out 0).trans rfl, (blk_cell BK114.out 1).trans rfl, ((HB.out.cell (World.block_lt_of_cell? w _ hw117_0)).trans hw117_0), ((HB.out.cell (World.block_lt_of_cell? w _ hw118_0)).trans hw118_0)⟩ (fun hHeld => ?_)
 clear hK K
 refine nY 5 ?_
 refine pY 3 6 HT_ ?_
 refine pY 4 7 HT_ ?_
 refine tY 5 8 HT_ HW_ hHeld ?_
 refine oY 6 9 HT_ (fun K hK => ?_)
 refine gY Try.func42 #[.slice (some ad118) l0_1.length c0_1] ?_
 with_reducible refine (spec_gmRows.calls k _ _ l0_1 true _ ?side1 ?side2 A4.out).mono ?_
 (case side1 => exact mvC (Kd.C_below HR0_1.out (mb HB.out)))
 (case side2 => exact HC0_1.out)
 rintro e w' ⟨rfl, ⟨nd, rfl⟩⟩
 refine ⟨_, rfl, ?_⟩
 refine hK.out _ _ ⟨(blk_cell BK114.out 0).trans rfl, (blk_cell BK114.out 1).trans rfl, ((HB.out.cell (World.block_lt_of_cell? w _ hw117_0)).trans hw117_0), ((HB.out.cell (World.block_lt_of_cell? w _ hw118_0)).trans hw118_0)⟩ (fun hHeld => ?_)
 clear hK K
 refine nY 9 ?_
 refine pY 7 10 HT_ ?_
 refine pY 8 11 HT_ ?_
 refine pY 9 12 HT_ ?_
 refine pY 12 15 HT_ ?_
 refine tY 10 13 HT_ HW_ hHeld ?_
 refine pY 11 14 HT_ ?_
 refine tY 13 16 HT_ HW_ hHeld ?_
 refine pY 14 17 HT_ ?_
 refine pY 15 18 HT_ ?_
 refine pY 16 19 HT_ ?_
 refine pY 17 20 HT_ ?_
 refine pY 18 21 HT_ ?_
 refine pY 23 26 HT_ ?_
 refine tY 19 22 HT_ HW_ hHeld ?_
 refine pY 20 23 HT_ ?_
 refine tY 21 24 HT_ HW_ hHeld ?_
 refine pY 22 25 HT_ ?_
 refine tY 24 27 HT_ HW_ hHeld ?_
 refine pY 25 28 HT_ ?_
 refine tY 26 29 HT_ HW_ hHeld ?_
 refine pY 27 30 HT_ ?_
 refine pY 28 31 HT_ ?_
 refine pY 29 32 HT_ ?_
 refine pY 30 2 HT_ ?_
 refine dY HT_ ?_
 try go_wp2
 go_ret
 exact ⟨eqE, mb HB.out⟩
end Go.Proofs.Ytggiicplcglalaa.All
end
section
namespace Go.Proofs.Ytggiicplcglalaa.All
open Go.RowKit Go.Proofs.YtggiicplcglalaaW.PrintWords Go.Proofs.YtggiicplcglalaaW.PrintLast Go.Proofs.YtggiicplcglalaaW.PrintMore
attribute [local go_sem] max2_int min2_int max_two min_two max_three min_three max_four min_four
set_option linter.unusedVariables false
set_option linter.unusedSimpArgs false
set_option maxHeartbeats 8000000
set_option maxRecDepth 100000
def spec_gmPlayer.f (a0 : Int) : Option (Bool) := (spec_l1In.f a0 1 2).bind fun t119 => (some t119)
theorem spec_gmPlayer.calls (a0 : Int) (r : Bool) (w : World) (h : spec_gmPlayer.f a0 = some r) :
  Calls Try.prog 25 #[.int .i64 a0] w fun e w' => e = .returned (.bool r) ∧ Drawn0 w w' := by
 have H : ((spec_l1In.f a0 1 2).bind fun t119 => (some t119)) = some r := h
 clear h
 replace H := bindA H; obtain ⟨t119, A2, H⟩ := H
 obtain rfl := Option.some.inj H
 go_enter Try.func25, Try.ntmps25
 go_wp2_with (first | ((with_reducible refine gC 43 rfl ?_); refine gL 4 Try.func43 #[.int .i64 a0, .int .i64 1, .int .i64 2] ?_; (with_reducible refine (spec_l1In.calls a0 1 2 t119 _ A2.out).mono ?_); rintro e w' ⟨rfl, ⟨nd, rfl⟩⟩; refine ⟨_, rfl, ?_⟩))
 go_ret
 exact ⟨eqD, drE⟩
def spec_gmPure.f (a0 : Int) (a1 : Int) : Option (List Int) := if 0 ≤ a0 then (if (a0 : Int).toNat ≤ 35184372088832 then ((some (List.replicate (a0 : Int).toNat 0 : List Int)).bind fun y120 => (if 0 ≤ a1 then (if a1 < (y120.length : Int) then (some (y120.set (a1 : Int).toNat 1)) else (none)) else (none))) else (none)) else (none)
theorem spec_gmPure.calls (a0 : Int) (a1 : Int) (r : List Int) (w : World) (h : spec_gmPure.f a0 a1 = some r) :
  Calls Try.prog 44 #[.int .i64 a0, .int .i64 a1] w fun e w' => ∃ v0_ : Value, e = .returned (v0_) ∧ Kd.R (Kd.int .i64) 3 w' w.heap.size (fun _ => True) v0_ r ∧ Below w.heap.size w w' := by
 have HB := Aside0.mk (Below.refl w.heap.size w)
 have H : (if 0 ≤ a0 then (if (a0 : Int).toNat ≤ 35184372088832 then ((some (List.replicate (a0 : Int).toNat 0 : List Int)).bind fun y120 => (if 0 ≤ a1 then (if a1 < (y120.length : Int) then (some (y120.set (a1 : Int).toNat 1)) else (none)) else (none))) else (none)) else (none)) = some r := h
 clear h
 by_cases c3 : 0 ≤ a0
 rotate_left
 ·rw [if_neg c3] at H
  exact absurd H (by simp)
 rw [if_pos c3] at H
 have c3b0 := eq_true c3
 have c3b1 := decide_eq_true c3
 clear c3
 replace H := ifP H; obtain ⟨c4, H⟩ := H
 have c4b0 := eq_true c4
 have c4b1 := decide_eq_true c4
 clear c4
 replace H := nameA (List.replicate (a0 : Int).toNat 0) (fun y120 => (if 0 ≤ a1 then (if a1 < (y120.length : Int) then (some (y120.set (a1 : Int).toNat 1)) else (none)) else (none)) = some r) H; obtain ⟨y120, Ny120, H⟩ := H
 replace H := ifD H; obtain ⟨c5b0, H⟩ := H
 replace H := ifD H; obtain ⟨c6b0, H⟩ := H
 replace H := nameA (y120.set (a1 : Int).toNat 1) (fun y123 => (some y123) = some r) H; obtain ⟨y123, Ny123, H⟩ := H
 obtain rfl := Option.some.inj H
 go_enter Try.func44, Try.ntmps44
 go_wp2_with (first | ((with_reducible refine gate_dst (N := 7) rfl ?_); refine Kd.R_make (Kd.int .i64) _ 3 rfl (N := 7) rfl 38 _ _ rfl a0 rfl rfl Try.underlying38 (.int .i64 0) 8 info3 rfl (by decide) (by omega) 0 (ok := fun _ => True) (okp := fun _ => True) rfl (fun _ hk => hk) trivial (odE) (Nat.le_trans (Nat.mul_le_mul_right _ (odE : a0.toNat ≤ 35184372088832)) (by omega)) (Below.refl _ _) (Nat.le_refl _) ?_; intro v121 w8 ho9 hb hg_ hnew_; clear hg_ hnew_; (first | rw [← Ny120.out] at ho9 | (simp only [Int.reduceToNat] at ho9; rw [← Ny120.out] at ho9)); have HO122 := am (Kd.R_lower ho9 (below_size (mb HB.out))); replace HB := am (below_step (mb HB.out) hb); clear hb ho9; have p7 : 0 ≤ (a1 : Int) := odE; have q7 : (a1 : Int) < ((y120.length : Int) : Int) := odE; obtain ⟨go7, co7, eo7, gb7, gl7, cl7, HG7⟩ := Kd.R_form HO122.out (by omega); (first | cases eo7 | (injection eo7 with ea_ en_ ec_; (first | subst ea_ | (injection ea_ with ea_; subst ea_)); subst ec_; clear en_)); have GB7 := Aside0.mk gb7; have GG7 := Aside0.mk HG7; clear gb7 gl7 HG7; obtain ⟨hx7_0, hf7_0⟩ := Kd.R_celln 0 HO122.out (a1 : Int) p7 q7; replace p7 := eq_true p7; replace q7 := eq_true q7; obtain ⟨hy10_, hz10_⟩ := Kd.R_celln 0 HO122.out (a1 : Int) (odE) (odE); have HP10 := Kd.R_putg HO122.out (a1 : Int) 1) | ((with_reducible refine gate_store (t := 3) (p := 10) rfl ?_); refine store_event (t := 3) (p := 10) (v := ?vo_w11) (w1 := (w8.setCell ⟨go7, (a1 : Int).toNat, none⟩ (.int .i64 1))) ?hg ?ho ?hn ?hr ?_; (case ho => rfl); (case hg => rfl); (case hn => rfl); (case hr => first | (go_simp; done) | (go_simp; rfl)); intro w11 hw; have hg : w8.grownBy w11 (some go7) := (by rw [hw]; exact HP10.2); have hp_ : Kd.R (Kd.int .i64) 3 w11 w.heap.size (fun _ => True) (.slice (some ⟨go7, 0, none⟩) y120.length co7) y123 := (by rw [hw, Ny123.out]; exact HP10.1); clear HP10; replace HO122 := am (hp_); replace HB := am ((by rw [hw]; exact below_set (HB.out) GB7.out : Below w.heap.size w w11)); clear hg hw hp_))
 go_ret
 exact ⟨_, eqE, mvR HO122.out, mb HB.out⟩
def spec_l1Own.f (l0 : List Int) : Option (List Int) := (some (([] : List Int) : List Int)).bind fun y124 => (if y124.length + l0.length < 17592186044416 then (some (y124 ++ l0)) else (none))
theorem spec_l1Own.calls (A0 : Option Addr) (c0 : Nat) (l0 : List Int) (r : List Int) (w : World) (hr0 : Kd.C (Kd.int .i64) w A0 l0.length l0) (hc0 : l0.length ≤ c0) (h : spec_l1Own.f l0 = some r) :
  Calls Try.prog 47 #[.slice A0 l0.length c0] w fun e w' => ∃ v0_ : Value, e = .returned (v0_) ∧ Kd.R (Kd.int .i64) 3 w' w.heap.size (fun _ => True) v0_ r ∧ Below w.heap.size w w' := by
 have HR0 := Aside0.mk hr0
 have HC0 := Aside0.mk hc0
 clear hr0 hc0
 have HB := Aside0.mk (Below.refl w.heap.size w)
 have H : ((some (([] : List Int) : List Int)).bind fun y124 => (if y124.length + l0.length < 17592186044416 then (some (y124 ++ l0)) else (none))) = some r := h
 clear h
 replace H := nameA (([] : List Int)) (fun y124 => (if y124.length + l0.length < 17592186044416 then (some (y124 ++ l0)) else (none)) = some r) H; obtain ⟨y124, Ny124, H⟩ := H
 by_cases c2 : y124.length + l0.length < 17592186044416
 rotate_left
 ·rw [if_neg c2] at H
  exact absurd H (by simp)
 rw [if_pos c2] at H
 have LMc2 := Aside0.mk c2
 clear c2
 replace H := nameA (y124 ++ l0) (fun y127 => (some y127) = some r) H; obtain ⟨y127, Ny127, H⟩ := H
 obtain rfl := Option.some.inj H
 go_enter Try.func47, Try.ntmps47
 go_wp2_with (first | ((with_reducible refine gate_dst (N := 3) rfl ?_); refine Kd.R_lit (Kd.int .i64) _ 3 ?hg (N := 3) ?hd (xs := ([] : List Int)) (inner := []) (ok := fun _ => True) (okp := fun _ => True) ?hr ?hp (fun _ hk => hk) trivial (Below.refl _ _) (Nat.le_refl _) (by simp) ?_; (case hd => rfl); (case hg => rfl); (case hr => first | (go_simp; done) | (go_simp; rfl)); (case hp => exact (Reps.none _ _)); intro v125 w3 ho4 hb hg_ hnew_; clear hg_ hnew_; (first | rw [← Ny124.out] at ho4 | (simp only [Int.reduceToNat] at ho4; rw [← Ny124.out] at ho4)); have HO126 := am (Kd.R_lower ho4 (below_size (mb HB.out))); replace HB := am (below_step (mb HB.out) hb); clear hb ho4) | ((with_reducible refine gate_builtin (b := .append) (xs := #[.tmp 3, .tmp 4]) rfl ?_); at_builtin; refine Kd.R_append_rows (Kd.int .i64) (w0 := w) w.heap.size rfl (.tmp 3) (.tmp 4) 38 3 (.int .i64 0) 8 rfl Try.underlying38 info3 rfl (by decide) (by omega) v125 y124 l0 _ _ _ (fun _ => True) (fun _ => False) rfl rfl ?aO ?aR (fun _ _ h => h) (fun _ h => h.elim) ?aF ?aB ?aS ?aL ?_; (case aR => repeat (first | exact (Kd.C_below HR0.out HB.out) | (with_reducible refine Kd.C_alloc ?_ _) | (with_reducible refine Kd.C_drewN ?_ _) | (with_reducible refine Kd.C_drew ?_))); (case aB => exact (mb HB.out)); (case aF => exact (fun _ _ => trivial)); (case aO => exact (mvR HO126.out)); (case aS => exact (below_size (mb HB.out))); (case aL => have := LMc2.out; omega); intro v128 w5 ho hb hg hat; rw [← Ny127.out] at ho; replace HB := am (hb); have HO129 := am (ho); clear HO126; clear ho hb hg hat))
 go_ret
 exact ⟨_, eqE, mvR HO129.out, mb HB.out⟩
end Go.Proofs.Ytggiicplcglalaa.All
end
