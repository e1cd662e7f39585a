/- Part of the proof that the law FnExactCornersOf answers true for all arguments. -/
import Derived.Test.YtggiicplcglalaaQC5
namespace Go.Proofs.Ytggiicplcglalaa.All
open Go.RowKit Go.Proofs.YtggiicplcglalaaW.PrintWords Go.Proofs.YtggiicplcglalaaW.PrintLast Go.Proofs.YtggiicplcglalaaW.PrintMore
attribute [local go_sem] max2_int min2_int max_two min_two max_three min_three max_four min_four
set_option linter.unusedVariables false
set_option linter.unusedSimpArgs false
set_option maxHeartbeats 8000000
set_option maxRecDepth 100000
def slices_Equal_int_int.l0 : Nat → List Int → List Int → Int → Int → Option (Bool)
 | 0, _, _, _, _ => none
 | k + 1, x0, x1, x12, x13 => if x13 < x12 then (if 0 ≤ x13 then (if x13 < (x0.length : Int) then (if x13 < (x1.length : Int) then (if (rd x0 x13) = (rd x1 x13) then (slices_Equal_int_int.l0 k x0 x1 x12 (wrap64 (x13 + 1))) else (some false)) else (none)) else (none)) else (none)) else (some true)
def slices_Equal_int_int.f (k : Nat) (l0 : List Int) (l1 : List Int) : Option (Bool) := if (l0.length : Int) = (l1.length : Int) then (slices_Equal_int_int.l0 k l0 l1 (l0.length : Int) 0) else (some false)
theorem slices_Equal_int_int.mono_l : ∀ k, (∀ y0 y1 y2 y3, LeO (slices_Equal_int_int.l0 k y0 y1 y2 y3) (slices_Equal_int_int.l0 (k + 1) y0 y1 y2 y3))
 | 0 => fun _ _ _ _ r h => by simp [slices_Equal_int_int.l0] at h
 | k + 1 => by
  have ih0 := slices_Equal_int_int.mono_l k
  ·intro y0 y1 y2 y3
   unfold slices_Equal_int_int.l0
   repeat' first
   | (with_reducible exact ih0 ..)
   | (with_reducible exact LeO.refl _)
   | (with_reducible exact LeO.none _)
   | (with_reducible refine LeO.ite ?_ ?_)
   | (with_reducible refine LeO.bind ?_ (fun _ => ?_))
theorem slices_Equal_int_int.mono : ∀ a0 a1 k, LeO (slices_Equal_int_int.f k a0 a1) (slices_Equal_int_int.f (k + 1) a0 a1) := by
 intro a0 a1 k
 have ih0 := slices_Equal_int_int.mono_l k
 unfold slices_Equal_int_int.f
 repeat' first
   | (with_reducible exact ih0 ..)
   | (with_reducible exact LeO.refl _)
   | (with_reducible exact LeO.none _)
   | (with_reducible refine LeO.ite ?_ ?_)
   | (with_reducible refine LeO.bind ?_ (fun _ => ?_))
theorem slices_Equal_int_int.calls (k : Nat) (A0 : Option Addr) (c0 : Nat) (l0 : List Int) (A1 : Option Addr) (c1 : Nat) (l1 : List Int) (r : Bool) (w : World) (hr0 : Kd.C (Kd.int .i64) w A0 l0.length l0) (hc0 : l0.length ≤ c0) (hr1 : Kd.C (Kd.int .i64) w A1 l1.length l1) (hc1 : l1.length ≤ c1) (h : slices_Equal_int_int.f k l0 l1 = some r) :
  Calls Try.prog 39 #[.slice A0 l0.length c0, .slice A1 l1.length c1] w fun e w' => e = .returned (.bool r) ∧ Drawn0 w w' := by
 have HR0 := Aside0.mk hr0
 have HC0 := Aside0.mk hc0
 clear hr0 hc0
 have HR1 := Aside0.mk hr1
 have HC1 := Aside0.mk hc1
 clear hr1 hc1
 have H : (if (l0.length : Int) = (l1.length : Int) then (slices_Equal_int_int.l0 k l0 l1 (l0.length : Int) 0) else (some false)) = some r := h
 clear h
 by_cases c3 : (l0.length : Int) = (l1.length : Int)
 rotate_left
 ·rw [if_neg c3] at H
  have c3b0 := neb1 c3
  have c3b1 := neb2 c3
  have c3b2 : (l0.length == l1.length) = false := by first | simpa using c3 | (simp at c3 ⊢; omega)
  obtain rfl := Option.some.inj H
  go_enter Try.func39, Try.ntmps39
  go_wp2
  repeat (go_quiet (fail); try go_wp2)
  go_ret
  exact ⟨eqD, drE⟩
 rw [if_pos c3] at H
 have c3b0 := eqb1 c3
 have c3b1 := eqb2 c3
 have c3b2 : (l0.length == l1.length) = true := by first | simpa using c3 | (simp at c3 ⊢; omega)
 clear c3
 have H' := Aside0.mk H
 clear H
 go_enter Try.func39, Try.ntmps39
 go_wp2
 repeat (go_quiet (fail); try go_wp2)
 go_loopg [13] k (fun kq v13 w' => ∃ (x13_1 : Int), v13 = .int .i64 x13_1 ∧ Aside0 (slices_Equal_int_int.l0 kq l0 l1 (l0.length : Int) x13_1 = some r) ∧ Aside0 (kq ≤ k) ∧ Drawn0 w w')
 case atStart => exact ⟨(0), eqF, H', ⟨Nat.le_refl _⟩, by repeat (first | exact Drawn0.refl _ | apply Drawn0.step)⟩
 case round =>
  clear H'
  obtain ⟨x13_1, rfl, HA, HK1, ⟨m1, rfl⟩⟩ := hrel
  cases gk with
  | zero => exact absurd HA.out (by simp [slices_Equal_int_int.l0])
  | succ k1 =>
   have H := HA.out
   clear HA
   simp only [slices_Equal_int_int.l0] at H
   by_cases c4 : x13_1 < (l0.length : Int)
   rotate_left
   ·rw [if_neg c4] at H
    have c4b0 := decide_eq_false c4
    clear c4
    obtain rfl := Option.some.inj H
    go_wp2
    repeat (go_quiet (fail); try go_wp2)
    go_ret
    exact ⟨eqD, drE⟩
   rw [if_pos c4] at H
   have c4b0 := decide_eq_true c4
   clear c4
   replace H := ifD H; obtain ⟨c5b0, H⟩ := H
   replace H := ifD H; obtain ⟨c6b0, H⟩ := H
   replace H := ifD H; obtain ⟨c7b0, H⟩ := H
   by_cases c8 : (rd l0 x13_1) = (rd l1 x13_1)
   rotate_left
   ·rw [if_neg c8] at H
    have c8b0 := neb1 c8
    have c8b1 := neb2 c8
    obtain rfl := Option.some.inj H
    have p417 : 0 ≤ (x13_1 : Int) := odE
    have q417 : x13_1 < (l0.length : Int) := odE
    obtain ⟨ad417, e417, hx417_0⟩ := Kd.at_int HR0.out x13_1 p417 q417
    cases e417
    replace p417 := eq_true p417
    replace q417 := eq_true q417
    have p418 : 0 ≤ (x13_1 : Int) := odE
    have q418 : x13_1 < (l1.length : Int) := odE
    obtain ⟨ad418, e418, hx418_0⟩ := Kd.at_int HR1.out x13_1 p418 q418
    cases e418
    replace p418 := eq_true p418
    replace q418 := eq_true q418
    go_wp2
    repeat (go_quiet (fail); try go_wp2)
    go_ret
    exact ⟨eqD, drE⟩
   rw [if_pos c8] at H
   have c8b0 := eqb1 c8
   have c8b1 := eqb2 c8
   clear c8
   have H' := Aside0.mk H
   clear H
   have p417 : 0 ≤ (x13_1 : Int) := odE
   have q417 : x13_1 < (l0.length : Int) := odE
   obtain ⟨ad417, e417, hx417_0⟩ := Kd.at_int HR0.out x13_1 p417 q417
   cases e417
   replace p417 := eq_true p417
   replace q417 := eq_true q417
   have p418 : 0 ≤ (x13_1 : Int) := odE
   have q418 : x13_1 < (l1.length : Int) := odE
   obtain ⟨ad418, e418, hx418_0⟩ := Kd.at_int HR1.out x13_1 p418 q418
   cases e418
   replace p418 := eq_true p418
   replace q418 := eq_true q418
   go_wp2
   repeat (go_quiet (fail); try go_wp2)
   go_roundg k1
   case measure => have := HK1.out; omega
   case rel => exact ⟨(wrap64 (x13_1 + 1)), eqF, H', ⟨by have := HK1.out; omega⟩, by repeat (first | exact Drawn0.refl _ | apply Drawn0.step)⟩
mutual
def impl_choices.l0 : Nat → Int → Int → List (List Int) → Int → Option ((List (List Int)))
 | 0, _, _, _, _ => none
 | k + 1, x0, x1, x7, x8 => if x8 < x0 then ((impl_choices.f k x0 (wrap64 (x1 - 1)) (wrap64 (x8 + 1))).bind fun t428 => (impl_choices.l1 k x0 x1 x7 x8 t428 (t428.length : Int) 0)) else (some x7)
def impl_choices.l1 : Nat → Int → Int → List (List Int) → Int → List (List Int) → Int → Int → Option ((List (List Int)))
 | 0, _, _, _, _, _, _, _ => none
 | k + 1, x0, x1, x7, x8, x27, x28, x29 => if x29 < x28 then (if 0 ≤ x29 then (if x29 < (x27.length : Int) then ((some (([x8] : List Int) : List Int)).bind fun y432 => (if y432.length + (rd_L1 x27 x29).length < 17592186044416 then (if x7.length < 5864062014805 then (impl_choices.l1 k x0 x1 (x7 ++ [(y432 ++ (rd_L1 x27 x29))]) x8 x27 x28 (wrap64 (x29 + 1))) else (none)) else (none))) else (none)) else (none)) else (impl_choices.l0 k x0 x1 x7 (wrap64 (x8 + 1)))
def impl_choices.f : Nat → Int → Int → Int → Option ((List (List Int)))
 | 0, _, _, _ => none
 | k + 1, a0, a1, a2 => if a1 = 0 then (some (([(([] : List Int))] : List (List Int)))) else (impl_choices.l0 k a0 a1 (([] : List (List Int))) a2)
end
theorem impl_choices.mono_l : ∀ k, (∀ y0 y1 y2, LeO (impl_choices.f k y0 y1 y2) (impl_choices.f (k + 1) y0 y1 y2)) ∧ (∀ y0 y1 y2 y3, LeO (impl_choices.l0 k y0 y1 y2 y3) (impl_choices.l0 (k + 1) y0 y1 y2 y3)) ∧ (∀ y0 y1 y2 y3 y4 y5 y6, LeO (impl_choices.l1 k y0 y1 y2 y3 y4 y5 y6) (impl_choices.l1 (k + 1) y0 y1 y2 y3 y4 y5 y6))
 | 0 => ⟨fun _ _ _ r h => by simp [impl_choices.f] at h, fun _ _ _ _ r h => by simp [impl_choices.l0] at h, fun _ _ _ _ _ _ _ r h => by simp [impl_choices.l1] at h⟩
 | k + 1 => by
  obtain ⟨ih0, ih1, ih2⟩ := impl_choices.mono_l k
  refine ⟨?_, ?_, ?_⟩ <;> intros <;> (first | unfold impl_choices.f | unfold impl_choices.l0 | unfold impl_choices.l1)
  all_goals repeat' first
  | (with_reducible exact ih0 ..)
  | (with_reducible exact ih1 ..)
  | (with_reducible exact ih2 ..)
  | (with_reducible exact LeO.refl _)
  | (with_reducible exact LeO.none _)
  | (with_reducible refine LeO.ite ?_ ?_)
  | (with_reducible refine LeO.bind ?_ (fun _ => ?_))
theorem impl_choices.mono : ∀ a0 a1 a2 k, LeO (impl_choices.f k a0 a1 a2) (impl_choices.f (k + 1) a0 a1 a2) := by
 intro a0 a1 a2 k
 obtain ⟨ih0, ih1, ih2⟩ := impl_choices.mono_l k
 exact ih0 a0 a1 a2
theorem impl_choices.calls (k : Nat) : ∀ (a0 : Int) (a1 : Int) (a2 : Int) (r : List (List Int)) (w : World) (h : impl_choices.f k a0 a1 a2 = some r),
  Calls Try.prog 61 #[.int .i64 a0, .int .i64 a1, .int .i64 a2] w fun e w' => ∃ v0_ : Value, e = .returned (v0_) ∧ Kd.N (Kd.slice 3 (Kd.int .i64)) 38 w' w.heap.size (fun k_ => (w.heap.size ≤ k_)) v0_ r ∧ Below w.heap.size w w' := by
 induction k using Nat.strongRecOn with
 | _ k ih =>
 intro a0 a1 a2 r w h
 cases k with
 | zero => exact absurd h (by simp [impl_choices.f])
 | succ k =>
 simp only [impl_choices.f] at h
 have HB := Aside0.mk (Below.refl w.heap.size w)
 have H : (if a1 = 0 then (some (([(([] : List Int))] : List (List Int)))) else (impl_choices.l0 k a0 a1 (([] : List (List Int))) a2)) = some r := h
 clear h
 by_cases c4 : a1 = 0
 ·rw [if_pos c4] at H
  have c4b0 := eqb1 c4
  have c4b1 := eqb2 c4
  clear c4
  replace H := nameA (([] : List Int)) (fun y419 => (some (([y419] : List (List Int)))) = some r) H; obtain ⟨y419, Ny419, H⟩ := H
  replace H := nameA (([y419] : List (List Int))) (fun y422 => (some y422) = some r) H; obtain ⟨y422, Ny422, H⟩ := H
  obtain rfl := Option.some.inj H
  go_enter Try.func61, Try.ntmps61
  go_wp2_with (first | ((with_reducible refine gate_dst (N := 13) rfl ?_); refine Kd.R_lit (Kd.int .i64) _ 3 ?hg (N := 13) ?hd (xs := ([] : List Int)) (inner := []) (ok := fun _ => True) (okp := fun _ => True) ?hr ?hp (fun _ hk => hk) trivial (Below.refl _ _) (Nat.le_refl _) (by simp) ?_; (case hd => rfl); (case hg => rfl); (case hr => first | (go_simp; done) | (go_simp; rfl)); (case hp => exact (Reps.none _ _)); intro v420 w5 ho6 hb hg_ hnew_; clear hg_ hnew_; (first | rw [← Ny419.out] at ho6 | (simp only [Int.reduceToNat] at ho6; rw [← Ny419.out] at ho6)); have HO421 := am (Kd.R_lower (Kd.R_newM (M := fun k_ => (w.heap.size ≤ k_)) ho6 (below_size (mb HB.out)) (fun k_ h_ => h_)) (below_size (mb HB.out))); replace HB := am (below_step (mb HB.out) hb); clear hb ho6; obtain ⟨Ao7, co7, eo7⟩ := Kd.R_slice HO421.out; subst eo7) | ((with_reducible refine gate_dst (N := 14) rfl ?_); refine Kd.N_lit (Kd.slice 3 (Kd.int .i64)) _ 38 ?hg (N' := 14) ?hd (xs := ([y419] : List (List Int))) (inner := [.slice Ao7 y419.length co7]) (ok := (fun k_ => (w.heap.size ≤ k_))) (okp := (fun k_ => (w.heap.size ≤ k_))) ?hr ?hp (fun _ hk => hk) ((show ∀ k_, w5.heap.size ≤ k_ → (fun k_ => (w.heap.size ≤ k_)) k_ from fun k_ hk => (Nat.le_trans (below_size (mb HB.out)) hk)) _ (Nat.le_refl _)) (Below.refl _ _) (Nat.le_refl _) (by simp) ?_; (case hd => rfl); (case hg => rfl); (case hr => first | (go_simp; done) | (go_simp; rfl)); (case hp => exact (Reps.one (show Kd.FK (Kd.slice 3 (Kd.int .i64)) _ _ y419 [.slice Ao7 y419.length co7] from (FKR (Kd.R_mono (ok' := (fun k_ => (w.heap.size ≤ k_))) (HO421.out) (fun k_ hk => hk.1)))) (Reps.none _ _))); intro v423 w8 ho9 hb hg_ hnew_; clear hg_ hnew_; (first | rw [← Ny422.out] at ho9 | (simp only [Int.reduceToNat] at ho9; rw [← Ny422.out] at ho9)); have HO424 := am (Kd.N_lower ho9 (below_size (mb HB.out))); replace HB := am (below_step (mb HB.out) hb); clear HO421; clear hb ho9))
  go_ret
  exact ⟨_, eqE, mvN HO424.out, mb HB.out⟩
 rw [if_neg c4] at H
 have c4b0 := neb1 c4
 have c4b1 := neb2 c4
 replace H := nameA (([] : List (List Int))) (fun y425 => (impl_choices.l0 k a0 a1 y425 a2) = some r) H; obtain ⟨y425, Ny425, H⟩ := H
 have H' := Aside0.mk H
 clear H
 go_enter Try.func61, Try.ntmps61
 go_wp2_with (first | ((with_reducible refine gate_dst (N := 15) rfl ?_); refine Kd.N_lit (Kd.slice 3 (Kd.int .i64)) _ 38 ?hg (N' := 15) ?hd (xs := ([] : List (List Int))) (inner := []) (ok := (fun k_ => (w.heap.size ≤ k_))) (okp := (fun k_ => (w.heap.size ≤ k_))) ?hr ?hp (fun _ hk => hk) ((show ∀ k_, w.heap.size ≤ k_ → (fun k_ => (w.heap.size ≤ k_)) k_ from fun k_ hk => (Nat.le_trans (below_size (mb HB.out)) hk)) _ (Nat.le_refl _)) (Below.refl _ _) (Nat.le_refl _) (by simp) ?_; (case hd => rfl); (case hg => rfl); (case hr => first | (go_simp; done) | (go_simp; rfl)); (case hp => exact (Reps.none _ _)); intro v426 w10 ho11 hb hg_ hnew_; clear hg_ hnew_; (first | rw [← Ny425.out] at ho11 | (simp only [Int.reduceToNat] at ho11; rw [← Ny425.out] at ho11)); have HO427 := am (Kd.N_lower ho11 (below_size (mb HB.out))); replace HB := am (below_step (mb HB.out) hb); clear hb ho11))
 go_loopg [7, 8] k (fun kq v7 v8 w' => ∃ (x7_1 : List (List Int)) (x8_1 : Int), v8 = .int .i64 x8_1 ∧ Aside0 (impl_choices.l0 kq a0 a1 x7_1 x8_1 = some r) ∧ Aside0 (kq ≤ k) ∧ Aside0 (Kd.N (Kd.slice 3 (Kd.int .i64)) 38 w' w.heap.size (fun k_ => (w.heap.size ≤ k_)) v7 x7_1) ∧ Aside0 (Below w.heap.size w w'))
 case atStart => exact ⟨(y425), (a2), eqF, H', ⟨Nat.le_refl _⟩, ⟨mvN HO427.out⟩, ⟨mb HB.out⟩⟩
 case round =>
  clear H'
  obtain ⟨x7_1, x8_1, rfl, HA, HK1, HO_7, HB⟩ := hrel
  cases gk with
  | zero => exact absurd HA.out (by simp [impl_choices.l0])
  | succ k1 =>
   have H := HA.out
   clear HA
   simp only [impl_choices.l0] at H
   by_cases c12 : x8_1 < a0
   rotate_left
   ·rw [if_neg c12] at H
    have c12b0 := decide_eq_false c12
    clear c12
    obtain rfl := Option.some.inj H
    go_wp2
    go_ret
    exact ⟨_, eqE, mvN HO_7.out, mb HB.out⟩
   rw [if_pos c12] at H
   have c12b0 := decide_eq_true c12
   clear c12
   replace H := bindA H; obtain ⟨t428, A13, H⟩ := H
   have H' := Aside0.mk H
   clear H
   go_wp2_with (first | ((with_reducible refine gC 61 rfl ?_); refine gL 27 Try.func61 #[.int .i64 a0, .int .i64 (wrap64 (a1 - 1)), .int .i64 (wrap64 (x8_1 + 1))] ?_; (with_reducible refine (ih k1 (by have := HK1.out; omega) a0 (wrap64 (a1 - 1)) (wrap64 (x8_1 + 1)) t428 _ A13.out).mono ?_); rintro e w14 ⟨v429, rfl, ho0, hb⟩; refine ⟨_, rfl, ?_⟩; have HO430 := am (Kd.N_lower (Kd.N_mono (ok' := fun k_ => (w.heap.size ≤ k_) ∧ some k_ ≠ (u7 : Value).ownBlock) ho0 (fun k_ hk_ => ⟨(Nat.le_trans (below_size (mb HB.out)) hk_), (Kd.fresh' (Kd.N_lt (mvN HO_7.out)) k_ hk_)⟩)) (below_size (mb HB.out))); replace HO_7 := am (Kd.N_elder' (mvN HO_7.out) (Kd.N_base ho0) hb); replace HB := am (below_step (mb HB.out) hb); (try clear hb ho0); obtain ⟨Ao15, co15, eo15⟩ := Kd.N_slice HO430.out; subst eo15))
   go_loopg [7, 29] k1 (fun kq v7 v29 w' => ∃ (x7_2 : List (List Int)) (x29_2 : Int), v29 = .int .i64 x29_2 ∧ Aside0 (impl_choices.l1 kq a0 a1 x7_2 x8_1 t428 (t428.length : Int) x29_2 = some r) ∧ Aside0 (kq ≤ k1) ∧ Aside0 (Kd.N (Kd.slice 3 (Kd.int .i64)) 38 w' w.heap.size (fun k_ => (w.heap.size ≤ k_) ∧ some k_ ≠ ((.slice Ao15 t428.length co15) : Value).ownBlock) v7 x7_2) ∧ Aside0 (Kd.N (Kd.slice 3 (Kd.int .i64)) 38 w' w.heap.size (fun k_ => (w.heap.size ≤ k_) ∧ some k_ ≠ (v7 : Value).ownBlock) (.slice Ao15 t428.length co15) t428) ∧ Aside0 (Below w.heap.size w w'))
   case atStart => exact ⟨(x7_1), (0), eqF, H', ⟨Nat.le_refl _⟩, ⟨mvN HO_7.out⟩, ⟨mvN HO430.out⟩, ⟨mb HB.out⟩⟩
   case round =>
    clear H'
    obtain ⟨x7_2, x29_2, rfl, HA, HK2, HO_7, HO_27, HB⟩ := hrel
    cases gk with
    | zero => exact absurd HA.out (by simp [impl_choices.l1])
    | succ k2 =>
     have H := HA.out
     clear HA
     simp only [impl_choices.l1] at H
     by_cases c16 : x29_2 < (t428.length : Int)
     rotate_left
     ·rw [if_neg c16] at H
      have c16b0 := decide_eq_false c16
      clear c16
      have H' := Aside0.mk H
      clear H
      go_wp2
      go_roundg k2
      case measure => have := HK1.out; have := HK2.out; omega
      case rel => exact ⟨(x7_2), (wrap64 (x8_1 + 1)), eqF, H', ⟨by have := HK1.out; have := HK2.out; omega⟩, ⟨Kd.N_mono (mvN HO_7.out) (fun _ hk => hk.1)⟩, ⟨mb HB.out⟩⟩
     rw [if_pos c16] at H
     have c16b0 := decide_eq_true c16
     clear c16
     replace H := ifD H; obtain ⟨c17b0, H⟩ := H
     replace H := ifD H; obtain ⟨c18b0, H⟩ := H
     replace H := nameA (([x8_1] : List Int)) (fun y432 => (if y432.length + (rd_L1 t428 x29_2).length < 17592186044416 then (if x7_2.length < 5864062014805 then (impl_choices.l1 k2 a0 a1 (x7_2 ++ [(y432 ++ (rd_L1 t428 x29_2))]) x8_1 t428 (t428.length : Int) (wrap64 (x29_2 + 1))) else (none)) else (none)) = some r) H; obtain ⟨y432, Ny432, H⟩ := H
     replace H := ifA H; obtain ⟨LMc19, H⟩ := H
     replace H := nameA (y432 ++ (rd_L1 t428 x29_2)) (fun y435 => (if x7_2.length < 5864062014805 then (impl_choices.l1 k2 a0 a1 (x7_2 ++ [y435]) x8_1 t428 (t428.length : Int) (wrap64 (x29_2 + 1))) else (none)) = some r) H; obtain ⟨y435, Ny435, H⟩ := H
     replace H := ifA H; obtain ⟨LMc20, H⟩ := H
     replace H := nameA (x7_2 ++ [y435]) (fun y438 => (impl_choices.l1 k2 a0 a1 y438 x8_1 t428 (t428.length : Int) (wrap64 (x29_2 + 1))) = some r) H; obtain ⟨y438, Ny438, H⟩ := H
     have H' := Aside0.mk H
     clear H
     have p431 : 0 ≤ (x29_2 : Int) := odE
     have q431 : x29_2 < (t428.length : Int) := odE
     obtain ⟨ad431, A431_0, c431_0, e431, hx431_0, hl431_0, hi431_0⟩ := at_L1 (Kd.N_reads' HO_27.out).2.2 x29_2 p431 q431
     cases e431
     obtain ⟨ce431, hce431, hMe431, hcc431⟩ := Kd.N_get HO_27.out [] x29_2 p431 (by first | exact q431 | exact odE | (have e_ := (Kd.N_reads' HO_27.out).1; omega))
     obtain ⟨ua431_0, uc431_0, rfl, ul431_0, ge431_0⟩ := Kd.FK_slice_open hMe431
     have hv431_0 := hcc431 0 _ rfl
     rw [Nat.add_zero, show ((Kd.slice 3 (Kd.int .i64))).sz = 1 from rfl, Nat.mul_one] at hv431_0
     replace hv431_0 := Option.some.inj (hv431_0.symm.trans hx431_0)
     injection hv431_0 with hva_ hvn_ hvc_
     rw [hva_] at ge431_0
     rw [hvc_] at ul431_0
     have HL431_0 := Aside0.mk (show Kd.V (Kd.int .i64) 3 _ w.heap.size _ _ (rd_L1 t428 x29_2) from Kd.V_mk ul431_0 ge431_0)
     clear hva_ hvn_ hvc_ ge431_0 ul431_0
     clear hcc431 hce431
     have HR431_0 := Aside0.mk hi431_0
     have HC431_0 := Aside0.mk hl431_0
     clear hi431_0 hl431_0
     replace p431 := eq_true p431
     replace q431 := eq_true q431
     go_wp2_with (first | ((with_reducible refine gate_dst (N := 35) rfl ?_); refine Kd.R_lit (Kd.int .i64) _ 3 ?hg (N := 35) ?hd (xs := ([x8_1] : List Int)) (inner := [.int .i64 x8_1]) (ok := fun _ => True) (okp := fun _ => True) ?hr ?hp (fun _ hk => hk) trivial (Below.refl _ _) (Nat.le_refl _) (by simp) ?_; (case hd => rfl); (case hg => rfl); (case hr => first | (go_simp; done) | (go_simp; rfl)); (case hp => exact (Reps.one (show Kd.M (Kd.int .i64) _ _ _ x8_1 [.int .i64 x8_1] from rfl) (Reps.none _ _))); intro v433 w21 ho22 hb hg_ hnew_; clear hg_ hnew_; (first | rw [← Ny432.out] at ho22 | (simp only [Int.reduceToNat] at ho22; rw [← Ny432.out] at ho22)); replace HO_7 := am (Kd.N_elder' (mvN HO_7.out) (Kd.R_base ho22) hb); replace HO_27 := am (Kd.N_elder' (mvN HO_27.out) (Kd.R_base ho22) hb); replace HL431_0 := am (Kd.V_elder' (mvV HL431_0.out) (Kd.R_base ho22) hb); have HO434 := am (Kd.R_lower (Kd.R_newM (M := fun k_ => (w.heap.size ≤ k_)) ho22 (below_size (mb HB.out)) (fun k_ h_ => h_)) (below_size (mb HB.out))); replace HR431_0 := am (Kd.C_below (by repeat (first | (with_reducible exact HR431_0.out) | (with_reducible refine Kd.C_alloc ?_ _) | (with_reducible refine Kd.C_drewN ?_ _) | (with_reducible refine Kd.C_drew ?_) | exact HR431_0.out)) hb); replace HB := am (below_step (mb HB.out) hb); clear hb ho22) | ((with_reducible refine gate_builtin (b := .append) (xs := #[.tmp 35, .tmp 36]) rfl ?_); at_builtin; refine Kd.R_append_rows (Kd.int .i64) (w0 := w) w.heap.size rfl (.tmp 35) (.tmp 36) 38 3 (.int .i64 0) 8 rfl Try.underlying38 info3 rfl (by decide) (by omega) v433 y432 (rd_L1 t428 x29_2) _ _ _ (fun k_ => (w.heap.size ≤ k_)) (fun _ => False) rfl rfl ?aO ?aR (fun _ _ h => h) (fun _ h => h.elim) ?aF ?aB ?aS ?aL ?_; (case aR => repeat (first | exact (by repeat (first | (with_reducible exact HR431_0.out) | (with_reducible refine Kd.C_alloc ?_ _) | (with_reducible refine Kd.C_drewN ?_ _) | (with_reducible refine Kd.C_drew ?_) | exact HR431_0.out)) | (with_reducible refine Kd.C_alloc ?_ _) | (with_reducible refine Kd.C_drewN ?_ _) | (with_reducible refine Kd.C_drew ?_))); (case aB => exact (mb HB.out)); (case aF => exact (fun k_ hk => (Nat.le_trans (below_size (mb HB.out)) hk))); (case aO => exact (Kd.R_mono (mvR HO434.out) (fun _ hk => hk.1))); (case aS => exact (below_size (mb HB.out))); (case aL => have := LMc19.out; omega); intro v436 w23 ho hb hg hat; rw [← Ny435.out] at ho; replace HO_7 := am (Kd.N_afterv (ok := (fun k_ => (w.heap.size ≤ k_) ∧ some k_ ≠ (.slice (some ad431) t428.length co15 : Value).ownBlock)) (mvN HO_7.out) hg hat); replace HO_27 := am (Kd.N_afterv (ok := (fun k_ => (w.heap.size ≤ k_) ∧ some k_ ≠ (u7 : Value).ownBlock)) (mvN HO_27.out) hg hat); replace HL431_0 := am (Kd.V_afterv (ok := (fun k_ => (w.heap.size ≤ k_) ∧ some k_ ≠ (u7 : Value).ownBlock ∧ some k_ ≠ (.slice (some ad431) t428.length co15 : Value).ownBlock)) (Kd.V_mono (mvV HL431_0.out) (fun _ hk => ⟨⟨hk.1.1.1, ⟨hk.1.1.2, hk.1.2⟩⟩, hk.2⟩)) hg hat); replace HB := am (hb); have HO437 := am (ho); clear HO434; clear ho hb hg hat; obtain ⟨Ao25, co25, eo25⟩ := Kd.R_slice HO437.out; subst eo25) | ((with_reducible refine gate_builtin (b := .append) (xs := #[.tmp 33, .tmp 38]) rfl ?_); at_builtin; refine Kd.N_append (Kd.slice 3 (Kd.int .i64)) (w0 := w) w.heap.size rfl (.tmp 33) (.tmp 38) 22 38 (.slice none 0 0) 24 rfl Try.underlying22 info38 rfl (by decide) (by omega) u7 x7_2 y435 [.slice Ao25 y435.length co25] (fun k_ => (w.heap.size ≤ k_) ∧ some k_ ≠ (.slice (some ad431) t428.length co15 : Value).ownBlock) (fun k_ => ((fun k_ => (w.heap.size ≤ k_) ∧ some k_ ≠ (.slice (some ad431) t428.length co15 : Value).ownBlock)) k_ ∧ some k_ ≠ (u7 : Value).ownBlock) rfl rfl ?aP (fun _ hk => hk) ?aF ?aO ?aB ?aS ?aL ?_; (case aP => exact (FKR (Kd.R_mono (ok' := (fun k_ => ((fun k_ => (w.heap.size ≤ k_) ∧ some k_ ≠ (.slice (some ad431) t428.length co15 : Value).ownBlock)) k_ ∧ some k_ ≠ (u7 : Value).ownBlock)) (Kd.R_apart' (Kd.R_apart' (HO437.out) (Kd.N_typed HO_27.out) (by decide)) (Kd.N_typed HO_7.out) (by decide)) (fun k_ hk => ⟨⟨hk.1.1, hk.1.2⟩, hk.2⟩)))); (case aB => exact (mb HB.out)); (case aF => exact (fun k_ hk => ⟨(Nat.le_trans (below_size (mb HB.out)) hk), Kd.fresh' (Kd.N_lt (mvN HO_27.out)) k_ hk⟩)); (case aO => exact (Kd.N_mono (mvN HO_7.out) (fun _ hk => ⟨hk.1.1, hk.1.2⟩))); (case aS => exact (below_size (mb HB.out))); (case aL => have := LMc20.out; omega); intro v439 w24 ho hb hg hat; rw [← Ny438.out] at ho; replace HO_27 := am (Kd.N_afterv (ok := (fun k_ => (w.heap.size ≤ k_) ∧ some k_ ≠ (.slice Ao25 y435.length co25 : Value).ownBlock)) (Kd.N_mono (mvN HO_27.out) (fun _ hk => ⟨⟨hk.1.1, hk.2⟩, hk.1.2⟩)) hg hat); replace HL431_0 := am (Kd.V_afterv (ok := (fun k_ => (w.heap.size ≤ k_) ∧ some k_ ≠ (.slice (some ad431) t428.length co15 : Value).ownBlock ∧ some k_ ≠ (.slice Ao25 y435.length co25 : Value).ownBlock)) (Kd.V_mono (mvV HL431_0.out) (fun _ hk => ⟨⟨hk.1.1, ⟨hk.1.2.2, hk.2⟩⟩, hk.1.2.1⟩)) hg hat); replace HB := am (hb); have HO440 := am (ho); clear HO_7; clear HO437; clear ho hb hg hat))
     go_roundg k2
     case measure => have := HK1.out; have := HK2.out; omega
     case rel => exact ⟨(y438), (wrap64 (x29_2 + 1)), eqF, H', ⟨by have := HK1.out; have := HK2.out; omega⟩, ⟨mvN HO440.out⟩, ⟨Kd.N_mono (mvN HO_27.out) (fun _ hk => ⟨hk.1.1, hk.2⟩)⟩, ⟨mb HB.out⟩⟩
def dltRen : Go.Shelf.Ren := ⟨fun | 45 => 90 | n => n, fun | 0 => 0 | 3 => 3 | 4 => 4 | 22 => 38 | 23 => 3 | n => n, fun | n => n⟩
theorem dltLay : SlLaysE.n45 Try.prog dltRen := {
 mixed := by kernel_rfl
 f45 := ⟨Try.f90.name, by decide, Try.func90.trans (congrArg some (by kernel_rfl))⟩
 t0 := Try.underlying0
 a0 := Try.isAgg0
 z0 := Try.sizeOf0
 v0 := Try.zeroValue0
 t3 := Try.underlying3
 a3 := Try.isAgg3
 z3 := Try.sizeOf3
 v3 := Try.zeroValue3
 t4 := Try.underlying4
 a4 := Try.isAgg4
 z4 := Try.sizeOf4
 v4 := Try.zeroValue4
 t22 := Try.underlying38
 a22 := Try.isAgg38
 z22 := Try.sizeOf38
 v22 := Try.zeroValue38
 a23 := Try.isAgg3
 z23 := Try.sizeOf3 }
open Go.Sort in
theorem dlt_owns {w : World} {base gb cap q : Nat} {e : TypeId} {cur : Array Value} {n : Nat} (fl : List Int) (m : Nat) (hbase : base ≤ gb) (hb : w.heap[gb]? = some (.cells cur e (0, 0))) (h1 : n ≤ cap) (h2 : cap ≤ maxLen) (h3 : cur.size = cap * 1) (hn : fl.length + m = n) :
  (putRow (Value.int .i64) (Sort.ahead w q) gb 0 (fl ++ List.replicate m 0).toArray).ownsRow base e 1 (.slice (some ⟨gb, 0, none⟩) fl.length cap) fl.length (encs (Value.int .i64) fl) := by
 have hl : (fl ++ List.replicate m (0 : Int)).length = n := by simp [hn]
 refine ⟨by simp [encs], .inr ⟨gb, cap, putCells (Value.int .i64) 0 (fl ++ List.replicate m 0).toArray cur, rfl, hbase, ?_, by omega, h2, by simp [putCells, h3], ?_⟩⟩
 ·have := heap_sortedI (n := q) (os := #[]) (fl ++ List.replicate m (0 : Int)).toArray hb
  rwa [grow_empty] at this
 ·have h4 := take_putCellsI cur (fl ++ List.replicate m (0 : Int)) (by rw [hl]; omega)
  have h5 := congrArg (List.take fl.length) h4
  rw [List.take_take, Nat.min_eq_left (by simp)] at h5
  rw [Nat.mul_one, h5, List.map_append, List.take_left' (by simp)]
  rfl
open Go.Sort in
theorem dlt_below {w0 w : World} {base gb q : Nat} (d : Array Int) (hB : Below base w0 w) (hbw : base ≤ w.heap.size) (hbase : base ≤ gb) : Below base w0 (putRow (Value.int .i64) (Sort.ahead w q) gb 0 d) := by
 have := grownBy_sortedI (w := w) (g := gb) (n := q) (os := #[]) d
 rw [grow_empty] at this
 exact hB.grown this hbw (fun k hk => by cases hk; exact hbase)
def slices_Delete_int_int.f (l0 : List Int) (a1 : Int) (a2 : Int) : Option (List Int) := if 0 ≤ a1 ∧ a1 < a2 ∧ a2 ≤ (l0.length : Int) then some (l0.take a1.toNat ++ l0.drop a2.toNat) else none
set_option maxHeartbeats 4000000 in
open Go.Sort in
theorem slices_Delete_int_int.calls (P0_ : Nat → Prop) (u9000_ : Value) (l0 : List Int) (a1 : Int) (a2 : Int) (r : List Int) (w0 w : World) (hB : Below w0.heap.size w0 w) (ho0 : Kd.R (Kd.int .i64) 3 w w0.heap.size P0_ u9000_ l0) (h : slices_Delete_int_int.f l0 a1 a2 = some r) :
  Calls Try.prog 90 #[u9000_, .int .i64 a1, .int .i64 a2] w fun e w' => ∃ v0_ : Value, e = .returned (v0_) ∧ Kd.R (Kd.int .i64) 3 w' w0.heap.size (fun k_ => (P0_ k_ ∨ w.heap.size ≤ k_)) v0_ r ∧ Below w0.heap.size w0 w' ∧ Kept w w' (fun k_ => P0_ k_) := by
 unfold slices_Delete_int_int.f at h
 by_cases hc : 0 ≤ a1 ∧ a1 < a2 ∧ a2 ≤ (l0.length : Int)
 rotate_left
 ·rw [if_neg hc] at h
  cases h
 rw [if_pos hc] at h
 obtain rfl := Option.some.inj h
 obtain ⟨h0, h1, h2⟩ := hc
 obtain ⟨i, rfl⟩ : ∃ i : Nat, (i : Int) = a1 := ⟨a1.toNat, by omega⟩
 obtain ⟨j, rfl⟩ : ∃ j : Nat, (j : Int) = a2 := ⟨a2.toNat, by omega⟩
 have hown := Kd.own_of_R ho0
 rcases hown.2 with ⟨rfl, hn⟩ | ⟨gb, cap, cur, rfl, hbase, hheap, k1, k2, k3, k4⟩
 ·omega
 ·have hH : Go.Sort.Holds (Value.int .i64) w gb 0 l0.toArray := holds_of_blockI hheap (by rw [Nat.mul_one] at k4; rw [k4]; rfl)
  obtain ⟨i0, hi0, hz⟩ := Option.map_eq_some_iff.mp info3
  simp only [Prod.mk.injEq] at hz
  have hcon := AnyE.slices_Delete dltLay (Value.int .i64) (fun _ => rfl) 0 Try.zeroValue3 i0 hi0 hz.2.1 gb 0 cap i j l0.toArray w hH (by simpa using k1) (by unfold maxLen at k2; omega) (by omega) (by simp only [List.size_toArray]; omega)
  change Calls Try.prog 90 _ _ _ at hcon
  simp only [List.size_toArray] at hcon
  refine hcon.mono ?_
  rintro e w' ⟨rfl, q, rfl⟩
  have hl : (l0.take i ++ l0.drop j).length = l0.length - (j - i) := by simp; omega
  have hP : P0_ gb := ho0.1 gb rfl
  have hbw : w0.heap.size ≤ w.heap.size := hB.size
  simp only [Int.toNat_natCast]
  refine ⟨_, rfl, ?_, dlt_below _ hB hbw hbase, ?_⟩
  ·rw [← hl]
   exact Kd.R_of_own (dlt_owns (l0.take i ++ l0.drop j) (j - i) hbase hheap k1 k2 k3 (by rw [hl]; omega)) (fun k hk => .inl (ho0.1 k hk))
  ·have hg := grownBy_sortedI (w := w) (g := gb) (n := q) (os := #[]) (l0.take i ++ l0.drop j ++ List.replicate (j - i) (0 : Int)).toArray
   rw [grow_empty] at hg
   exact Kept.of_grown hg (Kept.refl w _) (fun k hk => .inl (by cases hk; exact hP))
end Go.Proofs.Ytggiicplcglalaa.All
