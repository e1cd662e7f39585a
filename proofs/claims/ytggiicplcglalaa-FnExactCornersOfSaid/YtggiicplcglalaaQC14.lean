/- Part of the proof that the law FnExactCornersOf answers true for all arguments. -/
import Derived.Test.YtggiicplcglalaaQC5
namespace Go.Proofs.Ytggiicplcglalaa.All
open Go.RowKit Go.Proofs.YtggiicplcglalaaW.PrintWords Go.Proofs.YtggiicplcglalaaW.PrintLast Go.Proofs.YtggiicplcglalaaW.PrintMore
attribute [local go_sem] max2_int min2_int max_two min_two max_three min_three max_four min_four
set_option linter.unusedVariables false
set_option linter.unusedSimpArgs false
set_option maxHeartbeats 8000000
set_option maxRecDepth 100000
mutual
def impl_condition_60.l0 : Nat → List (List (S70)) → Int → List (List (S70)) → Int → Int → Option ((List (S70)))
 | 0, _, _, _, _, _ => none
 | k + 1, x0, x3, x9, x10, x11 => if x11 < x10 then (if 0 ≤ x11 then (if x11 < (x9.length : Int) then (if (wrap64 (x3 + ((rd_L5 x9 x11).length : Int))) < 0 then (none) else (impl_condition_60.l0 k x0 (wrap64 (x3 + ((rd_L5 x9 x11).length : Int))) x9 x10 (wrap64 (x11 + 1)))) else (none)) else (none)) else (if 0 ≤ x3 ∧ x3 < 3518437208883 then (impl_condition_60.l1 k ([] : List (S70)) x0 (x0.length : Int) 0) else none)
def impl_condition_60.l1 : Nat → List (S70) → List (List (S70)) → Int → Int → Option ((List (S70)))
 | 0, _, _, _, _ => none
 | k + 1, x6, x25, x26, x27 => if x27 < x26 then (if 0 ≤ x27 then (if x27 < (x25.length : Int) then (if x6.length + (rd_L5 x25 x27).length < 3518437208883 then (impl_condition_60.l1 k (x6 ++ (rd_L5 x25 x27)) x25 x26 (wrap64 (x27 + 1))) else (none)) else (none)) else (none)) else (some x6)
end
def impl_condition_60.f (k : Nat) (l0 : List (List (S70))) : Option ((List (S70))) := impl_condition_60.l0 k l0 0 l0 (l0.length : Int) 0
theorem impl_condition_60.mono_l : ∀ k, (∀ y0 y1 y2 y3 y4, LeO (impl_condition_60.l0 k y0 y1 y2 y3 y4) (impl_condition_60.l0 (k + 1) y0 y1 y2 y3 y4)) ∧ (∀ y0 y1 y2 y3, LeO (impl_condition_60.l1 k y0 y1 y2 y3) (impl_condition_60.l1 (k + 1) y0 y1 y2 y3))
 | 0 => ⟨fun _ _ _ _ _ r h => by simp [impl_condition_60.l0] at h, fun _ _ _ _ r h => by simp [impl_condition_60.l1] at h⟩
 | k + 1 => by
  obtain ⟨ih0, ih1⟩ := impl_condition_60.mono_l k
  refine ⟨?_, ?_⟩ <;> intros <;> (first | unfold impl_condition_60.l0 | unfold impl_condition_60.l1)
  all_goals repeat' first
  | (with_reducible exact ih0 ..)
  | (with_reducible exact ih1 ..)
  | (with_reducible exact LeO.refl _)
  | (with_reducible exact LeO.none _)
  | (with_reducible refine LeO.ite ?_ ?_)
  | (with_reducible refine LeO.bind ?_ (fun _ => ?_))
theorem impl_condition_60.mono : ∀ a0 k, LeO (impl_condition_60.f k a0) (impl_condition_60.f (k + 1) a0) := by
 intro a0 k
 obtain ⟨ih0, ih1⟩ := impl_condition_60.mono_l k
 unfold impl_condition_60.f
 repeat' first
   | (with_reducible exact ih0 ..)
   | (with_reducible exact ih1 ..)
   | (with_reducible exact LeO.refl _)
   | (with_reducible exact LeO.none _)
   | (with_reducible refine LeO.ite ?_ ?_)
   | (with_reducible refine LeO.bind ?_ (fun _ => ?_))
theorem grow_nilC (n : Int) (h0 : 0 ≤ n) (hl : n < 3518437208883) (w : World) :
  Calls Try.prog 80 #[.slice none 0 0, .int .i64 n] w fun e w' => ∃ v0_ : Value, e = .returned (v0_) ∧ Kd.R k70 70 w' w.heap.size (fun _ => True) v0_ ([] : List S70) ∧ Below w.heap.size w w' := by
 have hu := Try.underlying70
 by_cases hz : n = 0
 ·subst hz
  go_enter Try.func80, Try.ntmps80
  go_wp2
  go_ret
  exact ⟨_, rfl, Kd.R_nil _ _ _ _ _, Below.refl _ _⟩
 have hn : wrap64 n = n := by unfold wrap64; omega
 have d0 : decide (n < 0) = false := decide_eq_false (by omega)
 have d1 : decide (0 < n) = true := decide_eq_true (by omega)
 have d2 : decide (n > 0) = true := decide_eq_true (by omega)
 have HN := Aside0.mk (show 0 ≤ wrap64 n by rw [hn]; exact h0)
 have HL := Aside0.mk (show (([] : List S70).length + (wrap64 n).toNat) * 40 ≤ 140737488355328 by rw [hn, List.length_nil]; omega)
 have HZ := Aside0.mk (show k70.M w w.heap.size (fun _ => False) z70 [.slice none 0 0, .int .i64 0, .bool false] from ⟨[.slice none 0 0], [.int .i64 0, .bool false], rfl, ⟨_, rfl, Kd.R_nil _ _ _ _ _⟩, ⟨[.int .i64 0], [.bool false], rfl, rfl, rfl⟩⟩)
 clear h0 hl hz
 go_enter Try.func80, Try.ntmps80
 go_wp2_with (first
  | ((with_reducible refine gate_builtin (b := .append) (xs := #[.tmp 20, .tmp 21]) rfl ?_); at_builtin; refine Kd.R_append_zeros k70 (w0 := w) w.heap.size rfl (.tmp 20) (.tmp 21) 49 3 70 (.agg #[(.slice none 0 0), (.int .i64 0), (.bool false)]) 40 rfl Try.underlying49 Try.underlying3 info70 rfl (by decide) (by omega) (.slice none 0 0) ([] : List S70) z70 (wrap64 n) (fun _ => True) rfl rfl HZ.out (fun _ _ => trivial) (Kd.R_nil _ _ _ _ _) HN.out (Below.refl _ _) (Nat.le_refl _) ?aL ?_; (case aL => exact HL.out); intro v1 w1 ho hb hg hat; obtain ⟨A1, c1, ev⟩ := Kd.R_slice ho; subst ev; have HO := Aside0.mk ho; have HB := Aside0.mk hb; have z0 : (0 : Int) ≤ 0 := Int.le_refl _; clear ho hb hg hat))
 go_ret
 exact ⟨_, rfl, Kd.R_take HO.out (Nat.zero_le _), HB.out⟩
theorem impl_condition_60.calls (k : Nat) (P0_ : Nat → Prop) (A0 : Option Addr) (c0 : Nat) (l0 : List (List (S70))) (r : List (S70)) (w : World) (hs0 : Kd.V (Kd.slice 70 k70) 49 w w.heap.size (fun k_ => P0_ k_) (.slice A0 l0.length c0) l0) (h : impl_condition_60.f k l0 = some r) :
  Calls Try.prog 60 #[.slice A0 l0.length c0] w fun e w' => ∃ v0_ : Value, e = .returned (v0_) ∧ Kd.N k70 70 w' w.heap.size (fun k_ => (P0_ k_ ∨ w.heap.size ≤ k_)) v0_ r ∧ Below w.heap.size w w' := by
 have HO0 := Aside0.mk (show Kd.V (Kd.slice 70 k70) 49 w w.heap.size (fun k_ => (P0_ k_ ∨ w.heap.size ≤ k_)) (.slice A0 l0.length c0) l0 from Kd.V_mono hs0 (fun k_ hk => .inl hk))
 have HB := Aside0.mk (Below.refl w.heap.size w)
 have H : (impl_condition_60.l0 k l0 0 l0 (l0.length : Int) 0) = some r := h
 clear h
 have H' := Aside0.mk H
 clear H
 go_enter Try.func60, Try.ntmps60
 go_wp2
 go_loopg [3, 11] k (fun kq v3 v11 w' => ∃ (x3_1 : Int) (x11_1 : Int), v3 = .int .i64 x3_1 ∧ v11 = .int .i64 x11_1 ∧ Aside0 (impl_condition_60.l0 kq l0 x3_1 l0 (l0.length : Int) x11_1 = some r) ∧ Aside0 (kq ≤ k) ∧ Aside0 (Kd.V (Kd.slice 70 k70) 49 w' w.heap.size (fun k_ => (P0_ k_ ∨ w.heap.size ≤ k_)) (.slice A0 l0.length c0) l0) ∧ Aside0 (Kd.V (Kd.slice 70 k70) 49 w' w.heap.size (fun k_ => (P0_ k_ ∨ w.heap.size ≤ k_)) (.slice A0 l0.length c0) l0) ∧ Aside0 (Below w.heap.size w w'))
 case atStart => exact ⟨(0), (0), eqF, eqF, H', ⟨Nat.le_refl _⟩, ⟨mvV HO0.out⟩, ⟨mvV HO0.out⟩, ⟨mb HB.out⟩⟩
 case round =>
  clear H'
  obtain ⟨x3_1, x11_1, rfl, rfl, HA, HK1, HO_0, HO_9, HB⟩ := hrel
  cases gk with
  | zero => exact absurd HA.out (by simp [impl_condition_60.l0])
  | succ k1 =>
   have H := HA.out
   clear HA
   simp only [impl_condition_60.l0] at H
   by_cases c2 : x11_1 < (l0.length : Int)
   ·rw [if_pos c2] at H
    have c2b0 := decide_eq_true c2
    clear c2
    replace H := ifD H; obtain ⟨c3b0, H⟩ := H
    replace H := ifD H; obtain ⟨c4b0, H⟩ := H
    replace H := ifN H; obtain ⟨c5, H⟩ := H
    have c5b0 := decide_eq_false c5
    clear c5
    have H' := Aside0.mk H
    clear H
    have p342 : 0 ≤ (x11_1 : Int) := odE
    have q342 : x11_1 < (l0.length : Int) := odE
    obtain ⟨ad342, A342_0, c342_0, e342, hx342_0, hl342_0, hi342_0⟩ := at_L5 (Kd.V_reads' HO_9.out).2.2 x11_1 p342 q342
    cases e342
    obtain ⟨ce342, hce342, hMe342, hcc342⟩ := Kd.V_get HO_9.out [] x11_1 p342 (by first | exact q342 | exact odE | (have e_ := (Kd.V_reads' HO_9.out).1; omega))
    obtain ⟨ua342_0, uc342_0, rfl, ul342_0, ge342_0⟩ := Kd.FK_slice_open hMe342
    have hv342_0 := hcc342 0 _ rfl
    rw [Nat.add_zero, show ((Kd.slice 70 k70)).sz = 1 from rfl, Nat.mul_one] at hv342_0
    replace hv342_0 := Option.some.inj (hv342_0.symm.trans hx342_0)
    injection hv342_0 with hva_ hvn_ hvc_
    rw [hva_] at ge342_0
    rw [hvc_] at ul342_0
    have HL342_0 := Aside0.mk (show Kd.V k70 70 _ w.heap.size _ _ (rd_L5 l0 x11_1) from Kd.V_mk ul342_0 ge342_0)
    clear hva_ hvn_ hvc_ ge342_0 ul342_0
    clear hcc342 hce342
    have HR342_0 := Aside0.mk hi342_0
    have HC342_0 := Aside0.mk hl342_0
    clear hi342_0 hl342_0
    replace p342 := eq_true p342
    replace q342 := eq_true q342
    go_wp2
    go_roundg k1
    case measure => have := HK1.out; omega
    case rel => exact ⟨(wrap64 (x3_1 + ((rd_L5 l0 x11_1).length : Int))), (wrap64 (x11_1 + 1)), eqF, eqF, H', ⟨by have := HK1.out; omega⟩, ⟨mvV HO_0.out⟩, ⟨mvV HO_9.out⟩, ⟨mb HB.out⟩⟩
   rw [if_neg c2] at H
   have c2b0 := decide_eq_false c2
   clear c2
   by_cases cg : 0 ≤ x3_1 ∧ x3_1 < 3518437208883
   case neg => rw [if_neg cg] at H; exact absurd H (by simp)
   rw [if_pos cg] at H
   have CG := Aside0.mk cg
   clear cg
   have H' := Aside0.mk H
   clear H
   go_wp2_with (go_at_call 80; refine (grow_nilC x3_1 CG.out.1 CG.out.2 _).mono ?_; rintro e wg ⟨vg, rfl, ho, hb⟩; have HOV := Aside0.mk (Kd.V_elder' HO_0.out (Kd.R_base ho) hb); have HGN := Aside0.mk (Kd.R_N (Kd.R_mono (ok' := fun k_ => (P0_ k_ ∨ w.heap.size ≤ k_)) (Kd.R_bound (Kd.R_lower ho HB.out.size)) (fun k hk => Or.inr hk.2.1))); have HBG := Aside0.mk (below_step HB.out hb); clear ho hb)
   go_loopg [6, 27] k1 (fun kq v6 v27 w' => ∃ (x6_2 : List (S70)) (x27_2 : Int), v27 = .int .i64 x27_2 ∧ Aside0 (impl_condition_60.l1 kq x6_2 l0 (l0.length : Int) x27_2 = some r) ∧ Aside0 (kq ≤ k1) ∧ Aside0 (Kd.N k70 70 w' w.heap.size (fun k_ => (P0_ k_ ∨ w.heap.size ≤ k_)) v6 x6_2) ∧ Aside0 (Kd.V (Kd.slice 70 k70) 49 w' w.heap.size (fun k_ => (P0_ k_ ∨ w.heap.size ≤ k_) ∧ some k_ ≠ (v6 : Value).ownBlock) (.slice A0 l0.length c0) l0) ∧ Aside0 (Below w.heap.size w w'))
   case atStart => exact ⟨(([] : List (S70))), (0), rfl, H', ⟨Nat.le_refl _⟩, ⟨HGN.out⟩, ⟨HOV.out⟩, ⟨HBG.out⟩⟩
   case round =>
    clear H'
    obtain ⟨x6_2, x27_2, rfl, HA, HK2, HO_6, HO_25, HB⟩ := hrel
    cases gk with
    | zero => exact absurd HA.out (by simp [impl_condition_60.l1])
    | succ k2 =>
     have H := HA.out
     clear HA
     simp only [impl_condition_60.l1] at H
     by_cases c6 : x27_2 < (l0.length : Int)
     rotate_left
     ·rw [if_neg c6] at H
      have c6b0 := decide_eq_false c6
      clear c6
      obtain rfl := Option.some.inj H
      go_wp2
      go_ret
      exact ⟨_, eqE, mvN HO_6.out, mb HB.out⟩
     rw [if_pos c6] at H
     have c6b0 := decide_eq_true c6
     clear c6
     replace H := ifD H; obtain ⟨c7b0, H⟩ := H
     replace H := ifD H; obtain ⟨c8b0, H⟩ := H
     replace H := ifA H; obtain ⟨LMc9, H⟩ := H
     replace H := nameA (x6_2 ++ (rd_L5 l0 x27_2)) (fun y344 => (impl_condition_60.l1 k2 y344 l0 (l0.length : Int) (wrap64 (x27_2 + 1))) = some r) H; obtain ⟨y344, Ny344, H⟩ := H
     have H' := Aside0.mk H
     clear H
     have p343 : 0 ≤ (x27_2 : Int) := odE
     have q343 : x27_2 < (l0.length : Int) := odE
     obtain ⟨ad343, A343_0, c343_0, e343, hx343_0, hl343_0, hi343_0⟩ := at_L5 (Kd.V_reads' HO_25.out).2.2 x27_2 p343 q343
     cases e343
     obtain ⟨ce343, hce343, hMe343, hcc343⟩ := Kd.V_get HO_25.out [] x27_2 p343 (by first | exact q343 | exact odE | (have e_ := (Kd.V_reads' HO_25.out).1; omega))
     obtain ⟨ua343_0, uc343_0, rfl, ul343_0, ge343_0⟩ := Kd.FK_slice_open hMe343
     have hv343_0 := hcc343 0 _ rfl
     rw [Nat.add_zero, show ((Kd.slice 70 k70)).sz = 1 from rfl, Nat.mul_one] at hv343_0
     replace hv343_0 := Option.some.inj (hv343_0.symm.trans hx343_0)
     injection hv343_0 with hva_ hvn_ hvc_
     rw [hva_] at ge343_0
     rw [hvc_] at ul343_0
     have HL343_0 := Aside0.mk (show Kd.V k70 70 _ w.heap.size _ _ (rd_L5 l0 x27_2) from Kd.V_mk ul343_0 ge343_0)
     clear hva_ hvn_ hvc_ ge343_0 ul343_0
     clear hcc343 hce343
     have HR343_0 := Aside0.mk hi343_0
     have HC343_0 := Aside0.mk hl343_0
     clear hi343_0 hl343_0
     replace p343 := eq_true p343
     replace q343 := eq_true q343
     go_wp2_with (first | ((with_reducible refine gate_builtin (b := .append) (xs := #[.tmp 31, .tmp 32]) rfl ?_); at_builtin; refine Kd.N_append_rows k70 (w0 := w) w.heap.size rfl (.tmp 31) (.tmp 32) 49 70 (.agg #[(.slice none 0 0), (.int .i64 0), (.bool false)]) 40 rfl Try.underlying49 info70 rfl (by decide) (by omega) u6 x6_2 (rd_L5 l0 x27_2) _ _ _ (fun k_ => (P0_ k_ ∨ w.heap.size ≤ k_)) (fun k_ => ((fun k_ => (P0_ k_ ∨ w.heap.size ≤ k_))) k_ ∧ some k_ ≠ (u6 : Value).ownBlock) rfl rfl ?aO ?aR (fun _ hk => hk) ?aF ?aB ?aS ?aL ?_; (case aR => exact (by skip; exact Kd.V_F (Kd.V_mono (ok' := (fun k_ => ((fun k_ => (P0_ k_ ∨ w.heap.size ≤ k_))) k_ ∧ some k_ ≠ (u6 : Value).ownBlock)) (HL343_0.out) (fun k_ hk => ⟨hk.1, hk.2⟩)))); (case aB => exact (mb HB.out)); (case aF => exact (fun k_ hk => (.inr (Nat.le_trans (below_size (mb HB.out)) hk)))); (case aO => exact (mvN HO_6.out)); (case aS => exact (below_size (mb HB.out))); (case aL => have := LMc9.out; omega); intro v345 w10 ho hb hg hat; rw [← Ny344.out] at ho; replace HO_25 := am (Kd.V_afterv (ok := (fun k_ => (P0_ k_ ∨ w.heap.size ≤ k_))) (mvV HO_25.out) hg hat); replace HL343_0 := am (Kd.V_afterv (ok := (fun k_ => (P0_ k_ ∨ w.heap.size ≤ k_))) (mvV HL343_0.out) hg hat); replace HB := am (hb); have HO346 := am (ho); clear HO_6; clear ho hb hg hat))
     go_roundg k2
     case measure => have := HK1.out; have := HK2.out; omega
     case rel => exact ⟨(y344), (wrap64 (x27_2 + 1)), eqF, H', ⟨by have := HK1.out; have := HK2.out; omega⟩, ⟨mvN HO346.out⟩, ⟨mvV HO_25.out⟩, ⟨mb HB.out⟩⟩
end Go.Proofs.Ytggiicplcglalaa.All
