/- Part of the proof that the law FnExactLabelsOfCorner answers true for all arguments. -/
import Derived.Test.YtggiicplcglalaaQL8
import Derived.Test.YtggiicplcglalaaQL11
namespace Go.Proofs.Ytggiicplcglalaa.All
open Go.RowKit Go.Proofs.YtggiicplcglalaaW.PrintWords Go.Proofs.YtggiicplcglalaaW.PrintLast Go.Proofs.YtggiicplcglalaaW.PrintMore
attribute [local go_sem] max2_int min2_int max_two min_two max_three min_three max_four min_four
set_option linter.unusedVariables false
set_option linter.unusedSimpArgs false
set_option maxHeartbeats 8000000
set_option maxRecDepth 100000
def spec_l1Put.l0 : Nat → List Int → Int → Int → Option (List Int)
 | 0, _, _, _ => none
 | k + 1, x0, x1, x5 => if x5 < (x0.length : Int) then (if 0 ≤ x5 then (if (rd x0 x5) < x1 then (spec_l1Put.l0 k x0 x1 (wrap64 (x5 + 1))) else (if (rd x0 x5) = x1 then (some x0) else ((some (([] : List Int) : List Int)).bind fun y604 => (if x5 ≤ (x0.length : Int) then ((some (x0.take (x5 : Int).toNat : List Int)).bind fun y607 => (if y604.length + y607.length < 17592186044416 then ((some (y604 ++ y607 : List Int)).bind fun y611 => (if y611.length < 17592186044416 then ((some (y611 ++ [x1] : List Int)).bind fun y614 => ((some (x0.drop (x5 : Int).toNat : List Int)).bind fun y617 => (if y614.length + y617.length < 17592186044416 then (some (y614 ++ y617)) else (none)))) else (none))) else (none))) else (none))))) else (none)) else ((some (([] : List Int) : List Int)).bind fun y624 => (if 0 ≤ x5 then (if x5 ≤ (x0.length : Int) then ((some (x0.take (x5 : Int).toNat : List Int)).bind fun y627 => (if y624.length + y627.length < 17592186044416 then ((some (y624 ++ y627 : List Int)).bind fun y631 => (if y631.length < 17592186044416 then ((some (y631 ++ [x1] : List Int)).bind fun y634 => ((some (x0.drop (x5 : Int).toNat : List Int)).bind fun y637 => (if y634.length + y637.length < 17592186044416 then (some (y634 ++ y637)) else (none)))) else (none))) else (none))) else (none)) else (none)))
def spec_l1Put.f (k : Nat) (l0 : List Int) (a1 : Int) : Option (List Int) := spec_l1Put.l0 k l0 a1 0
theorem spec_l1Put.mono_l : ∀ k, (∀ y0 y1 y2, LeO (spec_l1Put.l0 k y0 y1 y2) (spec_l1Put.l0 (k + 1) y0 y1 y2))
 | 0 => fun _ _ _ r h => by simp [spec_l1Put.l0] at h
 | k + 1 => by
  have ih0 := spec_l1Put.mono_l k
  ·intro y0 y1 y2
   unfold spec_l1Put.l0
   repeat' first
   | (with_reducible exact ih0 ..)
   | (with_reducible exact LeO.refl _)
   | (with_reducible exact LeO.none _)
   | (with_reducible refine LeO.ite ?_ ?_)
   | (with_reducible refine LeO.bind ?_ (fun _ => ?_))
theorem spec_l1Put.mono : ∀ a0 a1 k, LeO (spec_l1Put.f k a0 a1) (spec_l1Put.f (k + 1) a0 a1) := by
 intro a0 a1 k
 have ih0 := spec_l1Put.mono_l k
 unfold spec_l1Put.f
 repeat' first
   | (with_reducible exact ih0 ..)
   | (with_reducible exact LeO.refl _)
   | (with_reducible exact LeO.none _)
   | (with_reducible refine LeO.ite ?_ ?_)
   | (with_reducible refine LeO.bind ?_ (fun _ => ?_))
theorem spec_l1Put.calls (k : Nat) (P0_ : Nat → Prop) (u9000_ : Value) (l0 : List Int) (a1 : Int) (r : List Int) (w0 w : World) (hB : Below w0.heap.size w0 w) (ho0 : Kd.R (Kd.int .i64) 3 w w0.heap.size P0_ u9000_ l0) (h : spec_l1Put.f k l0 a1 = some r) :
  Calls Try.prog 71 #[u9000_, .int .i64 a1] w fun e w' => ∃ v0_ : Value, e = .returned (v0_) ∧ Kd.R (Kd.int .i64) 3 w' w0.heap.size (fun k_ => (P0_ k_ ∨ w.heap.size ≤ k_)) v0_ r ∧ Below w0.heap.size w0 w' ∧ Kept w w' (fun k_ => P0_ k_) := by
 have HO0 := Aside0.mk (show Kd.R (Kd.int .i64) 3 w w0.heap.size (fun k_ => (P0_ k_ ∨ w.heap.size ≤ k_)) u9000_ l0 from Kd.R_mono ho0 (fun k_ hk => (.inl hk)))
 have HK := Aside0.mk (Kept.refl w (fun k_ => P0_ k_))
 have HW0 := Aside0.mk hB.size
 have HB := Aside0.mk hB
 clear hB
 have H : (spec_l1Put.l0 k l0 a1 0) = some r := h
 clear h
 have H' := Aside0.mk H
 clear H
 go_enter Try.func71, Try.ntmps71
 go_wp2
 go_loopg [5] k (fun kq v5 w' => ∃ (x5_1 : Int), v5 = .int .i64 x5_1 ∧ Aside0 (spec_l1Put.l0 kq l0 a1 x5_1 = some r) ∧ Aside0 (kq ≤ k) ∧ Aside0 (Kd.R (Kd.int .i64) 3 w' w0.heap.size (fun k_ => (P0_ k_ ∨ w.heap.size ≤ k_)) u9000_ l0) ∧ Aside0 (Kept w w' (fun k_ => P0_ k_)) ∧ Aside0 (Below w0.heap.size w0 w'))
 case atStart => exact ⟨(0), eqF, H', ⟨Nat.le_refl _⟩, ⟨mvR HO0.out⟩, ⟨by repeat (first | (with_reducible first | exact HK.out | apply Kept.alloc | apply Kept.drewN | apply Kept.drew) | exact HK.out)⟩, ⟨mb HB.out⟩⟩
 case round =>
  clear H'
  obtain ⟨x5_1, rfl, HA, HK1, HO_0, HK, HB⟩ := hrel
  cases gk with
  | zero => exact absurd HA.out (by simp [spec_l1Put.l0])
  | succ k1 =>
   have H := HA.out
   clear HA
   simp only [spec_l1Put.l0] at H
   by_cases c3 : x5_1 < (l0.length : Int)
   rotate_left
   ·rw [if_neg c3] at H
    have c3b0 := decide_eq_false c3
    clear c3
    replace H := nameA (([] : List Int)) (fun y624 => (if 0 ≤ x5_1 then (if x5_1 ≤ (l0.length : Int) then ((some (l0.take (x5_1 : Int).toNat : List Int)).bind fun y627 => (if y624.length + y627.length < 17592186044416 then ((some (y624 ++ y627 : List Int)).bind fun y631 => (if y631.length < 17592186044416 then ((some (y631 ++ [a1] : List Int)).bind fun y634 => ((some (l0.drop (x5_1 : Int).toNat : List Int)).bind fun y637 => (if y634.length + y637.length < 17592186044416 then (some (y634 ++ y637)) else (none)))) else (none))) else (none))) else (none)) else (none)) = some r) H; obtain ⟨y624, Ny624, H⟩ := H
    by_cases c24 : 0 ≤ x5_1
    rotate_left
    ·rw [if_neg c24] at H
     exact absurd H (by simp)
    rw [if_pos c24] at H
    have c24b0 := eq_true c24
    have c24b1 := decide_eq_true c24
    clear c24
    replace H := ifP H; obtain ⟨c25, H⟩ := H
    have c25b0 := eq_true c25
    have c25b1 := decide_eq_true c25
    clear c25
    replace H := nameA (l0.take (x5_1 : Int).toNat) (fun y627 => (if y624.length + y627.length < 17592186044416 then ((some (y624 ++ y627 : List Int)).bind fun y631 => (if y631.length < 17592186044416 then ((some (y631 ++ [a1] : List Int)).bind fun y634 => ((some (l0.drop (x5_1 : Int).toNat : List Int)).bind fun y637 => (if y634.length + y637.length < 17592186044416 then (some (y634 ++ y637)) else (none)))) else (none))) else (none)) = some r) H; obtain ⟨y627, Ny627, H⟩ := H
    replace H := ifA H; obtain ⟨LMc26, H⟩ := H
    replace H := nameA (y624 ++ y627) (fun y631 => (if y631.length < 17592186044416 then ((some (y631 ++ [a1] : List Int)).bind fun y634 => ((some (l0.drop (x5_1 : Int).toNat : List Int)).bind fun y637 => (if y634.length + y637.length < 17592186044416 then (some (y634 ++ y637)) else (none)))) else (none)) = some r) H; obtain ⟨y631, Ny631, H⟩ := H
    replace H := ifA H; obtain ⟨LMc27, H⟩ := H
    replace H := nameA (y631 ++ [a1]) (fun y634 => ((some (l0.drop (x5_1 : Int).toNat : List Int)).bind fun y637 => (if y634.length + y637.length < 17592186044416 then (some (y634 ++ y637)) else (none))) = some r) H; obtain ⟨y634, Ny634, H⟩ := H
    have c28b0 := eq_true (odE : 0 ≤ x5_1)
    have c29b0 := eq_true (odE : x5_1 ≤ (l0.length : Int))
    replace H := nameA (l0.drop (x5_1 : Int).toNat) (fun y637 => (if y634.length + y637.length < 17592186044416 then (some (y634 ++ y637)) else (none)) = some r) H; obtain ⟨y637, Ny637, H⟩ := H
    replace H := ifA H; obtain ⟨LMc30, H⟩ := H
    replace H := nameA (y634 ++ y637) (fun y641 => (some y641) = some r) H; obtain ⟨y641, Ny641, H⟩ := H
    obtain rfl := Option.some.inj H
    obtain ⟨Ao31, co31, eo31⟩ := Kd.R_slice HO_0.out
    subst eo31
    go_wp2_with (first | ((with_reducible refine gate_dst (N := 34) rfl ?_); refine Kd.R_lit (Kd.int .i64) _ 3 ?hg (N := 34) ?hd (xs := ([] : List Int)) (inner := []) (ok := fun _ => True) (okp := fun _ => True) ?hr ?hp (fun _ hk => hk) trivial (Below.refl _ _) (Nat.le_refl _) (by simp) ?_; (case hd => rfl); (case hg => rfl); (case hr => first | (go_simp; done) | (go_simp; rfl)); (case hp => exact (Reps.none _ _)); intro v625 w32 ho33 hb hg_ hnew_; clear hg_ hnew_; (first | rw [← Ny624.out] at ho33 | (simp only [Int.reduceToNat] at ho33; rw [← Ny624.out] at ho33)); have HO626 := am (Kd.R_lower (Kd.R_new' (Kd.R_newM (M := fun k_ => (P0_ k_ ∨ w.heap.size ≤ k_)) ho33 (by first | exact HK.out.1 | exact (show Kept w _ (fun k_ => P0_ k_) from by repeat (first | (with_reducible first | exact HK.out | apply Kept.alloc | apply Kept.drewN | apply Kept.drew) | exact HK.out)).1) (fun k_ h_ => .inr h_)) (Kd.R_lt (mvR HO_0.out))) (below_size (mb HB.out))); replace HO_0 := am (Kd.R_elder' (mvR HO_0.out) (Kd.R_base ho33) hb); replace HK := am (Kept.below (S := (fun k_ => P0_ k_)) (by repeat (first | (with_reducible first | exact HK.out | apply Kept.alloc | apply Kept.drewN | apply Kept.drew) | exact HK.out)) hb); replace HB := am (below_step (mb HB.out) hb); clear hb ho33; have q34 : (x5_1 : Int) ≤ ((l0.length : Int) : Int) := odE; obtain ⟨i034, hi034, _, hsz34, _⟩ := info_parts info3; have hroom34 : l0.length ≤ co31 := (Kd.R_reads' HO_0.out).2.1; have hC34 : Kd.C (Kd.int .i64) _ Ao31 l0.length l0 := (Kd.R_reads' HO_0.out).2.2; have hcut34 := cut_to (P := Try.prog) 38 3 .i64 Try.underlying38 hi034 Ao31 l0.length co31 x5_1 (odE) q34 hroom34; have hr34 := Kd.C_take (m := (x5_1 : Int).toNat) hC34 (by omega); have hy34 : y627.length = (x5_1 : Int).toNat := (by rw [Ny627.out, List.length_take]; omega); rw [← Ny627.out] at hr34; rw [← hy34] at hcut34; have HR630 := Aside0.mk hr34; have HC630 := Aside0.mk (show y627.length ≤ co31 from by omega); clear hr34 hC34 hroom34 hi034 hsz34; have KY34 := Aside0.mk hy34; clear hy34; have KL34 := Aside0.mk (show (x5_1 : Int).toNat ≤ l0.length from by omega); replace q34 := eq_true q34) | ((with_reducible refine gate_builtin (b := .append) (xs := #[.tmp 34, .tmp 37]) rfl ?_); at_builtin; refine Kd.R_append_rows (Kd.int .i64) (w0 := w0) w0.heap.size rfl (.tmp 34) (.tmp 37) 38 3 (.int .i64 0) 8 rfl Try.underlying38 info3 rfl (by decide) (by omega) v625 y624 y627 _ _ _ (fun k_ => (P0_ k_ ∨ w.heap.size ≤ k_) ∧ some k_ ≠ (.slice Ao31 l0.length co31 : Value).ownBlock) (fun _ => False) rfl rfl ?aO ?aR (fun _ _ h => h) (fun _ h => h.elim) ?aF ?aB ?aS ?aL ?_; (case aR => repeat (first | exact (by repeat (first | (with_reducible exact HR630.out) | (with_reducible refine Kd.C_alloc ?_ _) | (with_reducible refine Kd.C_drewN ?_ _) | (with_reducible refine Kd.C_drew ?_) | exact HR630.out)) | (with_reducible refine Kd.C_alloc ?_ _) | (with_reducible refine Kd.C_drewN ?_ _) | (with_reducible refine Kd.C_drew ?_))); (case aB => exact (mb HB.out)); (case aF => exact (fun k_ hk => ⟨(.inr (Nat.le_trans (by first | exact HK.out.1 | exact (show Kept w _ (fun k_ => P0_ k_) from by repeat (first | (with_reducible first | exact HK.out | apply Kept.alloc | apply Kept.drewN | apply Kept.drew) | exact HK.out)).1) hk)), Kd.fresh' (Kd.R_lt (mvR HO_0.out)) k_ hk⟩)); (case aO => exact (Kd.R_mono (mvR HO626.out) (fun _ hk => ⟨hk.1.1, hk.2⟩))); (case aS => exact (below_size (mb HB.out))); (case aL => have := LMc26.out; omega); intro v632 w35 ho hb hg hat; rw [← Ny631.out] at ho; replace HB := am (hb); replace HK := am (Kept.of_grown (S := (fun k_ => P0_ k_)) hg (by repeat (first | (with_reducible first | exact HK.out | apply Kept.alloc | apply Kept.drewN | apply Kept.drew) | exact HK.out)) (fun k_ e_ => (HO626.out.1 k_ e_).1.1)); replace HR630 := am ((show Kd.C (Kd.int .i64) w35 Ao31 y627.length y627 from by rw [Ny627.out]; exact Kd.C_take (m := (x5_1 : Int).toNat) ((Kd.R_reads' (Kd.R_after (ok := (fun k_ => (P0_ k_ ∨ w.heap.size ≤ k_))) (mvR HO_0.out) hg hat)).2.2) KL34.out)); replace HO_0 := am (Kd.R_after (ok := (fun k_ => (P0_ k_ ∨ w.heap.size ≤ k_))) (mvR HO_0.out) hg hat); have HO633 := am (ho); clear HO626; clear ho hb hg hat) | ((with_reducible refine gate_builtin (b := .append) (xs := #[.tmp 39, .tmp 41]) rfl ?_); at_builtin; refine Kd.R_append (Kd.int .i64) (w0 := w0) w0.heap.size rfl (.tmp 39) (.tmp 41) 38 3 (.int .i64 0) 8 rfl Try.underlying38 info3 rfl (by decide) (by omega) v632 y631 a1 [.int .i64 a1] (fun k_ => (P0_ k_ ∨ w.heap.size ≤ k_) ∧ some k_ ≠ (.slice Ao31 l0.length co31 : Value).ownBlock) (fun _ => False) rfl rfl ?aP (fun _ hk => hk.elim) ?aF ?aO ?aB ?aS ?aL ?_; (case aP => exact rfl); (case aB => exact (mb HB.out)); (case aF => exact (fun k_ hk => ⟨(.inr (Nat.le_trans (by first | exact HK.out.1 | exact (show Kept w _ (fun k_ => P0_ k_) from by repeat (first | (with_reducible first | exact HK.out | apply Kept.alloc | apply Kept.drewN | apply Kept.drew) | exact HK.out)).1) hk)), Kd.fresh' (Kd.R_lt (mvR HO_0.out)) k_ hk⟩)); (case aO => exact (mvR HO633.out)); (case aS => exact (below_size (mb HB.out))); (case aL => have := LMc27.out; omega); intro v635 w36 ho hb hg hat; rw [← Ny634.out] at ho; replace HB := am (hb); replace HK := am (Kept.of_grown (S := (fun k_ => P0_ k_)) hg (by repeat (first | (with_reducible first | exact HK.out | apply Kept.alloc | apply Kept.drewN | apply Kept.drew) | exact HK.out)) (fun k_ e_ => (HO633.out.1 k_ e_).1)); replace HR630 := am ((show Kd.C (Kd.int .i64) w36 Ao31 y627.length y627 from by rw [Ny627.out]; exact Kd.C_take (m := (x5_1 : Int).toNat) ((Kd.R_reads' (Kd.R_after (ok := (fun k_ => (P0_ k_ ∨ w.heap.size ≤ k_))) (mvR HO_0.out) hg hat)).2.2) KL34.out)); replace HO_0 := am (Kd.R_after (ok := (fun k_ => (P0_ k_ ∨ w.heap.size ≤ k_))) (mvR HO_0.out) hg hat); have HO636 := am (ho); clear HO633; clear ho hb hg hat; have q37 : (x5_1 : Int) ≤ ((l0.length : Int) : Int) := odE; obtain ⟨i037, hi037, _, hsz37, _⟩ := info_parts info3; have hroom37 : l0.length ≤ co31 := (Kd.R_reads' HO_0.out).2.1; have hC37 : Kd.C (Kd.int .i64) _ Ao31 l0.length l0 := (Kd.R_reads' HO_0.out).2.2; have q037 : (0 : Int) ≤ (x5_1 : Int) := odE; have hcut37 := cut_from (P := Try.prog) 38 3 .i64 Try.underlying38 hi037 1 hsz37 Ao31 l0.length co31 x5_1 q037 q37; have hr37 := Kd.C_drop (m := (x5_1 : Int).toNat) (c := co31) hC37 (by omega) hroom37; obtain ⟨A37, hA37⟩ : ∃ A1, A1 = (if co31 = (x5_1 : Int).toNat then Ao31 else (Ao31 : Option Addr).map (·.add ((x5_1 : Int).toNat * 1))) := ⟨_, rfl⟩; obtain ⟨c37, hc37⟩ : ∃ c1, c1 = co31 - (x5_1 : Int).toNat := ⟨_, rfl⟩; have hy37 : y637.length = l0.length - (x5_1 : Int).toNat := (by rw [Ny637.out, List.length_drop] <;> omega); rw [show (l0).drop (x5_1 : Int).toNat = y637 from Ny637.out.symm] at hr37; replace hr37 : Kd.C (Kd.int .i64) _ A37 y637.length y637 := (by rw [hA37]; exact hr37); rw [← hy37, ← hA37, ← hc37] at hcut37; have HR640 := Aside0.mk hr37; have HC640 := Aside0.mk (show y637.length ≤ c37 from by rw [hy37, hc37]; exact Nat.sub_le_sub_right hroom37 _); clear hr37 hC37 hroom37 hi037 hsz37 hc37; have KY37 := Aside0.mk hy37; have KA37 := Aside0.mk hA37; clear hy37 hA37; have KL37 := Aside0.mk (show (x5_1 : Int).toNat ≤ l0.length from by omega); replace q37 := eq_true q37) | ((with_reducible refine gate_builtin (b := .append) (xs := #[.tmp 43, .tmp 46]) rfl ?_); at_builtin; refine Kd.R_append_rows (Kd.int .i64) (w0 := w0) w0.heap.size rfl (.tmp 43) (.tmp 46) 38 3 (.int .i64 0) 8 rfl Try.underlying38 info3 rfl (by decide) (by omega) v635 y634 y637 _ _ _ (fun k_ => (P0_ k_ ∨ w.heap.size ≤ k_) ∧ some k_ ≠ (.slice Ao31 l0.length co31 : Value).ownBlock) (fun _ => False) rfl rfl ?aO ?aR (fun _ _ h => h) (fun _ h => h.elim) ?aF ?aB ?aS ?aL ?_; (case aR => repeat (first | exact (by repeat (first | (with_reducible exact HR640.out) | (with_reducible refine Kd.C_alloc ?_ _) | (with_reducible refine Kd.C_drewN ?_ _) | (with_reducible refine Kd.C_drew ?_) | exact HR640.out)) | (with_reducible refine Kd.C_alloc ?_ _) | (with_reducible refine Kd.C_drewN ?_ _) | (with_reducible refine Kd.C_drew ?_))); (case aB => exact (mb HB.out)); (case aF => exact (fun k_ hk => ⟨(.inr (Nat.le_trans (by first | exact HK.out.1 | exact (show Kept w _ (fun k_ => P0_ k_) from by repeat (first | (with_reducible first | exact HK.out | apply Kept.alloc | apply Kept.drewN | apply Kept.drew) | exact HK.out)).1) hk)), Kd.fresh' (Kd.R_lt (mvR HO_0.out)) k_ hk⟩)); (case aO => exact (mvR HO636.out)); (case aS => exact (below_size (mb HB.out))); (case aL => have := LMc30.out; omega); intro v642 w38 ho hb hg hat; rw [← Ny641.out] at ho; replace HB := am (hb); replace HK := am (Kept.of_grown (S := (fun k_ => P0_ k_)) hg (by repeat (first | (with_reducible first | exact HK.out | apply Kept.alloc | apply Kept.drewN | apply Kept.drew) | exact HK.out)) (fun k_ e_ => (HO636.out.1 k_ e_).1)); replace HR630 := am ((show Kd.C (Kd.int .i64) w38 Ao31 y627.length y627 from by rw [Ny627.out]; exact Kd.C_take (m := (x5_1 : Int).toNat) ((Kd.R_reads' (Kd.R_after (ok := (fun k_ => (P0_ k_ ∨ w.heap.size ≤ k_))) (mvR HO_0.out) hg hat)).2.2) KL34.out)); replace HR640 := am ((show Kd.C (Kd.int .i64) w38 A37 y637.length y637 from by rw [Ny637.out, KA37.out]; exact Kd.C_drop (m := (x5_1 : Int).toNat) (c := co31) ((Kd.R_reads' (Kd.R_after (ok := (fun k_ => (P0_ k_ ∨ w.heap.size ≤ k_))) (mvR HO_0.out) hg hat)).2.2) KL37.out ((Kd.R_reads' (Kd.R_after (ok := (fun k_ => (P0_ k_ ∨ w.heap.size ≤ k_))) (mvR HO_0.out) hg hat)).2.1))); replace HO_0 := am (Kd.R_after (ok := (fun k_ => (P0_ k_ ∨ w.heap.size ≤ k_))) (mvR HO_0.out) hg hat); have HO643 := am (ho); clear HO636; clear ho hb hg hat))
    go_ret
    exact ⟨_, eqE, Kd.R_mono (mvR HO643.out) (fun _ hk => hk.1), mb HB.out, by repeat (first | (with_reducible first | exact HK.out | apply Kept.alloc | apply Kept.drewN | apply Kept.drew) | exact HK.out)⟩
   rw [if_pos c3] at H
   have c3b0 := decide_eq_true c3
   clear c3
   replace H := ifD H; obtain ⟨c4b0, H⟩ := H
   by_cases c5 : (rd l0 x5_1) < a1
   ·rw [if_pos c5] at H
    have c5b0 := decide_eq_true c5
    clear c5
    have H' := Aside0.mk H
    clear H
    obtain ⟨Ao6, co6, eo6⟩ := Kd.R_slice HO_0.out
    subst eo6
    have p602 : 0 ≤ (x5_1 : Int) := odE
    have q602 : x5_1 < (l0.length : Int) := odE
    obtain ⟨ad602, e602, hx602_0⟩ := Kd.at_int (Kd.R_reads' HO_0.out).2.2 x5_1 p602 q602
    cases e602
    replace p602 := eq_true p602
    replace q602 := eq_true q602
    go_wp2
    go_roundg k1
    case measure => have := HK1.out; omega
    case rel => exact ⟨(wrap64 (x5_1 + 1)), eqF, H', ⟨by have := HK1.out; omega⟩, ⟨mvR HO_0.out⟩, ⟨by repeat (first | (with_reducible first | exact HK.out | apply Kept.alloc | apply Kept.drewN | apply Kept.drew) | exact HK.out)⟩, ⟨mb HB.out⟩⟩
   rw [if_neg c5] at H
   have c5b0 := decide_eq_false c5
   clear c5
   by_cases c7 : (rd l0 x5_1) = a1
   ·rw [if_pos c7] at H
    have c7b0 := eqb1 c7
    have c7b1 := eqb2 c7
    clear c7
    obtain rfl := Option.some.inj H
    obtain ⟨Ao8, co8, eo8⟩ := Kd.R_slice HO_0.out
    subst eo8
    have p602 : 0 ≤ (x5_1 : Int) := odE
    have q602 : x5_1 < (l0.length : Int) := odE
    obtain ⟨ad602, e602, hx602_0⟩ := Kd.at_int (Kd.R_reads' HO_0.out).2.2 x5_1 p602 q602
    cases e602
    replace p602 := eq_true p602
    replace q602 := eq_true q602
    have p603 : 0 ≤ (x5_1 : Int) := odE
    have q603 : x5_1 < (l0.length : Int) := odE
    obtain ⟨ad603, e603, hx603_0⟩ := Kd.at_int (Kd.R_reads' HO_0.out).2.2 x5_1 p603 q603
    obtain rfl : ad602 = ad603 := (by injection e603)
    replace p603 := eq_true p603
    replace q603 := eq_true q603
    go_wp2
    go_ret
    exact ⟨_, eqE, mvR HO_0.out, mb HB.out, by repeat (first | (with_reducible first | exact HK.out | apply Kept.alloc | apply Kept.drewN | apply Kept.drew) | exact HK.out)⟩
   rw [if_neg c7] at H
   have c7b0 := neb1 c7
   have c7b1 := neb2 c7
   replace H := nameA (([] : List Int)) (fun y604 => (if x5_1 ≤ (l0.length : Int) then ((some (l0.take (x5_1 : Int).toNat : List Int)).bind fun y607 => (if y604.length + y607.length < 17592186044416 then ((some (y604 ++ y607 : List Int)).bind fun y611 => (if y611.length < 17592186044416 then ((some (y611 ++ [a1] : List Int)).bind fun y614 => ((some (l0.drop (x5_1 : Int).toNat : List Int)).bind fun y617 => (if y614.length + y617.length < 17592186044416 then (some (y614 ++ y617)) else (none)))) else (none))) else (none))) else (none)) = some r) H; obtain ⟨y604, Ny604, H⟩ := H
   have c9b0 := eq_true (odE : 0 ≤ x5_1)
   replace H := ifP H; obtain ⟨c10, H⟩ := H
   have c10b0 := eq_true c10
   have c10b1 := decide_eq_true c10
   clear c10
   replace H := nameA (l0.take (x5_1 : Int).toNat) (fun y607 => (if y604.length + y607.length < 17592186044416 then ((some (y604 ++ y607 : List Int)).bind fun y611 => (if y611.length < 17592186044416 then ((some (y611 ++ [a1] : List Int)).bind fun y614 => ((some (l0.drop (x5_1 : Int).toNat : List Int)).bind fun y617 => (if y614.length + y617.length < 17592186044416 then (some (y614 ++ y617)) else (none)))) else (none))) else (none)) = some r) H; obtain ⟨y607, Ny607, H⟩ := H
   replace H := ifA H; obtain ⟨LMc11, H⟩ := H
   replace H := nameA (y604 ++ y607) (fun y611 => (if y611.length < 17592186044416 then ((some (y611 ++ [a1] : List Int)).bind fun y614 => ((some (l0.drop (x5_1 : Int).toNat : List Int)).bind fun y617 => (if y614.length + y617.length < 17592186044416 then (some (y614 ++ y617)) else (none)))) else (none)) = some r) H; obtain ⟨y611, Ny611, H⟩ := H
   replace H := ifA H; obtain ⟨LMc12, H⟩ := H
   replace H := nameA (y611 ++ [a1]) (fun y614 => ((some (l0.drop (x5_1 : Int).toNat : List Int)).bind fun y617 => (if y614.length + y617.length < 17592186044416 then (some (y614 ++ y617)) else (none))) = some r) H; obtain ⟨y614, Ny614, H⟩ := H
   have c13b0 := eq_true (odE : 0 ≤ x5_1)
   have c14b0 := eq_true (odE : x5_1 ≤ (l0.length : Int))
   replace H := nameA (l0.drop (x5_1 : Int).toNat) (fun y617 => (if y614.length + y617.length < 17592186044416 then (some (y614 ++ y617)) else (none)) = some r) H; obtain ⟨y617, Ny617, H⟩ := H
   replace H := ifA H; obtain ⟨LMc15, H⟩ := H
   replace H := nameA (y614 ++ y617) (fun y621 => (some y621) = some r) H; obtain ⟨y621, Ny621, H⟩ := H
   obtain rfl := Option.some.inj H
   obtain ⟨Ao16, co16, eo16⟩ := Kd.R_slice HO_0.out
   subst eo16
   have p602 : 0 ≤ (x5_1 : Int) := odE
   have q602 : x5_1 < (l0.length : Int) := odE
   obtain ⟨ad602, e602, hx602_0⟩ := Kd.at_int (Kd.R_reads' HO_0.out).2.2 x5_1 p602 q602
   cases e602
   replace p602 := eq_true p602
   replace q602 := eq_true q602
   have p603 : 0 ≤ (x5_1 : Int) := odE
   have q603 : x5_1 < (l0.length : Int) := odE
   obtain ⟨ad603, e603, hx603_0⟩ := Kd.at_int (Kd.R_reads' HO_0.out).2.2 x5_1 p603 q603
   obtain rfl : ad602 = ad603 := (by injection e603)
   replace p603 := eq_true p603
   replace q603 := eq_true q603
   go_wp2_with (first | ((with_reducible refine gate_dst (N := 34) rfl ?_); refine Kd.R_lit (Kd.int .i64) _ 3 ?hg (N := 34) ?hd (xs := ([] : List Int)) (inner := []) (ok := fun _ => True) (okp := fun _ => True) ?hr ?hp (fun _ hk => hk) trivial (Below.refl _ _) (Nat.le_refl _) (by simp) ?_; (case hd => rfl); (case hg => rfl); (case hr => first | (go_simp; done) | (go_simp; rfl)); (case hp => exact (Reps.none _ _)); intro v605 w17 ho18 hb hg_ hnew_; clear hg_ hnew_; (first | rw [← Ny604.out] at ho18 | (simp only [Int.reduceToNat] at ho18; rw [← Ny604.out] at ho18)); have HO606 := am (Kd.R_lower (Kd.R_new' (Kd.R_newM (M := fun k_ => (P0_ k_ ∨ w.heap.size ≤ k_)) ho18 (by first | exact HK.out.1 | exact (show Kept w _ (fun k_ => P0_ k_) from by repeat (first | (with_reducible first | exact HK.out | apply Kept.alloc | apply Kept.drewN | apply Kept.drew) | exact HK.out)).1) (fun k_ h_ => .inr h_)) (Kd.R_lt (mvR HO_0.out))) (below_size (mb HB.out))); replace HO_0 := am (Kd.R_elder' (mvR HO_0.out) (Kd.R_base ho18) hb); replace HK := am (Kept.below (S := (fun k_ => P0_ k_)) (by repeat (first | (with_reducible first | exact HK.out | apply Kept.alloc | apply Kept.drewN | apply Kept.drew) | exact HK.out)) hb); replace HB := am (below_step (mb HB.out) hb); clear hb ho18; have q19 : (x5_1 : Int) ≤ ((l0.length : Int) : Int) := odE; obtain ⟨i019, hi019, _, hsz19, _⟩ := info_parts info3; have hroom19 : l0.length ≤ co16 := (Kd.R_reads' HO_0.out).2.1; have hC19 : Kd.C (Kd.int .i64) _ (some ad602) l0.length l0 := (Kd.R_reads' HO_0.out).2.2; have hcut19 := cut_to (P := Try.prog) 38 3 .i64 Try.underlying38 hi019 (some ad602) l0.length co16 x5_1 (odE) q19 hroom19; have hr19 := Kd.C_take (m := (x5_1 : Int).toNat) hC19 (by omega); have hy19 : y607.length = (x5_1 : Int).toNat := (by rw [Ny607.out, List.length_take]; omega); rw [← Ny607.out] at hr19; rw [← hy19] at hcut19; have HR610 := Aside0.mk hr19; have HC610 := Aside0.mk (show y607.length ≤ co16 from by omega); clear hr19 hC19 hroom19 hi019 hsz19; have KY19 := Aside0.mk hy19; clear hy19; have KL19 := Aside0.mk (show (x5_1 : Int).toNat ≤ l0.length from by omega); replace q19 := eq_true q19) | ((with_reducible refine gate_builtin (b := .append) (xs := #[.tmp 34, .tmp 37]) rfl ?_); at_builtin; refine Kd.R_append_rows (Kd.int .i64) (w0 := w0) w0.heap.size rfl (.tmp 34) (.tmp 37) 38 3 (.int .i64 0) 8 rfl Try.underlying38 info3 rfl (by decide) (by omega) v605 y604 y607 _ _ _ (fun k_ => (P0_ k_ ∨ w.heap.size ≤ k_) ∧ some k_ ≠ (.slice (some ad602) l0.length co16 : Value).ownBlock) (fun _ => False) rfl rfl ?aO ?aR (fun _ _ h => h) (fun _ h => h.elim) ?aF ?aB ?aS ?aL ?_; (case aR => repeat (first | exact (by repeat (first | (with_reducible exact HR610.out) | (with_reducible refine Kd.C_alloc ?_ _) | (with_reducible refine Kd.C_drewN ?_ _) | (with_reducible refine Kd.C_drew ?_) | exact HR610.out)) | (with_reducible refine Kd.C_alloc ?_ _) | (with_reducible refine Kd.C_drewN ?_ _) | (with_reducible refine Kd.C_drew ?_))); (case aB => exact (mb HB.out)); (case aF => exact (fun k_ hk => ⟨(.inr (Nat.le_trans (by first | exact HK.out.1 | exact (show Kept w _ (fun k_ => P0_ k_) from by repeat (first | (with_reducible first | exact HK.out | apply Kept.alloc | apply Kept.drewN | apply Kept.drew) | exact HK.out)).1) hk)), Kd.fresh' (Kd.R_lt (mvR HO_0.out)) k_ hk⟩)); (case aO => exact (Kd.R_mono (mvR HO606.out) (fun _ hk => ⟨hk.1.1, hk.2⟩))); (case aS => exact (below_size (mb HB.out))); (case aL => have := LMc11.out; omega); intro v612 w20 ho hb hg hat; rw [← Ny611.out] at ho; replace HB := am (hb); replace HK := am (Kept.of_grown (S := (fun k_ => P0_ k_)) hg (by repeat (first | (with_reducible first | exact HK.out | apply Kept.alloc | apply Kept.drewN | apply Kept.drew) | exact HK.out)) (fun k_ e_ => (HO606.out.1 k_ e_).1.1)); replace HR610 := am ((show Kd.C (Kd.int .i64) w20 (some ad602) y607.length y607 from by rw [Ny607.out]; exact Kd.C_take (m := (x5_1 : Int).toNat) ((Kd.R_reads' (Kd.R_after (ok := (fun k_ => (P0_ k_ ∨ w.heap.size ≤ k_))) (mvR HO_0.out) hg hat)).2.2) KL19.out)); replace HO_0 := am (Kd.R_after (ok := (fun k_ => (P0_ k_ ∨ w.heap.size ≤ k_))) (mvR HO_0.out) hg hat); have HO613 := am (ho); clear HO606; clear ho hb hg hat) | ((with_reducible refine gate_builtin (b := .append) (xs := #[.tmp 39, .tmp 41]) rfl ?_); at_builtin; refine Kd.R_append (Kd.int .i64) (w0 := w0) w0.heap.size rfl (.tmp 39) (.tmp 41) 38 3 (.int .i64 0) 8 rfl Try.underlying38 info3 rfl (by decide) (by omega) v612 y611 a1 [.int .i64 a1] (fun k_ => (P0_ k_ ∨ w.heap.size ≤ k_) ∧ some k_ ≠ (.slice (some ad602) l0.length co16 : Value).ownBlock) (fun _ => False) rfl rfl ?aP (fun _ hk => hk.elim) ?aF ?aO ?aB ?aS ?aL ?_; (case aP => exact rfl); (case aB => exact (mb HB.out)); (case aF => exact (fun k_ hk => ⟨(.inr (Nat.le_trans (by first | exact HK.out.1 | exact (show Kept w _ (fun k_ => P0_ k_) from by repeat (first | (with_reducible first | exact HK.out | apply Kept.alloc | apply Kept.drewN | apply Kept.drew) | exact HK.out)).1) hk)), Kd.fresh' (Kd.R_lt (mvR HO_0.out)) k_ hk⟩)); (case aO => exact (mvR HO613.out)); (case aS => exact (below_size (mb HB.out))); (case aL => have := LMc12.out; omega); intro v615 w21 ho hb hg hat; rw [← Ny614.out] at ho; replace HB := am (hb); replace HK := am (Kept.of_grown (S := (fun k_ => P0_ k_)) hg (by repeat (first | (with_reducible first | exact HK.out | apply Kept.alloc | apply Kept.drewN | apply Kept.drew) | exact HK.out)) (fun k_ e_ => (HO613.out.1 k_ e_).1)); replace HR610 := am ((show Kd.C (Kd.int .i64) w21 (some ad602) y607.length y607 from by rw [Ny607.out]; exact Kd.C_take (m := (x5_1 : Int).toNat) ((Kd.R_reads' (Kd.R_after (ok := (fun k_ => (P0_ k_ ∨ w.heap.size ≤ k_))) (mvR HO_0.out) hg hat)).2.2) KL19.out)); replace HO_0 := am (Kd.R_after (ok := (fun k_ => (P0_ k_ ∨ w.heap.size ≤ k_))) (mvR HO_0.out) hg hat); have HO616 := am (ho); clear HO613; clear ho hb hg hat; have q22 : (x5_1 : Int) ≤ ((l0.length : Int) : Int) := odE; obtain ⟨i022, hi022, _, hsz22, _⟩ := info_parts info3; have hroom22 : l0.length ≤ co16 := (Kd.R_reads' HO_0.out).2.1; have hC22 : Kd.C (Kd.int .i64) _ (some ad602) l0.length l0 := (Kd.R_reads' HO_0.out).2.2; have q022 : (0 : Int) ≤ (x5_1 : Int) := odE; have hcut22 := cut_from (P := Try.prog) 38 3 .i64 Try.underlying38 hi022 1 hsz22 (some ad602) l0.length co16 x5_1 q022 q22; have hr22 := Kd.C_drop (m := (x5_1 : Int).toNat) (c := co16) hC22 (by omega) hroom22; obtain ⟨A22, hA22⟩ : ∃ A1, A1 = (if co16 = (x5_1 : Int).toNat then (some ad602) else ((some ad602) : Option Addr).map (·.add ((x5_1 : Int).toNat * 1))) := ⟨_, rfl⟩; obtain ⟨c22, hc22⟩ : ∃ c1, c1 = co16 - (x5_1 : Int).toNat := ⟨_, rfl⟩; have hy22 : y617.length = l0.length - (x5_1 : Int).toNat := (by rw [Ny617.out, List.length_drop] <;> omega); rw [show (l0).drop (x5_1 : Int).toNat = y617 from Ny617.out.symm] at hr22; replace hr22 : Kd.C (Kd.int .i64) _ A22 y617.length y617 := (by rw [hA22]; exact hr22); rw [← hy22, ← hA22, ← hc22] at hcut22; have HR620 := Aside0.mk hr22; have HC620 := Aside0.mk (show y617.length ≤ c22 from by rw [hy22, hc22]; exact Nat.sub_le_sub_right hroom22 _); clear hr22 hC22 hroom22 hi022 hsz22 hc22; have KY22 := Aside0.mk hy22; have KA22 := Aside0.mk hA22; clear hy22 hA22; have KL22 := Aside0.mk (show (x5_1 : Int).toNat ≤ l0.length from by omega); replace q22 := eq_true q22) | ((with_reducible refine gate_builtin (b := .append) (xs := #[.tmp 43, .tmp 46]) rfl ?_); at_builtin; refine Kd.R_append_rows (Kd.int .i64) (w0 := w0) w0.heap.size rfl (.tmp 43) (.tmp 46) 38 3 (.int .i64 0) 8 rfl Try.underlying38 info3 rfl (by decide) (by omega) v615 y614 y617 _ _ _ (fun k_ => (P0_ k_ ∨ w.heap.size ≤ k_) ∧ some k_ ≠ (.slice (some ad602) l0.length co16 : Value).ownBlock) (fun _ => False) rfl rfl ?aO ?aR (fun _ _ h => h) (fun _ h => h.elim) ?aF ?aB ?aS ?aL ?_; (case aR => repeat (first | exact (by repeat (first | (with_reducible exact HR620.out) | (with_reducible refine Kd.C_alloc ?_ _) | (with_reducible refine Kd.C_drewN ?_ _) | (with_reducible refine Kd.C_drew ?_) | exact HR620.out)) | (with_reducible refine Kd.C_alloc ?_ _) | (with_reducible refine Kd.C_drewN ?_ _) | (with_reducible refine Kd.C_drew ?_))); (case aB => exact (mb HB.out)); (case aF => exact (fun k_ hk => ⟨(.inr (Nat.le_trans (by first | exact HK.out.1 | exact (show Kept w _ (fun k_ => P0_ k_) from by repeat (first | (with_reducible first | exact HK.out | apply Kept.alloc | apply Kept.drewN | apply Kept.drew) | exact HK.out)).1) hk)), Kd.fresh' (Kd.R_lt (mvR HO_0.out)) k_ hk⟩)); (case aO => exact (mvR HO616.out)); (case aS => exact (below_size (mb HB.out))); (case aL => have := LMc15.out; omega); intro v622 w23 ho hb hg hat; rw [← Ny621.out] at ho; replace HB := am (hb); replace HK := am (Kept.of_grown (S := (fun k_ => P0_ k_)) hg (by repeat (first | (with_reducible first | exact HK.out | apply Kept.alloc | apply Kept.drewN | apply Kept.drew) | exact HK.out)) (fun k_ e_ => (HO616.out.1 k_ e_).1)); replace HR610 := am ((show Kd.C (Kd.int .i64) w23 (some ad602) y607.length y607 from by rw [Ny607.out]; exact Kd.C_take (m := (x5_1 : Int).toNat) ((Kd.R_reads' (Kd.R_after (ok := (fun k_ => (P0_ k_ ∨ w.heap.size ≤ k_))) (mvR HO_0.out) hg hat)).2.2) KL19.out)); replace HR620 := am ((show Kd.C (Kd.int .i64) w23 A22 y617.length y617 from by rw [Ny617.out, KA22.out]; exact Kd.C_drop (m := (x5_1 : Int).toNat) (c := co16) ((Kd.R_reads' (Kd.R_after (ok := (fun k_ => (P0_ k_ ∨ w.heap.size ≤ k_))) (mvR HO_0.out) hg hat)).2.2) KL22.out ((Kd.R_reads' (Kd.R_after (ok := (fun k_ => (P0_ k_ ∨ w.heap.size ≤ k_))) (mvR HO_0.out) hg hat)).2.1))); replace HO_0 := am (Kd.R_after (ok := (fun k_ => (P0_ k_ ∨ w.heap.size ≤ k_))) (mvR HO_0.out) hg hat); have HO623 := am (ho); clear HO616; clear ho hb hg hat))
   go_ret
   exact ⟨_, eqE, Kd.R_mono (mvR HO623.out) (fun _ hk => hk.1), mb HB.out, by repeat (first | (with_reducible first | exact HK.out | apply Kept.alloc | apply Kept.drewN | apply Kept.drew) | exact HK.out)⟩
def spec_gmLabels.l0 : Nat → Int → Int → Int → List Int → List Int → Int → Int → Option (List Int)
 | 0, _, _, _, _, _, _, _ => none
 | k + 1, x1, x9, x10, x11, x30, x31, x32 => if x32 < x31 then (if 0 ≤ x32 then (if x32 < (x30.length : Int) then (if x1 = 2 then (if (wrap64 ((rd x30 x32) + x9)) ≥ (wrap64 (x9 + x10)) then ((spec_l1Put.f k x11 (wrap64 ((wrap64 ((rd x30 x32) + x9)) - (wrap64 (x9 + x10))))).bind fun t654 => (spec_gmLabels.l0 k x1 x9 x10 t654 x30 x31 (wrap64 (x32 + 1)))) else ((spec_l1Put.f k x11 (wrap64 ((rd x30 x32) + x9))).bind fun t657 => (spec_gmLabels.l0 k x1 x9 x10 t657 x30 x31 (wrap64 (x32 + 1))))) else ((spec_l1Put.f k x11 (rd x30 x32)).bind fun t660 => (spec_gmLabels.l0 k x1 x9 x10 t660 x30 x31 (wrap64 (x32 + 1))))) else (none)) else (none)) else (some x11)
def spec_gmLabels.f (k : Nat) (l0_0 : List (List Int)) (l0_1 : List (List Int)) (a1 : Int) (l2 : List Int) : Option (List Int) := (spec_gmFigure.f k l0_0 l0_1 a1).bind fun t645 => ((spec_gmMet.f k t645 l2).bind fun bt648 => (if 0 < (l0_0.length : Int) then (spec_gmLabels.l0 k a1 (l0_0.length : Int) ((rd_L1 l0_0 0).length : Int) ([] : List Int) bt648.1 (bt648.1.length : Int) 0) else (none)))
theorem spec_gmLabels.mono_l : ∀ k, (∀ y0 y1 y2 y3 y4 y5 y6, LeO (spec_gmLabels.l0 k y0 y1 y2 y3 y4 y5 y6) (spec_gmLabels.l0 (k + 1) y0 y1 y2 y3 y4 y5 y6))
 | 0 => fun _ _ _ _ _ _ _ r h => by simp [spec_gmLabels.l0] at h
 | k + 1 => by
  have ih0 := spec_gmLabels.mono_l k
  ·intro y0 y1 y2 y3 y4 y5 y6
   unfold spec_gmLabels.l0
   repeat' first
   | (with_reducible exact ih0 ..)
   | (with_reducible exact spec_gmFigure.mono ..)
   | (with_reducible exact spec_gmMet.mono ..)
   | (with_reducible exact spec_l1Put.mono ..)
   | (with_reducible exact LeO.refl _)
   | (with_reducible exact LeO.none _)
   | (with_reducible refine LeO.ite ?_ ?_)
   | (with_reducible refine LeO.bind ?_ (fun _ => ?_))
theorem spec_gmLabels.mono : ∀ a0 a1 a2 a3 k, LeO (spec_gmLabels.f k a0 a1 a2 a3) (spec_gmLabels.f (k + 1) a0 a1 a2 a3) := by
 intro a0 a1 a2 a3 k
 have ih0 := spec_gmLabels.mono_l k
 unfold spec_gmLabels.f
 repeat' first
   | (with_reducible exact ih0 ..)
   | (with_reducible exact spec_gmFigure.mono ..)
   | (with_reducible exact spec_gmMet.mono ..)
   | (with_reducible exact spec_l1Put.mono ..)
   | (with_reducible exact LeO.refl _)
   | (with_reducible exact LeO.none _)
   | (with_reducible refine LeO.ite ?_ ?_)
   | (with_reducible refine LeO.bind ?_ (fun _ => ?_))
theorem spec_gmLabels.calls (k : Nat) (A0_0 : Option Addr) (c0_0 : Nat) (l0_0 : List (List Int)) (A0_1 : Option Addr) (c0_1 : Nat) (l0_1 : List (List Int)) (a1 : Int) (A2 : Option Addr) (c2 : Nat) (l2 : List Int) (r : List Int) (w : World) (hr0_0 : Kd.C (Kd.slice 3 (Kd.int .i64)) w A0_0 l0_0.length l0_0) (hc0_0 : l0_0.length ≤ c0_0) (hr0_1 : Kd.C (Kd.slice 3 (Kd.int .i64)) w A0_1 l0_1.length l0_1) (hc0_1 : l0_1.length ≤ c0_1) (hr2 : Kd.C (Kd.int .i64) w A2 l2.length l2) (hc2 : l2.length ≤ c2) (h : spec_gmLabels.f k l0_0 l0_1 a1 l2 = some r) :
  Calls Try.prog 36 #[.agg #[.slice A0_0 l0_0.length c0_0, .slice A0_1 l0_1.length c0_1], .int .i64 a1, .slice A2 l2.length c2] w fun e w' => ∃ v0_ : Value, e = .returned (v0_) ∧ Kd.R (Kd.int .i64) 3 w' w.heap.size (fun _ => True) v0_ r ∧ Below w.heap.size w w' := by
 have hu28 := Try.underlying28
 have HR0_0 := Aside0.mk hr0_0
 have HC0_0 := Aside0.mk hc0_0
 clear hr0_0 hc0_0
 have HR0_1 := Aside0.mk hr0_1
 have HC0_1 := Aside0.mk hc0_1
 clear hr0_1 hc0_1
 have HR2 := Aside0.mk hr2
 have HC2 := Aside0.mk hc2
 clear hr2 hc2
 have HB := Aside0.mk (Below.refl w.heap.size w)
 have H : ((spec_gmFigure.f k l0_0 l0_1 a1).bind fun t645 => ((spec_gmMet.f k t645 l2).bind fun bt648 => (if 0 < (l0_0.length : Int) then (spec_gmLabels.l0 k a1 (l0_0.length : Int) ((rd_L1 l0_0 0).length : Int) ([] : List Int) bt648.1 (bt648.1.length : Int) 0) else (none)))) = some r := h
 clear h
 replace H := bindA H; obtain ⟨t645, A4, H⟩ := H
 replace H := bindA H; obtain ⟨⟨t648, t649⟩, A5, H⟩ := H; dsimp only at H
 by_cases c6 : 0 < (l0_0.length : Int)
 rotate_left
 ·rw [if_neg c6] at H
  exact absurd H (by simp)
 rw [if_pos c6] at H
 have c6b0 := decide_eq_true c6
 have c6b1 : decide (0 < l0_0.length) = true := decide_eq_true (by omega)
 clear c6
 have H' := Aside0.mk H
 clear H
 go_enter Try.func36, Try.ntmps36
 go_wp2_with (first | ((with_reducible refine gate_dst (N := 3) rfl ?_); refine bE 3 #[.slice A0_0 l0_0.length c0_0, .slice A0_1 l0_1.length c0_1] 28 ?_; intro gb644 hg w7 hbox hb; have BK644 := am (hbox); have GW644 := am ((by rw [hg]; exact (below_size (mb HB.out)) : w.heap.size ≤ gb644)); have GE644 := GW644; replace HB := am (below_step (mb HB.out) hb); clear hb hbox hg; have hcz8_0 := cell0 BK644.out; have hcz8_1 := cell1 BK644.out; have hfz8_0 := blk_frozen BK644.out 0; have hfz8_1 := blk_frozen BK644.out 1) | (go_at_call 27; (with_reducible refine (spec_gmFigure.calls k (fun k_ => k_ < w.heap.size) _ _ l0_0 _ _ l0_1 a1 t645 _ ?side1 ?side2 ?side3 A4.out).mono ?_); (case side1 => exact Kd.V_mk HC0_0.out (Kd.F_below (Kd.C_F (Kd.heap_slice 3 (Kd.heap_int .i64)) HR0_0.out) (mb HB.out))); (case side2 => exact mvC (Kd.C_below HR0_1.out HB.out)); (case side3 => exact HC0_1.out); rintro e w9 ⟨v646, rfl, ho0, hb⟩; have HO647 := am (Kd.S_lower (Kd.S_mono (ok' := fun k_ => True) ho0 (fun _ hk_ => trivial)) (below_size (mb HB.out))); replace BK644 := am (blk_below (mvK BK644.out) hb); replace HB := am (below_step (mb HB.out) hb); (try clear hb ho0); obtain ⟨Ao10, co10, eo10⟩ := Kd.S_slice HO647.out; subst eo10) | (go_at_call 49; (with_reducible refine (spec_gmMet.calls k _ _ t645 _ _ l2 t648 t649 _ ?side1 ?side2 ?side3 ?side4 A5.out).mono ?_); (case side1 => repeat (first | exact (Kd.S_reads' HO647.out).2.2 | (with_reducible refine Kd.C_alloc ?_ _) | (with_reducible refine Kd.C_drewN ?_ _) | (with_reducible refine Kd.C_drew ?_))); (case side2 => exact (Kd.S_reads' HO647.out).2.1); (case side3 => exact mvC (Kd.C_below HR2.out HB.out)); (case side4 => exact HC2.out); rintro e w11 ⟨v650, rfl, ho0, hb⟩; replace HO647 := am (Kd.S_elder' (mvS HO647.out) (Kd.R_base ho0) hb); have HO651 := am (Kd.R_lower ho0 (below_size (mb HB.out))); replace BK644 := am (blk_below (mvK BK644.out) hb); replace HB := am (below_step (mb HB.out) hb); (try clear hb ho0); have hcz12_0 := cell0 BK644.out; have hcz12_1 := cell1 BK644.out; have hfz12_0 := blk_frozen BK644.out 0; have hfz12_1 := blk_frozen BK644.out 1; have p652 : 0 ≤ (0 : Int) := (by omega); have q652 : 0 < (l0_0.length : Int) := odE; obtain ⟨ad652, A652_0, c652_0, e652, hx652_0, hl652_0, hi652_0⟩ := at_L1 HR0_0.out 0 p652 q652; cases e652; have qi652 : (0 < l0_0.length) = True := eq_true (by omega); (try rw [show ((0 : Int)).toNat = 0 from rfl] at hx652_0); (try rw [Addr.add_zero'] at hx652_0); replace hx652_0 := (HB.out.cell (World.block_lt_of_cell? w _ hx652_0)).trans hx652_0; have HR652_0 := Aside0.mk hi652_0; have HC652_0 := Aside0.mk hl652_0; clear hi652_0 hl652_0; replace p652 := eq_true p652; replace q652 := eq_true q652; obtain ⟨Ao13, co13, eo13⟩ := Kd.R_slice HO651.out; subst eo13))
 repeat (go_quiet (first | ((with_reducible refine gate_dst (N := 3) rfl ?_); refine bE 3 #[.slice A0_0 l0_0.length c0_0, .slice A0_1 l0_1.length c0_1] 28 ?_; intro gb644 hg w7 hbox hb; have BK644 := am (hbox); have GW644 := am ((by rw [hg]; exact (below_size (mb HB.out)) : w.heap.size ≤ gb644)); have GE644 := GW644; replace HB := am (below_step (mb HB.out) hb); clear hb hbox hg; have hcz8_0 := cell0 BK644.out; have hcz8_1 := cell1 BK644.out; have hfz8_0 := blk_frozen BK644.out 0; have hfz8_1 := blk_frozen BK644.out 1) | (go_at_call 27; (with_reducible refine (spec_gmFigure.calls k (fun k_ => k_ < w.heap.size) _ _ l0_0 _ _ l0_1 a1 t645 _ ?side1 ?side2 ?side3 A4.out).mono ?_); (case side1 => exact Kd.V_mk HC0_0.out (Kd.F_below (Kd.C_F (Kd.heap_slice 3 (Kd.heap_int .i64)) HR0_0.out) (mb HB.out))); (case side2 => exact mvC (Kd.C_below HR0_1.out HB.out)); (case side3 => exact HC0_1.out); rintro e w9 ⟨v646, rfl, ho0, hb⟩; have HO647 := am (Kd.S_lower (Kd.S_mono (ok' := fun k_ => True) ho0 (fun _ hk_ => trivial)) (below_size (mb HB.out))); replace BK644 := am (blk_below (mvK BK644.out) hb); replace HB := am (below_step (mb HB.out) hb); (try clear hb ho0); obtain ⟨Ao10, co10, eo10⟩ := Kd.S_slice HO647.out; subst eo10) | (go_at_call 49; (with_reducible refine (spec_gmMet.calls k _ _ t645 _ _ l2 t648 t649 _ ?side1 ?side2 ?side3 ?side4 A5.out).mono ?_); (case side1 => repeat (first | exact (Kd.S_reads' HO647.out).2.2 | (with_reducible refine Kd.C_alloc ?_ _) | (with_reducible refine Kd.C_drewN ?_ _) | (with_reducible refine Kd.C_drew ?_))); (case side2 => exact (Kd.S_reads' HO647.out).2.1); (case side3 => exact mvC (Kd.C_below HR2.out HB.out)); (case side4 => exact HC2.out); rintro e w11 ⟨v650, rfl, ho0, hb⟩; replace HO647 := am (Kd.S_elder' (mvS HO647.out) (Kd.R_base ho0) hb); have HO651 := am (Kd.R_lower ho0 (below_size (mb HB.out))); replace BK644 := am (blk_below (mvK BK644.out) hb); replace HB := am (below_step (mb HB.out) hb); (try clear hb ho0); have hcz12_0 := cell0 BK644.out; have hcz12_1 := cell1 BK644.out; have hfz12_0 := blk_frozen BK644.out 0; have hfz12_1 := blk_frozen BK644.out 1; have p652 : 0 ≤ (0 : Int) := (by omega); have q652 : 0 < (l0_0.length : Int) := odE; obtain ⟨ad652, A652_0, c652_0, e652, hx652_0, hl652_0, hi652_0⟩ := at_L1 HR0_0.out 0 p652 q652; cases e652; have qi652 : (0 < l0_0.length) = True := eq_true (by omega); (try rw [show ((0 : Int)).toNat = 0 from rfl] at hx652_0); (try rw [Addr.add_zero'] at hx652_0); replace hx652_0 := (HB.out.cell (World.block_lt_of_cell? w _ hx652_0)).trans hx652_0; have HR652_0 := Aside0.mk hi652_0; have HC652_0 := Aside0.mk hl652_0; clear hi652_0 hl652_0; replace p652 := eq_true p652; replace q652 := eq_true q652; obtain ⟨Ao13, co13, eo13⟩ := Kd.R_slice HO651.out; subst eo13)); try go_wp2_with (first | ((with_reducible refine gate_dst (N := 3) rfl ?_); refine bE 3 #[.slice A0_0 l0_0.length c0_0, .slice A0_1 l0_1.length c0_1] 28 ?_; intro gb644 hg w7 hbox hb; have BK644 := am (hbox); have GW644 := am ((by rw [hg]; exact (below_size (mb HB.out)) : w.heap.size ≤ gb644)); have GE644 := GW644; replace HB := am (below_step (mb HB.out) hb); clear hb hbox hg; have hcz8_0 := cell0 BK644.out; have hcz8_1 := cell1 BK644.out; have hfz8_0 := blk_frozen BK644.out 0; have hfz8_1 := blk_frozen BK644.out 1) | (go_at_call 27; (with_reducible refine (spec_gmFigure.calls k (fun k_ => k_ < w.heap.size) _ _ l0_0 _ _ l0_1 a1 t645 _ ?side1 ?side2 ?side3 A4.out).mono ?_); (case side1 => exact Kd.V_mk HC0_0.out (Kd.F_below (Kd.C_F (Kd.heap_slice 3 (Kd.heap_int .i64)) HR0_0.out) (mb HB.out))); (case side2 => exact mvC (Kd.C_below HR0_1.out HB.out)); (case side3 => exact HC0_1.out); rintro e w9 ⟨v646, rfl, ho0, hb⟩; have HO647 := am (Kd.S_lower (Kd.S_mono (ok' := fun k_ => True) ho0 (fun _ hk_ => trivial)) (below_size (mb HB.out))); replace BK644 := am (blk_below (mvK BK644.out) hb); replace HB := am (below_step (mb HB.out) hb); (try clear hb ho0); obtain ⟨Ao10, co10, eo10⟩ := Kd.S_slice HO647.out; subst eo10) | (go_at_call 49; (with_reducible refine (spec_gmMet.calls k _ _ t645 _ _ l2 t648 t649 _ ?side1 ?side2 ?side3 ?side4 A5.out).mono ?_); (case side1 => repeat (first | exact (Kd.S_reads' HO647.out).2.2 | (with_reducible refine Kd.C_alloc ?_ _) | (with_reducible refine Kd.C_drewN ?_ _) | (with_reducible refine Kd.C_drew ?_))); (case side2 => exact (Kd.S_reads' HO647.out).2.1); (case side3 => exact mvC (Kd.C_below HR2.out HB.out)); (case side4 => exact HC2.out); rintro e w11 ⟨v650, rfl, ho0, hb⟩; replace HO647 := am (Kd.S_elder' (mvS HO647.out) (Kd.R_base ho0) hb); have HO651 := am (Kd.R_lower ho0 (below_size (mb HB.out))); replace BK644 := am (blk_below (mvK BK644.out) hb); replace HB := am (below_step (mb HB.out) hb); (try clear hb ho0); have hcz12_0 := cell0 BK644.out; have hcz12_1 := cell1 BK644.out; have hfz12_0 := blk_frozen BK644.out 0; have hfz12_1 := blk_frozen BK644.out 1; have p652 : 0 ≤ (0 : Int) := (by omega); have q652 : 0 < (l0_0.length : Int) := odE; obtain ⟨ad652, A652_0, c652_0, e652, hx652_0, hl652_0, hi652_0⟩ := at_L1 HR0_0.out 0 p652 q652; cases e652; have qi652 : (0 < l0_0.length) = True := eq_true (by omega); (try rw [show ((0 : Int)).toNat = 0 from rfl] at hx652_0); (try rw [Addr.add_zero'] at hx652_0); replace hx652_0 := (HB.out.cell (World.block_lt_of_cell? w _ hx652_0)).trans hx652_0; have HR652_0 := Aside0.mk hi652_0; have HC652_0 := Aside0.mk hl652_0; clear hi652_0 hl652_0; replace p652 := eq_true p652; replace q652 := eq_true q652; obtain ⟨Ao13, co13, eo13⟩ := Kd.R_slice HO651.out; subst eo13)))
 go_loopg [11, 32] k (fun kq v11 v32 w' => ∃ (x11_1 : List Int) (x32_1 : Int), v32 = .int .i64 x32_1 ∧ Aside0 (spec_gmLabels.l0 kq a1 (l0_0.length : Int) ((rd_L1 l0_0 0).length : Int) x11_1 t648 (t648.length : Int) x32_1 = some r) ∧ Aside0 (kq ≤ k) ∧ Aside0 (Kd.R (Kd.int .i64) 3 w' w.heap.size (fun k_ => some k_ ≠ ((.slice Ao13 t648.length co13) : Value).ownBlock) v11 x11_1) ∧ Aside0 (Kd.R (Kd.int .i64) 3 w' w.heap.size (fun k_ => some k_ ≠ (v11 : Value).ownBlock) (.slice Ao13 t648.length co13) t648) ∧ Aside0 (w'.heap[gb644]? = some (.cells #[(.slice (some ad652) l0_0.length c0_0), (.slice A0_1 l0_1.length c0_1)] 28 (0, 0))) ∧ Aside0 (Below w.heap.size w w'))
 case atStart => exact ⟨(([] : List Int)), (0), eqF, H', ⟨Nat.le_refl _⟩, ⟨nilE⟩, ⟨Kd.R_mono (mvR HO651.out) (fun _ hk => (by simp [Value.ownBlock]))⟩, ⟨mvK BK644.out⟩, ⟨mb HB.out⟩⟩
 case round =>
  clear H'
  obtain ⟨x11_1, x32_1, rfl, HA, HK1, HO_11, HO_30, BK644, HB⟩ := hrel
  cases gk with
  | zero => exact absurd HA.out (by simp [spec_gmLabels.l0])
  | succ k1 =>
   have H := HA.out
   clear HA
   simp only [spec_gmLabels.l0] at H
   by_cases c14 : x32_1 < (t648.length : Int)
   rotate_left
   ·rw [if_neg c14] at H
    have c14b0 := decide_eq_false c14
    clear c14
    obtain rfl := Option.some.inj H
    go_wp2
    repeat (go_quiet (fail); try go_wp2)
    go_ret
    exact ⟨_, eqE, Kd.R_mono (mvR HO_11.out) (fun _ hk => trivial), mb HB.out⟩
   rw [if_pos c14] at H
   have c14b0 := decide_eq_true c14
   clear c14
   replace H := ifD H; obtain ⟨c15b0, H⟩ := H
   replace H := ifD H; obtain ⟨c16b0, H⟩ := H
   by_cases c17 : a1 = 2
   rotate_left
   ·rw [if_neg c17] at H
    have c17b0 := neb1 c17
    have c17b1 := neb2 c17
    replace H := bindA H; obtain ⟨t660, A25, H⟩ := H
    have H' := Aside0.mk H
    clear H
    have p653 : 0 ≤ (x32_1 : Int) := odE
    have q653 : x32_1 < (t648.length : Int) := odE
    obtain ⟨ad653, e653, hx653_0⟩ := Kd.at_int (Kd.R_reads' HO_30.out).2.2 x32_1 p653 q653
    cases e653
    replace p653 := eq_true p653
    replace q653 := eq_true q653
    obtain ⟨Ao26, co26, eo26⟩ := Kd.R_slice HO_11.out
    subst eo26
    go_wp2_with (first | (go_at_call 71; (with_reducible refine (spec_l1Put.calls k1 (fun k_ => some k_ = (.slice Ao26 x11_1.length co26 : Value).ownBlock) (.slice Ao26 x11_1.length co26) x11_1 (rd t648 x32_1) t660 w _ ?side1 ?side2 A25.out).mono ?_); (case side1 => repeat (first | (with_reducible first | exact HB.out | apply below_alloc | apply pw_below_drewN | apply below_drew1 | refine below_set ?_ GE644.out) | exact HB.out)); (case side2 => exact Kd.R_tight rfl HO_11.out); rintro e w27 ⟨v661, rfl, ho0, hb, hkp⟩; replace BK644 := am (blk_kept (mvK BK644.out) hkp (fun hs_ => (fun e_ => (Kd.R_ne HO_11.out BK644.out (by decide)) e_) hs_)); have HO662 := am (Kd.R_mono (ok' := fun k_ => some k_ ≠ (.slice (some ad653) t648.length co13 : Value).ownBlock) ho0 (fun k_ hk_ => Or.elim hk_ (fun hs_ => fun e_ => (((HO_30.out).1 k_ e_.symm)) hs_) (fun hn_ => (Kd.fresh' (Kd.R_lt (mvR HO_30.out)) k_ hn_)))); replace HO_30 := am (Kd.R_mono (ok' := fun k_ => some k_ ≠ (v661 : Value).ownBlock) (Kd.R_keptB (HO_30.out) hkp (fun k_ hk_ hs_ => (hk_) hs_)) (fun k_ hk_ => fun e_ => Or.elim (ho0.1 k_ e_.symm) (fun hs_ => hk_.2.1 hs_) (fun hn_ => Nat.not_le.2 hk_.2.2 hn_))); replace HB := am (hb); clear HO_11; (try clear hb hkp ho0)))
    repeat (go_quiet (first | (go_at_call 71; (with_reducible refine (spec_l1Put.calls k1 (fun k_ => some k_ = (.slice Ao26 x11_1.length co26 : Value).ownBlock) (.slice Ao26 x11_1.length co26) x11_1 (rd t648 x32_1) t660 w _ ?side1 ?side2 A25.out).mono ?_); (case side1 => repeat (first | (with_reducible first | exact HB.out | apply below_alloc | apply pw_below_drewN | apply below_drew1 | refine below_set ?_ GE644.out) | exact HB.out)); (case side2 => exact Kd.R_tight rfl HO_11.out); rintro e w27 ⟨v661, rfl, ho0, hb, hkp⟩; replace BK644 := am (blk_kept (mvK BK644.out) hkp (fun hs_ => (fun e_ => (Kd.R_ne HO_11.out BK644.out (by decide)) e_) hs_)); have HO662 := am (Kd.R_mono (ok' := fun k_ => some k_ ≠ (.slice (some ad653) t648.length co13 : Value).ownBlock) ho0 (fun k_ hk_ => Or.elim hk_ (fun hs_ => fun e_ => (((HO_30.out).1 k_ e_.symm)) hs_) (fun hn_ => (Kd.fresh' (Kd.R_lt (mvR HO_30.out)) k_ hn_)))); replace HO_30 := am (Kd.R_mono (ok' := fun k_ => some k_ ≠ (v661 : Value).ownBlock) (Kd.R_keptB (HO_30.out) hkp (fun k_ hk_ hs_ => (hk_) hs_)) (fun k_ hk_ => fun e_ => Or.elim (ho0.1 k_ e_.symm) (fun hs_ => hk_.2.1 hs_) (fun hn_ => Nat.not_le.2 hk_.2.2 hn_))); replace HB := am (hb); clear HO_11; (try clear hb hkp ho0))); try go_wp2_with (first | (go_at_call 71; (with_reducible refine (spec_l1Put.calls k1 (fun k_ => some k_ = (.slice Ao26 x11_1.length co26 : Value).ownBlock) (.slice Ao26 x11_1.length co26) x11_1 (rd t648 x32_1) t660 w _ ?side1 ?side2 A25.out).mono ?_); (case side1 => repeat (first | (with_reducible first | exact HB.out | apply below_alloc | apply pw_below_drewN | apply below_drew1 | refine below_set ?_ GE644.out) | exact HB.out)); (case side2 => exact Kd.R_tight rfl HO_11.out); rintro e w27 ⟨v661, rfl, ho0, hb, hkp⟩; replace BK644 := am (blk_kept (mvK BK644.out) hkp (fun hs_ => (fun e_ => (Kd.R_ne HO_11.out BK644.out (by decide)) e_) hs_)); have HO662 := am (Kd.R_mono (ok' := fun k_ => some k_ ≠ (.slice (some ad653) t648.length co13 : Value).ownBlock) ho0 (fun k_ hk_ => Or.elim hk_ (fun hs_ => fun e_ => (((HO_30.out).1 k_ e_.symm)) hs_) (fun hn_ => (Kd.fresh' (Kd.R_lt (mvR HO_30.out)) k_ hn_)))); replace HO_30 := am (Kd.R_mono (ok' := fun k_ => some k_ ≠ (v661 : Value).ownBlock) (Kd.R_keptB (HO_30.out) hkp (fun k_ hk_ hs_ => (hk_) hs_)) (fun k_ hk_ => fun e_ => Or.elim (ho0.1 k_ e_.symm) (fun hs_ => hk_.2.1 hs_) (fun hn_ => Nat.not_le.2 hk_.2.2 hn_))); replace HB := am (hb); clear HO_11; (try clear hb hkp ho0))))
    go_roundg k1
    case measure => have := HK1.out; omega
    case rel => exact ⟨(t660), (wrap64 (x32_1 + 1)), eqF, H', ⟨by have := HK1.out; omega⟩, ⟨mvR HO662.out⟩, ⟨mvR HO_30.out⟩, ⟨mvK BK644.out⟩, ⟨mb HB.out⟩⟩
   rw [if_pos c17] at H
   have c17b0 := eqb1 c17
   have c17b1 := eqb2 c17
   clear c17
   by_cases c18 : (wrap64 ((rd t648 x32_1) + (l0_0.length : Int))) ≥ (wrap64 ((l0_0.length : Int) + ((rd_L1 l0_0 0).length : Int)))
   rotate_left
   ·rw [if_neg c18] at H
    have c18b0 : decide ((wrap64 ((l0_0.length : Int) + ((rd_L1 l0_0 0).length : Int))) ≤ (wrap64 ((rd t648 x32_1) + (l0_0.length : Int)))) = false := decide_eq_false c18
    clear c18
    replace H := bindA H; obtain ⟨t657, A22, H⟩ := H
    have H' := Aside0.mk H
    clear H
    have p653 : 0 ≤ (x32_1 : Int) := odE
    have q653 : x32_1 < (t648.length : Int) := odE
    obtain ⟨ad653, e653, hx653_0⟩ := Kd.at_int (Kd.R_reads' HO_30.out).2.2 x32_1 p653 q653
    cases e653
    replace p653 := eq_true p653
    replace q653 := eq_true q653
    obtain ⟨Ao23, co23, eo23⟩ := Kd.R_slice HO_11.out
    subst eo23
    go_wp2_with (first | (go_at_call 71; (with_reducible refine (spec_l1Put.calls k1 (fun k_ => some k_ = (.slice Ao23 x11_1.length co23 : Value).ownBlock) (.slice Ao23 x11_1.length co23) x11_1 (wrap64 ((rd t648 x32_1) + (l0_0.length : Int))) t657 w _ ?side1 ?side2 A22.out).mono ?_); (case side1 => repeat (first | (with_reducible first | exact HB.out | apply below_alloc | apply pw_below_drewN | apply below_drew1 | refine below_set ?_ GE644.out) | exact HB.out)); (case side2 => exact Kd.R_tight rfl HO_11.out); rintro e w24 ⟨v658, rfl, ho0, hb, hkp⟩; replace BK644 := am (blk_kept (mvK BK644.out) hkp (fun hs_ => (fun e_ => (Kd.R_ne HO_11.out BK644.out (by decide)) e_) hs_)); have HO659 := am (Kd.R_mono (ok' := fun k_ => some k_ ≠ (.slice (some ad653) t648.length co13 : Value).ownBlock) ho0 (fun k_ hk_ => Or.elim hk_ (fun hs_ => fun e_ => (((HO_30.out).1 k_ e_.symm)) hs_) (fun hn_ => (Kd.fresh' (Kd.R_lt (mvR HO_30.out)) k_ hn_)))); replace HO_30 := am (Kd.R_mono (ok' := fun k_ => some k_ ≠ (v658 : Value).ownBlock) (Kd.R_keptB (HO_30.out) hkp (fun k_ hk_ hs_ => (hk_) hs_)) (fun k_ hk_ => fun e_ => Or.elim (ho0.1 k_ e_.symm) (fun hs_ => hk_.2.1 hs_) (fun hn_ => Nat.not_le.2 hk_.2.2 hn_))); replace HB := am (hb); clear HO_11; (try clear hb hkp ho0)))
    repeat (go_quiet (first | (go_at_call 71; (with_reducible refine (spec_l1Put.calls k1 (fun k_ => some k_ = (.slice Ao23 x11_1.length co23 : Value).ownBlock) (.slice Ao23 x11_1.length co23) x11_1 (wrap64 ((rd t648 x32_1) + (l0_0.length : Int))) t657 w _ ?side1 ?side2 A22.out).mono ?_); (case side1 => repeat (first | (with_reducible first | exact HB.out | apply below_alloc | apply pw_below_drewN | apply below_drew1 | refine below_set ?_ GE644.out) | exact HB.out)); (case side2 => exact Kd.R_tight rfl HO_11.out); rintro e w24 ⟨v658, rfl, ho0, hb, hkp⟩; replace BK644 := am (blk_kept (mvK BK644.out) hkp (fun hs_ => (fun e_ => (Kd.R_ne HO_11.out BK644.out (by decide)) e_) hs_)); have HO659 := am (Kd.R_mono (ok' := fun k_ => some k_ ≠ (.slice (some ad653) t648.length co13 : Value).ownBlock) ho0 (fun k_ hk_ => Or.elim hk_ (fun hs_ => fun e_ => (((HO_30.out).1 k_ e_.symm)) hs_) (fun hn_ => (Kd.fresh' (Kd.R_lt (mvR HO_30.out)) k_ hn_)))); replace HO_30 := am (Kd.R_mono (ok' := fun k_ => some k_ ≠ (v658 : Value).ownBlock) (Kd.R_keptB (HO_30.out) hkp (fun k_ hk_ hs_ => (hk_) hs_)) (fun k_ hk_ => fun e_ => Or.elim (ho0.1 k_ e_.symm) (fun hs_ => hk_.2.1 hs_) (fun hn_ => Nat.not_le.2 hk_.2.2 hn_))); replace HB := am (hb); clear HO_11; (try clear hb hkp ho0))); try go_wp2_with (first | (go_at_call 71; (with_reducible refine (spec_l1Put.calls k1 (fun k_ => some k_ = (.slice Ao23 x11_1.length co23 : Value).ownBlock) (.slice Ao23 x11_1.length co23) x11_1 (wrap64 ((rd t648 x32_1) + (l0_0.length : Int))) t657 w _ ?side1 ?side2 A22.out).mono ?_); (case side1 => repeat (first | (with_reducible first | exact HB.out | apply below_alloc | apply pw_below_drewN | apply below_drew1 | refine below_set ?_ GE644.out) | exact HB.out)); (case side2 => exact Kd.R_tight rfl HO_11.out); rintro e w24 ⟨v658, rfl, ho0, hb, hkp⟩; replace BK644 := am (blk_kept (mvK BK644.out) hkp (fun hs_ => (fun e_ => (Kd.R_ne HO_11.out BK644.out (by decide)) e_) hs_)); have HO659 := am (Kd.R_mono (ok' := fun k_ => some k_ ≠ (.slice (some ad653) t648.length co13 : Value).ownBlock) ho0 (fun k_ hk_ => Or.elim hk_ (fun hs_ => fun e_ => (((HO_30.out).1 k_ e_.symm)) hs_) (fun hn_ => (Kd.fresh' (Kd.R_lt (mvR HO_30.out)) k_ hn_)))); replace HO_30 := am (Kd.R_mono (ok' := fun k_ => some k_ ≠ (v658 : Value).ownBlock) (Kd.R_keptB (HO_30.out) hkp (fun k_ hk_ hs_ => (hk_) hs_)) (fun k_ hk_ => fun e_ => Or.elim (ho0.1 k_ e_.symm) (fun hs_ => hk_.2.1 hs_) (fun hn_ => Nat.not_le.2 hk_.2.2 hn_))); replace HB := am (hb); clear HO_11; (try clear hb hkp ho0))))
    go_roundg k1
    case measure => have := HK1.out; omega
    case rel => exact ⟨(t657), (wrap64 (x32_1 + 1)), eqF, H', ⟨by have := HK1.out; omega⟩, ⟨mvR HO659.out⟩, ⟨mvR HO_30.out⟩, ⟨mvK BK644.out⟩, ⟨mb HB.out⟩⟩
   rw [if_pos c18] at H
   have c18b0 : decide ((wrap64 ((l0_0.length : Int) + ((rd_L1 l0_0 0).length : Int))) ≤ (wrap64 ((rd t648 x32_1) + (l0_0.length : Int)))) = true := decide_eq_true c18
   clear c18
   replace H := bindA H; obtain ⟨t654, A19, H⟩ := H
   have H' := Aside0.mk H
   clear H
   have p653 : 0 ≤ (x32_1 : Int) := odE
   have q653 : x32_1 < (t648.length : Int) := odE
   obtain ⟨ad653, e653, hx653_0⟩ := Kd.at_int (Kd.R_reads' HO_30.out).2.2 x32_1 p653 q653
   cases e653
   replace p653 := eq_true p653
   replace q653 := eq_true q653
   obtain ⟨Ao20, co20, eo20⟩ := Kd.R_slice HO_11.out
   subst eo20
   go_wp2_with (first | (go_at_call 71; (with_reducible refine (spec_l1Put.calls k1 (fun k_ => some k_ = (.slice Ao20 x11_1.length co20 : Value).ownBlock) (.slice Ao20 x11_1.length co20) x11_1 (wrap64 ((wrap64 ((rd t648 x32_1) + (l0_0.length : Int))) - (wrap64 ((l0_0.length : Int) + ((rd_L1 l0_0 0).length : Int))))) t654 w _ ?side1 ?side2 A19.out).mono ?_); (case side1 => repeat (first | (with_reducible first | exact HB.out | apply below_alloc | apply pw_below_drewN | apply below_drew1 | refine below_set ?_ GE644.out) | exact HB.out)); (case side2 => exact Kd.R_tight rfl HO_11.out); rintro e w21 ⟨v655, rfl, ho0, hb, hkp⟩; replace BK644 := am (blk_kept (mvK BK644.out) hkp (fun hs_ => (fun e_ => (Kd.R_ne HO_11.out BK644.out (by decide)) e_) hs_)); have HO656 := am (Kd.R_mono (ok' := fun k_ => some k_ ≠ (.slice (some ad653) t648.length co13 : Value).ownBlock) ho0 (fun k_ hk_ => Or.elim hk_ (fun hs_ => fun e_ => (((HO_30.out).1 k_ e_.symm)) hs_) (fun hn_ => (Kd.fresh' (Kd.R_lt (mvR HO_30.out)) k_ hn_)))); replace HO_30 := am (Kd.R_mono (ok' := fun k_ => some k_ ≠ (v655 : Value).ownBlock) (Kd.R_keptB (HO_30.out) hkp (fun k_ hk_ hs_ => (hk_) hs_)) (fun k_ hk_ => fun e_ => Or.elim (ho0.1 k_ e_.symm) (fun hs_ => hk_.2.1 hs_) (fun hn_ => Nat.not_le.2 hk_.2.2 hn_))); replace HB := am (hb); clear HO_11; (try clear hb hkp ho0)))
   repeat (go_quiet (first | (go_at_call 71; (with_reducible refine (spec_l1Put.calls k1 (fun k_ => some k_ = (.slice Ao20 x11_1.length co20 : Value).ownBlock) (.slice Ao20 x11_1.length co20) x11_1 (wrap64 ((wrap64 ((rd t648 x32_1) + (l0_0.length : Int))) - (wrap64 ((l0_0.length : Int) + ((rd_L1 l0_0 0).length : Int))))) t654 w _ ?side1 ?side2 A19.out).mono ?_); (case side1 => repeat (first | (with_reducible first | exact HB.out | apply below_alloc | apply pw_below_drewN | apply below_drew1 | refine below_set ?_ GE644.out) | exact HB.out)); (case side2 => exact Kd.R_tight rfl HO_11.out); rintro e w21 ⟨v655, rfl, ho0, hb, hkp⟩; replace BK644 := am (blk_kept (mvK BK644.out) hkp (fun hs_ => (fun e_ => (Kd.R_ne HO_11.out BK644.out (by decide)) e_) hs_)); have HO656 := am (Kd.R_mono (ok' := fun k_ => some k_ ≠ (.slice (some ad653) t648.length co13 : Value).ownBlock) ho0 (fun k_ hk_ => Or.elim hk_ (fun hs_ => fun e_ => (((HO_30.out).1 k_ e_.symm)) hs_) (fun hn_ => (Kd.fresh' (Kd.R_lt (mvR HO_30.out)) k_ hn_)))); replace HO_30 := am (Kd.R_mono (ok' := fun k_ => some k_ ≠ (v655 : Value).ownBlock) (Kd.R_keptB (HO_30.out) hkp (fun k_ hk_ hs_ => (hk_) hs_)) (fun k_ hk_ => fun e_ => Or.elim (ho0.1 k_ e_.symm) (fun hs_ => hk_.2.1 hs_) (fun hn_ => Nat.not_le.2 hk_.2.2 hn_))); replace HB := am (hb); clear HO_11; (try clear hb hkp ho0))); try go_wp2_with (first | (go_at_call 71; (with_reducible refine (spec_l1Put.calls k1 (fun k_ => some k_ = (.slice Ao20 x11_1.length co20 : Value).ownBlock) (.slice Ao20 x11_1.length co20) x11_1 (wrap64 ((wrap64 ((rd t648 x32_1) + (l0_0.length : Int))) - (wrap64 ((l0_0.length : Int) + ((rd_L1 l0_0 0).length : Int))))) t654 w _ ?side1 ?side2 A19.out).mono ?_); (case side1 => repeat (first | (with_reducible first | exact HB.out | apply below_alloc | apply pw_below_drewN | apply below_drew1 | refine below_set ?_ GE644.out) | exact HB.out)); (case side2 => exact Kd.R_tight rfl HO_11.out); rintro e w21 ⟨v655, rfl, ho0, hb, hkp⟩; replace BK644 := am (blk_kept (mvK BK644.out) hkp (fun hs_ => (fun e_ => (Kd.R_ne HO_11.out BK644.out (by decide)) e_) hs_)); have HO656 := am (Kd.R_mono (ok' := fun k_ => some k_ ≠ (.slice (some ad653) t648.length co13 : Value).ownBlock) ho0 (fun k_ hk_ => Or.elim hk_ (fun hs_ => fun e_ => (((HO_30.out).1 k_ e_.symm)) hs_) (fun hn_ => (Kd.fresh' (Kd.R_lt (mvR HO_30.out)) k_ hn_)))); replace HO_30 := am (Kd.R_mono (ok' := fun k_ => some k_ ≠ (v655 : Value).ownBlock) (Kd.R_keptB (HO_30.out) hkp (fun k_ hk_ hs_ => (hk_) hs_)) (fun k_ hk_ => fun e_ => Or.elim (ho0.1 k_ e_.symm) (fun hs_ => hk_.2.1 hs_) (fun hn_ => Nat.not_le.2 hk_.2.2 hn_))); replace HB := am (hb); clear HO_11; (try clear hb hkp ho0))))
   go_roundg k1
   case measure => have := HK1.out; omega
   case rel => exact ⟨(t654), (wrap64 (x32_1 + 1)), eqF, H', ⟨by have := HK1.out; omega⟩, ⟨mvR HO656.out⟩, ⟨mvR HO_30.out⟩, ⟨mvK BK644.out⟩, ⟨mb HB.out⟩⟩
end Go.Proofs.Ytggiicplcglalaa.All
