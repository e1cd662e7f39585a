/- Part of the proof that the law FnExactCornersOf answers true for all arguments. -/
import Derived.Test.YtggiicplcglalaaQC8
namespace Go.Proofs.Ytggiicplcglalaa.All
open Go.RowKit Go.Proofs.YtggiicplcglalaaW.PrintWords Go.Proofs.YtggiicplcglalaaW.PrintLast Go.Proofs.YtggiicplcglalaaW.PrintMore
attribute [local go_sem] max2_int min2_int max_two min_two max_three min_three max_four min_four
set_option linter.unusedVariables false
set_option linter.unusedSimpArgs false
def spec_gmPut.l0 : Nat → List (List Int) → List Int → Int → Option ((List (List Int)))
 | 0, _, _, _ => none
 | k + 1, x0, x1, x5 => if x5 < (x0.length : Int) then (if 0 ≤ x5 then ((spec_gmLess.f k (rd_L1 x0 x5) x1).bind fun t170 => (if t170 = true then (spec_gmPut.l0 k x0 x1 (wrap64 (x5 + 1))) else ((spec_l1Same.f k (rd_L1 x0 x5) x1).bind fun t172 => (if t172 = true then (some x0) else ((some (([] : List (List Int)) : List (List Int))).bind fun y173 => (if x5 ≤ (x0.length : Int) then ((some (x0.take (x5 : Int).toNat : List (List Int))).bind fun y176 => (if y173.length + y176.length < 5864062014805 then ((some (y173 ++ y176 : List (List Int))).bind fun y181 => (if y181.length < 5864062014805 then ((some (y181 ++ [x1] : List (List Int))).bind fun y184 => ((some (x0.drop (x5 : Int).toNat : List (List Int))).bind fun y187 => (if y184.length + y187.length < 5864062014805 then (some (y184 ++ y187)) else (none)))) else (none))) else (none))) else (none))))))) else (none)) else ((some (([] : List (List Int)) : List (List Int))).bind fun y195 => (if 0 ≤ x5 then (if x5 ≤ (x0.length : Int) then ((some (x0.take (x5 : Int).toNat : List (List Int))).bind fun y198 => (if y195.length + y198.length < 5864062014805 then ((some (y195 ++ y198 : List (List Int))).bind fun y203 => (if y203.length < 5864062014805 then ((some (y203 ++ [x1] : List (List Int))).bind fun y206 => ((some (x0.drop (x5 : Int).toNat : List (List Int))).bind fun y209 => (if y206.length + y209.length < 5864062014805 then (some (y206 ++ y209)) else (none)))) else (none))) else (none))) else (none)) else (none)))
def spec_gmPut.f (k : Nat) (l0 : List (List Int)) (l1 : List Int) : Option ((List (List Int))) := spec_gmPut.l0 k l0 l1 0
theorem spec_gmPut.mono_l : ∀ k, (∀ y0 y1 y2, LeO (spec_gmPut.l0 k y0 y1 y2) (spec_gmPut.l0 (k + 1) y0 y1 y2))
 | 0 => fun _ _ _ r h => by simp [spec_gmPut.l0] at h
 | k + 1 => by
  have ih0 := spec_gmPut.mono_l k
  ·intro y0 y1 y2
   unfold spec_gmPut.l0
   repeat' first
   | (with_reducible exact ih0 ..)
   | (with_reducible exact spec_gmLess.mono ..)
   | (with_reducible exact spec_l1Same.mono ..)
   | (with_reducible exact LeO.refl _)
   | (with_reducible exact LeO.none _)
   | (with_reducible refine LeO.ite ?_ ?_)
   | (with_reducible refine LeO.bind ?_ (fun _ => ?_))
theorem spec_gmPut.mono : ∀ a0 a1 k, LeO (spec_gmPut.f k a0 a1) (spec_gmPut.f (k + 1) a0 a1) := by
 intro a0 a1 k
 have ih0 := spec_gmPut.mono_l k
 unfold spec_gmPut.f
 repeat' first
   | (with_reducible exact ih0 ..)
   | (with_reducible exact spec_gmLess.mono ..)
   | (with_reducible exact spec_l1Same.mono ..)
   | (with_reducible exact LeO.refl _)
   | (with_reducible exact LeO.none _)
   | (with_reducible refine LeO.ite ?_ ?_)
   | (with_reducible refine LeO.bind ?_ (fun _ => ?_))
set_option maxHeartbeats 8000000 in
set_option maxRecDepth 100000 in
theorem spec_gmPut.calls (k : Nat) (P0_ : Nat → Prop) (A0 : Option Addr) (c0 : Nat) (l0 : List (List Int)) (P1_ : Nat → Prop) (A1 : Option Addr) (c1 : Nat) (l1 : List Int) (r : List (List Int)) (w : World) (hs0 : Kd.V (Kd.slice 3 (Kd.int .i64)) 38 w w.heap.size (fun k_ => P0_ k_) (.slice A0 l0.length c0) l0) (hs1 : Kd.V (Kd.int .i64) 3 w w.heap.size (fun k_ => P1_ k_) (.slice A1 l1.length c1) l1) (h : spec_gmPut.f k l0 l1 = some r) :
  Calls Try.prog 50 #[.slice A0 l0.length c0, .slice A1 l1.length c1] w fun e w' => ∃ v0_ : Value, e = .returned (v0_) ∧ Kd.V (Kd.slice 3 (Kd.int .i64)) 38 w' w.heap.size (fun k_ => ((P0_ k_ ∨ P1_ k_) ∨ w.heap.size ≤ k_)) v0_ r ∧ Below w.heap.size w w' := by
 have HO0 := Aside0.mk (show Kd.V (Kd.slice 3 (Kd.int .i64)) 38 w w.heap.size (fun k_ => ((P0_ k_ ∨ P1_ k_) ∨ w.heap.size ≤ k_)) (.slice A0 l0.length c0) l0 from Kd.V_mono hs0 (fun k_ hk => .inl (.inl hk)))
 have HO1 := Aside0.mk (show Kd.V (Kd.int .i64) 3 w w.heap.size (fun k_ => ((P0_ k_ ∨ P1_ k_) ∨ w.heap.size ≤ k_)) (.slice A1 l1.length c1) l1 from Kd.V_mono hs1 (fun k_ hk => .inl (.inr hk)))
 have HB := Aside0.mk (Below.refl w.heap.size w)
 have H : (spec_gmPut.l0 k l0 l1 0) = some r := h
 clear h
 have H' := Aside0.mk H
 clear H
 go_enter Try.func50, Try.ntmps50
 go_wp2
 go_loopg [5] k (fun kq v5 w' => ∃ (x5_1 : Int), v5 = .int .i64 x5_1 ∧ Aside0 (spec_gmPut.l0 kq l0 l1 x5_1 = some r) ∧ Aside0 (kq ≤ k) ∧ Aside0 (Kd.V (Kd.slice 3 (Kd.int .i64)) 38 w' w.heap.size (fun k_ => ((P0_ k_ ∨ P1_ k_) ∨ w.heap.size ≤ k_)) (.slice A0 l0.length c0) l0) ∧ Aside0 (Kd.V (Kd.int .i64) 3 w' w.heap.size (fun k_ => ((P0_ k_ ∨ P1_ k_) ∨ w.heap.size ≤ k_)) (.slice A1 l1.length c1) l1) ∧ Aside0 (Below w.heap.size w w'))
 case atStart => exact ⟨(0), eqF, H', ⟨Nat.le_refl _⟩, ⟨mvV HO0.out⟩, ⟨mvV HO1.out⟩, ⟨mb HB.out⟩⟩
 case round =>
  clear H'
  obtain ⟨x5_1, rfl, HA, HK1, HO_0, HO_1, HB⟩ := hrel
  cases gk with
  | zero => exact absurd HA.out (by simp [spec_gmPut.l0])
  | succ k1 =>
   have H := HA.out
   clear HA
   simp only [spec_gmPut.l0] at H
   by_cases c3 : x5_1 < (l0.length : Int)
   rotate_left
   ·rw [if_neg c3] at H
    have c3b0 := decide_eq_false c3
    clear c3
    replace H := nameA (([] : List (List Int))) (fun y195 => (if 0 ≤ x5_1 then (if x5_1 ≤ (l0.length : Int) then ((some (l0.take (x5_1 : Int).toNat : List (List Int))).bind fun y198 => (if y195.length + y198.length < 5864062014805 then ((some (y195 ++ y198 : List (List Int))).bind fun y203 => (if y203.length < 5864062014805 then ((some (y203 ++ [l1] : List (List Int))).bind fun y206 => ((some (l0.drop (x5_1 : Int).toNat : List (List Int))).bind fun y209 => (if y206.length + y209.length < 5864062014805 then (some (y206 ++ y209)) else (none)))) else (none))) else (none))) else (none)) else (none)) = some r) H; obtain ⟨y195, Ny195, H⟩ := H
    by_cases c23 : 0 ≤ x5_1
    rotate_left
    ·rw [if_neg c23] at H
     exact absurd H (by simp)
    rw [if_pos c23] at H
    have c23b0 := eq_true c23
    have c23b1 := decide_eq_true c23
    clear c23
    replace H := ifP H; obtain ⟨c24, H⟩ := H
    have c24b0 := eq_true c24
    have c24b1 := decide_eq_true c24
    clear c24
    replace H := nameA (l0.take (x5_1 : Int).toNat) (fun y198 => (if y195.length + y198.length < 5864062014805 then ((some (y195 ++ y198 : List (List Int))).bind fun y203 => (if y203.length < 5864062014805 then ((some (y203 ++ [l1] : List (List Int))).bind fun y206 => ((some (l0.drop (x5_1 : Int).toNat : List (List Int))).bind fun y209 => (if y206.length + y209.length < 5864062014805 then (some (y206 ++ y209)) else (none)))) else (none))) else (none)) = some r) H; obtain ⟨y198, Ny198, H⟩ := H
    replace H := ifA H; obtain ⟨LMc25, H⟩ := H
    replace H := nameA (y195 ++ y198) (fun y203 => (if y203.length < 5864062014805 then ((some (y203 ++ [l1] : List (List Int))).bind fun y206 => ((some (l0.drop (x5_1 : Int).toNat : List (List Int))).bind fun y209 => (if y206.length + y209.length < 5864062014805 then (some (y206 ++ y209)) else (none)))) else (none)) = some r) H; obtain ⟨y203, Ny203, H⟩ := H
    replace H := ifA H; obtain ⟨LMc26, H⟩ := H
    replace H := nameA (y203 ++ [l1]) (fun y206 => ((some (l0.drop (x5_1 : Int).toNat : List (List Int))).bind fun y209 => (if y206.length + y209.length < 5864062014805 then (some (y206 ++ y209)) else (none))) = some r) H; obtain ⟨y206, Ny206, H⟩ := H
    have c27b0 := eq_true (odE : 0 ≤ x5_1)
    have c28b0 := eq_true (odE : x5_1 ≤ (l0.length : Int))
    replace H := nameA (l0.drop (x5_1 : Int).toNat) (fun y209 => (if y206.length + y209.length < 5864062014805 then (some (y206 ++ y209)) else (none)) = some r) H; obtain ⟨y209, Ny209, H⟩ := H
    replace H := ifA H; obtain ⟨LMc29, H⟩ := H
    replace H := nameA (y206 ++ y209) (fun y214 => (some y214) = some r) H; obtain ⟨y214, Ny214, H⟩ := H
    obtain rfl := Option.some.inj H
    go_wp2_with (first | ((with_reducible refine gate_dst (N := 34) rfl ?_); refine Kd.N_lit (Kd.slice 3 (Kd.int .i64)) _ 38 ?hg (N' := 34) ?hd (xs := ([] : List (List Int))) (inner := []) (ok := (fun k_ => ((P0_ k_ ∨ P1_ k_) ∨ w.heap.size ≤ k_))) (okp := (fun k_ => ((P0_ k_ ∨ P1_ k_) ∨ w.heap.size ≤ k_))) ?hr ?hp (fun _ hk => hk) ((show ∀ k_, wr.heap.size ≤ k_ → (fun k_ => ((P0_ k_ ∨ P1_ k_) ∨ w.heap.size ≤ k_)) k_ from fun k_ hk => (.inr (Nat.le_trans (below_size (mb HB.out)) hk))) _ (Nat.le_refl _)) (Below.refl _ _) (Nat.le_refl _) (by simp) ?_; (case hd => rfl); (case hg => rfl); (case hr => first | (go_simp; done) | (go_simp; rfl)); (case hp => exact (Reps.none _ _)); intro v196 w30 ho31 hb hg_ hnew_; clear hg_ hnew_; (first | rw [← Ny195.out] at ho31 | (simp only [Int.reduceToNat] at ho31; rw [← Ny195.out] at ho31)); replace HO_0 := am (Kd.V_elder' (mvV HO_0.out) (Kd.N_base ho31) hb); replace HO_1 := am (Kd.V_elder' (mvV HO_1.out) (Kd.N_base ho31) hb); have HO197 := am (Kd.N_lower ho31 (below_size (mb HB.out))); replace HB := am (below_step (mb HB.out) hb); clear hb ho31; have q32 : (x5_1 : Int) ≤ ((l0.length : Int) : Int) := odE; obtain ⟨i032, hi032, _, hsz32, _⟩ := info_parts info38; have hroom32 : l0.length ≤ c0 := (Kd.V_reads' HO_0.out).2.1; have hC32 : Kd.F (Kd.slice 3 (Kd.int .i64)) _ _ A0 l0.length l0 := (Kd.V_at (base := w.heap.size) HO_0.out).2.2; have hcut32 := cut_to (P := Try.prog) 22 38 .i64 Try.underlying22 hi032 A0 l0.length c0 x5_1 (odE) q32 hroom32; have hr32 := Kd.F_take (m := (x5_1 : Int).toNat) hC32 (by omega); have hy32 : y198.length = (x5_1 : Int).toNat := (by rw [Ny198.out, List.length_take]; omega); rw [← Ny198.out] at hr32; rw [← hy32] at hcut32; have HO202 := Aside0.mk (show Kd.V (Kd.slice 3 (Kd.int .i64)) 38 _ w.heap.size _ (.slice A0 y198.length c0) y198 from Kd.V_mk (by omega) hr32); have HC202 := Aside0.mk (show y198.length ≤ c0 from by omega); clear hr32 hC32 hroom32 hi032 hsz32; have KY32 := Aside0.mk hy32; clear hy32; replace q32 := eq_true q32) | ((with_reducible refine gate_builtin (b := .append) (xs := #[.tmp 34, .tmp 37]) rfl ?_); at_builtin; refine Kd.N_append_rows (Kd.slice 3 (Kd.int .i64)) (w0 := w) w.heap.size rfl (.tmp 34) (.tmp 37) 22 38 (.slice none 0 0) 24 rfl Try.underlying22 info38 rfl (by decide) (by omega) v196 y195 y198 _ _ _ (fun k_ => ((P0_ k_ ∨ P1_ k_) ∨ w.heap.size ≤ k_)) (fun k_ => ((fun k_ => ((P0_ k_ ∨ P1_ k_) ∨ w.heap.size ≤ k_))) k_ ∧ some k_ ≠ (v196 : Value).ownBlock) rfl rfl ?aO ?aR (fun _ hk => hk) ?aF ?aB ?aS ?aL ?_; (case aR => exact (by skip; exact Kd.V_F (Kd.V_mono (ok' := (fun k_ => ((fun k_ => ((P0_ k_ ∨ P1_ k_) ∨ w.heap.size ≤ k_))) k_ ∧ some k_ ≠ (v196 : Value).ownBlock)) (HO202.out) (fun k_ hk => ⟨hk.1, hk.2⟩)))); (case aB => exact (mb HB.out)); (case aF => exact (fun k_ hk => (.inr (Nat.le_trans (below_size (mb HB.out)) hk)))); (case aO => exact (mvN HO197.out)); (case aS => exact (below_size (mb HB.out))); (case aL => have := LMc25.out; omega); intro v204 w33 ho hb hg hat; rw [← Ny203.out] at ho; replace HO_0 := am (Kd.V_afterv (ok := (fun k_ => ((P0_ k_ ∨ P1_ k_) ∨ w.heap.size ≤ k_))) (mvV HO_0.out) hg hat); replace HO_1 := am (Kd.V_afterv (ok := (fun k_ => ((P0_ k_ ∨ P1_ k_) ∨ w.heap.size ≤ k_))) (mvV HO_1.out) hg hat); replace HO202 := am (Kd.V_afterv (ok := (fun k_ => ((P0_ k_ ∨ P1_ k_) ∨ w.heap.size ≤ k_))) (mvV HO202.out) hg hat); replace HB := am (hb); have HO205 := am (ho); clear HO197; clear ho hb hg hat) | ((with_reducible refine gate_builtin (b := .append) (xs := #[.tmp 38, .tmp 40]) rfl ?_); at_builtin; refine Kd.N_append (Kd.slice 3 (Kd.int .i64)) (w0 := w) w.heap.size rfl (.tmp 38) (.tmp 40) 22 38 (.slice none 0 0) 24 rfl Try.underlying22 info38 rfl (by decide) (by omega) v204 y203 l1 [.slice A1 l1.length c1] (fun k_ => ((P0_ k_ ∨ P1_ k_) ∨ w.heap.size ≤ k_)) (fun k_ => ((fun k_ => ((P0_ k_ ∨ P1_ k_) ∨ w.heap.size ≤ k_))) k_ ∧ some k_ ≠ (v204 : Value).ownBlock) rfl rfl ?aP (fun _ hk => hk) ?aF ?aO ?aB ?aS ?aL ?_; (case aP => exact (Kd.FK_slice_mk (Kd.V_reads' (Kd.V_mono (ok' := (fun k_ => ((fun k_ => ((P0_ k_ ∨ P1_ k_) ∨ w.heap.size ≤ k_))) k_ ∧ some k_ ≠ (v204 : Value).ownBlock)) (HO_1.out) (fun k_ hk => ⟨hk.1, hk.2⟩))).2.1 (Kd.V_F (Kd.V_mono (ok' := (fun k_ => ((fun k_ => ((P0_ k_ ∨ P1_ k_) ∨ w.heap.size ≤ k_))) k_ ∧ some k_ ≠ (v204 : Value).ownBlock)) (HO_1.out) (fun k_ hk => ⟨hk.1, hk.2⟩))))); (case aB => exact (mb HB.out)); (case aF => exact (fun k_ hk => (.inr (Nat.le_trans (below_size (mb HB.out)) hk)))); (case aO => exact (mvN HO205.out)); (case aS => exact (below_size (mb HB.out))); (case aL => have := LMc26.out; omega); intro v207 w34 ho hb hg hat; rw [← Ny206.out] at ho; replace HO_0 := am (Kd.V_afterv (ok := (fun k_ => ((P0_ k_ ∨ P1_ k_) ∨ w.heap.size ≤ k_))) (mvV HO_0.out) hg hat); replace HO_1 := am (Kd.V_afterv (ok := (fun k_ => ((P0_ k_ ∨ P1_ k_) ∨ w.heap.size ≤ k_))) (mvV HO_1.out) hg hat); replace HO202 := am (Kd.V_afterv (ok := (fun k_ => ((P0_ k_ ∨ P1_ k_) ∨ w.heap.size ≤ k_))) (mvV HO202.out) hg hat); replace HB := am (hb); have HO208 := am (ho); clear HO205; clear ho hb hg hat; have q35 : (x5_1 : Int) ≤ ((l0.length : Int) : Int) := odE; obtain ⟨i035, hi035, _, hsz35, _⟩ := info_parts info38; have hroom35 : l0.length ≤ c0 := (Kd.V_reads' HO_0.out).2.1; have hC35 : Kd.F (Kd.slice 3 (Kd.int .i64)) _ _ A0 l0.length l0 := (Kd.V_at (base := w.heap.size) HO_0.out).2.2; have q035 : (0 : Int) ≤ (x5_1 : Int) := odE; have hcut35 := cut_from (P := Try.prog) 22 38 .i64 Try.underlying22 hi035 1 hsz35 A0 l0.length c0 x5_1 q035 q35; have hr35 := Kd.F_cut (m := (x5_1 : Int).toNat) (c := c0) hC35 (by omega) hroom35; obtain ⟨A35, hA35⟩ : ∃ A1, A1 = (if c0 = (x5_1 : Int).toNat then A0 else (A0 : Option Addr).map (·.add ((x5_1 : Int).toNat * 1))) := ⟨_, rfl⟩; obtain ⟨c35, hc35⟩ : ∃ c1, c1 = c0 - (x5_1 : Int).toNat := ⟨_, rfl⟩; have hy35 : y209.length = l0.length - (x5_1 : Int).toNat := (by rw [Ny209.out, List.length_drop] <;> omega); rw [show (l0).drop (x5_1 : Int).toNat = y209 from Ny209.out.symm] at hr35; replace hr35 : Kd.F (Kd.slice 3 (Kd.int .i64)) _ _ A35 y209.length y209 := (by rw [hA35]; exact hr35); rw [← hy35, ← hA35, ← hc35] at hcut35; have HO213 := Aside0.mk (show Kd.V (Kd.slice 3 (Kd.int .i64)) 38 _ w.heap.size _ (.slice A35 y209.length c35) y209 from Kd.V_mk (by rw [hy35, hc35]; exact Nat.sub_le_sub_right hroom35 _) hr35); have HC213 := Aside0.mk (show y209.length ≤ c35 from by rw [hy35, hc35]; exact Nat.sub_le_sub_right hroom35 _); clear hr35 hC35 hroom35 hi035 hsz35 hc35; have KY35 := Aside0.mk hy35; have KA35 := Aside0.mk hA35; clear hy35 hA35; replace q35 := eq_true q35) | ((with_reducible refine gate_builtin (b := .append) (xs := #[.tmp 42, .tmp 45]) rfl ?_); at_builtin; refine Kd.N_append_rows (Kd.slice 3 (Kd.int .i64)) (w0 := w) w.heap.size rfl (.tmp 42) (.tmp 45) 22 38 (.slice none 0 0) 24 rfl Try.underlying22 info38 rfl (by decide) (by omega) v207 y206 y209 _ _ _ (fun k_ => ((P0_ k_ ∨ P1_ k_) ∨ w.heap.size ≤ k_)) (fun k_ => ((fun k_ => ((P0_ k_ ∨ P1_ k_) ∨ w.heap.size ≤ k_))) k_ ∧ some k_ ≠ (v207 : Value).ownBlock) rfl rfl ?aO ?aR (fun _ hk => hk) ?aF ?aB ?aS ?aL ?_; (case aR => exact (by skip; exact Kd.V_F (Kd.V_mono (ok' := (fun k_ => ((fun k_ => ((P0_ k_ ∨ P1_ k_) ∨ w.heap.size ≤ k_))) k_ ∧ some k_ ≠ (v207 : Value).ownBlock)) (HO213.out) (fun k_ hk => ⟨hk.1, hk.2⟩)))); (case aB => exact (mb HB.out)); (case aF => exact (fun k_ hk => (.inr (Nat.le_trans (below_size (mb HB.out)) hk)))); (case aO => exact (mvN HO208.out)); (case aS => exact (below_size (mb HB.out))); (case aL => have := LMc29.out; omega); intro v215 w36 ho hb hg hat; rw [← Ny214.out] at ho; replace HO_0 := am (Kd.V_afterv (ok := (fun k_ => ((P0_ k_ ∨ P1_ k_) ∨ w.heap.size ≤ k_))) (mvV HO_0.out) hg hat); replace HO_1 := am (Kd.V_afterv (ok := (fun k_ => ((P0_ k_ ∨ P1_ k_) ∨ w.heap.size ≤ k_))) (mvV HO_1.out) hg hat); replace HO202 := am (Kd.V_afterv (ok := (fun k_ => ((P0_ k_ ∨ P1_ k_) ∨ w.heap.size ≤ k_))) (mvV HO202.out) hg hat); replace HO213 := am (Kd.V_afterv (ok := (fun k_ => ((P0_ k_ ∨ P1_ k_) ∨ w.heap.size ≤ k_))) (mvV HO213.out) hg hat); replace HB := am (hb); have HO216 := am (ho); clear HO208; clear ho hb hg hat))
    go_ret
    exact ⟨_, eqE, Kd.N_V (mvN HO216.out), mb HB.out⟩
   rw [if_pos c3] at H
   have c3b0 := decide_eq_true c3
   clear c3
   replace H := ifD H; obtain ⟨c4b0, H⟩ := H
   replace H := bindA H; obtain ⟨t170, A5, H⟩ := H
   by_cases c6 : t170 = true
   ·subst c6
    replace H := ifT H
    have H' := Aside0.mk H
    clear H
    have p169 : 0 ≤ (x5_1 : Int) := odE
    have q169 : x5_1 < (l0.length : Int) := odE
    obtain ⟨ad169, A169_0, c169_0, e169, hx169_0, hl169_0, hi169_0⟩ := at_L1 (Kd.V_reads' HO_0.out).2.2 x5_1 p169 q169
    cases e169
    obtain ⟨ce169, hce169, hMe169, hcc169⟩ := Kd.V_get HO_0.out [] x5_1 p169 (by first | exact q169 | exact odE | (have e_ := (Kd.V_reads' HO_0.out).1; omega))
    obtain ⟨ua169_0, uc169_0, rfl, ul169_0, ge169_0⟩ := Kd.FK_slice_open hMe169
    have hv169_0 := hcc169 0 _ rfl
    rw [Nat.add_zero, show ((Kd.slice 3 (Kd.int .i64))).sz = 1 from rfl, Nat.mul_one] at hv169_0
    replace hv169_0 := Option.some.inj (hv169_0.symm.trans hx169_0)
    injection hv169_0 with hva_ hvn_ hvc_
    rw [hva_] at ge169_0
    rw [hvc_] at ul169_0
    have HL169_0 := Aside0.mk (show Kd.V (Kd.int .i64) 3 _ w.heap.size _ _ (rd_L1 l0 x5_1) from Kd.V_mk ul169_0 ge169_0)
    clear hva_ hvn_ hvc_ ge169_0 ul169_0
    clear hcc169 hce169
    have HR169_0 := Aside0.mk hi169_0
    have HC169_0 := Aside0.mk hl169_0
    clear hi169_0 hl169_0
    replace p169 := eq_true p169
    replace q169 := eq_true q169
    go_wp2_with (first | (go_at_call 75; (with_reducible refine (spec_gmLess.calls k1 _ _ (rd_L1 l0 x5_1) _ _ l1 true _ ?side1 ?side2 ?side3 ?side4 A5.out).mono ?_); (case side1 => repeat (first | exact (by repeat (first | (with_reducible exact HR169_0.out) | (with_reducible refine Kd.C_alloc ?_ _) | (with_reducible refine Kd.C_drewN ?_ _) | (with_reducible refine Kd.C_drew ?_) | exact HR169_0.out)) | (with_reducible refine Kd.C_alloc ?_ _) | (with_reducible refine Kd.C_drewN ?_ _) | (with_reducible refine Kd.C_drew ?_))); (case side2 => exact HC169_0.out); (case side3 => repeat (first | exact (Kd.V_reads' HO_1.out).2.2 | (with_reducible refine Kd.C_alloc ?_ _) | (with_reducible refine Kd.C_drewN ?_ _) | (with_reducible refine Kd.C_drew ?_))); (case side4 => exact (Kd.V_reads' HO_1.out).2.1); rintro e w' ⟨rfl, ⟨nd, rfl⟩⟩))
    go_roundg k1
    case measure => have := HK1.out; omega
    case rel => exact ⟨(wrap64 (x5_1 + 1)), eqF, H', ⟨by have := HK1.out; omega⟩, ⟨mvV HO_0.out⟩, ⟨mvV HO_1.out⟩, ⟨mb HB.out⟩⟩
   replace c6 := Bool.eq_false_iff.mpr c6
   subst c6
   replace H := ifF H
   replace H := bindA H; obtain ⟨t172, A7, H⟩ := H
   by_cases c8 : t172 = true
   ·subst c8
    replace H := ifT H
    obtain rfl := Option.some.inj H
    have p169 : 0 ≤ (x5_1 : Int) := odE
    have q169 : x5_1 < (l0.length : Int) := odE
    obtain ⟨ad169, A169_0, c169_0, e169, hx169_0, hl169_0, hi169_0⟩ := at_L1 (Kd.V_reads' HO_0.out).2.2 x5_1 p169 q169
    cases e169
    obtain ⟨ce169, hce169, hMe169, hcc169⟩ := Kd.V_get HO_0.out [] x5_1 p169 (by first | exact q169 | exact odE | (have e_ := (Kd.V_reads' HO_0.out).1; omega))
    obtain ⟨ua169_0, uc169_0, rfl, ul169_0, ge169_0⟩ := Kd.FK_slice_open hMe169
    have hv169_0 := hcc169 0 _ rfl
    rw [Nat.add_zero, show ((Kd.slice 3 (Kd.int .i64))).sz = 1 from rfl, Nat.mul_one] at hv169_0
    replace hv169_0 := Option.some.inj (hv169_0.symm.trans hx169_0)
    injection hv169_0 with hva_ hvn_ hvc_
    rw [hva_] at ge169_0
    rw [hvc_] at ul169_0
    have HL169_0 := Aside0.mk (show Kd.V (Kd.int .i64) 3 _ w.heap.size _ _ (rd_L1 l0 x5_1) from Kd.V_mk ul169_0 ge169_0)
    clear hva_ hvn_ hvc_ ge169_0 ul169_0
    clear hcc169 hce169
    have HR169_0 := Aside0.mk hi169_0
    have HC169_0 := Aside0.mk hl169_0
    clear hi169_0 hl169_0
    replace p169 := eq_true p169
    replace q169 := eq_true q169
    go_wp2_with (first | (go_at_call 75; (with_reducible refine (spec_gmLess.calls k1 _ _ (rd_L1 l0 x5_1) _ _ l1 false _ ?side1 ?side2 ?side3 ?side4 A5.out).mono ?_); (case side1 => repeat (first | exact (by repeat (first | (with_reducible exact HR169_0.out) | (with_reducible refine Kd.C_alloc ?_ _) | (with_reducible refine Kd.C_drewN ?_ _) | (with_reducible refine Kd.C_drew ?_) | exact HR169_0.out)) | (with_reducible refine Kd.C_alloc ?_ _) | (with_reducible refine Kd.C_drewN ?_ _) | (with_reducible refine Kd.C_drew ?_))); (case side2 => exact HC169_0.out); (case side3 => repeat (first | exact (Kd.V_reads' HO_1.out).2.2 | (with_reducible refine Kd.C_alloc ?_ _) | (with_reducible refine Kd.C_drewN ?_ _) | (with_reducible refine Kd.C_drew ?_))); (case side4 => exact (Kd.V_reads' HO_1.out).2.1); rintro e w' ⟨rfl, ⟨nd, rfl⟩⟩; have p171 : 0 ≤ (x5_1 : Int) := odE; have q171 : x5_1 < (l0.length : Int) := odE; obtain ⟨ad171, A171_0, c171_0, e171, hx171_0, hl171_0, hi171_0⟩ := at_L1 (Kd.V_reads' HO_0.out).2.2 x5_1 p171 q171; obtain rfl : ad169 = ad171 := (by injection e171); obtain ⟨ce171, hce171, hMe171, hcc171⟩ := Kd.V_get HO_0.out [] x5_1 p171 (by first | exact q171 | exact odE | (have e_ := (Kd.V_reads' HO_0.out).1; omega)); obtain ⟨ua171_0, uc171_0, rfl, ul171_0, ge171_0⟩ := Kd.FK_slice_open hMe171; have hv171_0 := hcc171 0 _ rfl; rw [Nat.add_zero, show ((Kd.slice 3 (Kd.int .i64))).sz = 1 from rfl, Nat.mul_one] at hv171_0; replace hv171_0 := Option.some.inj (hv171_0.symm.trans hx171_0); injection hv171_0 with hva_ hvn_ hvc_; rw [hva_] at ge171_0; rw [hvc_] at ul171_0; have HL171_0 := Aside0.mk (show Kd.V (Kd.int .i64) 3 _ w.heap.size _ _ (rd_L1 l0 x5_1) from Kd.V_mk ul171_0 ge171_0); clear hva_ hvn_ hvc_ ge171_0 ul171_0; clear hcc171 hce171; have HR171_0 := Aside0.mk hi171_0; have HC171_0 := Aside0.mk hl171_0; clear hi171_0 hl171_0; replace p171 := eq_true p171; replace q171 := eq_true q171; have ea_ := Option.some.inj (hx169_0.symm.trans hx171_0); injection ea_ with ea_ en_ ec_; subst ea_; subst ec_; clear en_) | (go_at_call 35; (with_reducible refine (spec_l1Same.calls k1 _ _ (rd_L1 l0 x5_1) _ _ l1 true _ ?side1 ?side2 ?side3 ?side4 A7.out).mono ?_); (case side1 => repeat (first | exact (by repeat (first | (with_reducible exact HR171_0.out) | (with_reducible refine Kd.C_alloc ?_ _) | (with_reducible refine Kd.C_drewN ?_ _) | (with_reducible refine Kd.C_drew ?_) | exact HR171_0.out)) | (with_reducible refine Kd.C_alloc ?_ _) | (with_reducible refine Kd.C_drewN ?_ _) | (with_reducible refine Kd.C_drew ?_))); (case side2 => exact HC171_0.out); (case side3 => repeat (first | exact (Kd.V_reads' HO_1.out).2.2 | (with_reducible refine Kd.C_alloc ?_ _) | (with_reducible refine Kd.C_drewN ?_ _) | (with_reducible refine Kd.C_drew ?_))); (case side4 => exact (Kd.V_reads' HO_1.out).2.1); rintro e w' ⟨rfl, ⟨nd, rfl⟩⟩))
    go_ret
    exact ⟨_, eqE, mvV HO_0.out, mb HB.out⟩
   replace c8 := Bool.eq_false_iff.mpr c8
   subst c8
   replace H := ifF H
   replace H := nameA (([] : List (List Int))) (fun y173 => (if x5_1 ≤ (l0.length : Int) then ((some (l0.take (x5_1 : Int).toNat : List (List Int))).bind fun y176 => (if y173.length + y176.length < 5864062014805 then ((some (y173 ++ y176 : List (List Int))).bind fun y181 => (if y181.length < 5864062014805 then ((some (y181 ++ [l1] : List (List Int))).bind fun y184 => ((some (l0.drop (x5_1 : Int).toNat : List (List Int))).bind fun y187 => (if y184.length + y187.length < 5864062014805 then (some (y184 ++ y187)) else (none)))) else (none))) else (none))) else (none)) = some r) H; obtain ⟨y173, Ny173, H⟩ := H
   have c9b0 := eq_true (odE : 0 ≤ x5_1)
   replace H := ifP H; obtain ⟨c10, H⟩ := H
   have c10b0 := eq_true c10
   have c10b1 := decide_eq_true c10
   clear c10
   replace H := nameA (l0.take (x5_1 : Int).toNat) (fun y176 => (if y173.length + y176.length < 5864062014805 then ((some (y173 ++ y176 : List (List Int))).bind fun y181 => (if y181.length < 5864062014805 then ((some (y181 ++ [l1] : List (List Int))).bind fun y184 => ((some (l0.drop (x5_1 : Int).toNat : List (List Int))).bind fun y187 => (if y184.length + y187.length < 5864062014805 then (some (y184 ++ y187)) else (none)))) else (none))) else (none)) = some r) H; obtain ⟨y176, Ny176, H⟩ := H
   replace H := ifA H; obtain ⟨LMc11, H⟩ := H
   replace H := nameA (y173 ++ y176) (fun y181 => (if y181.length < 5864062014805 then ((some (y181 ++ [l1] : List (List Int))).bind fun y184 => ((some (l0.drop (x5_1 : Int).toNat : List (List Int))).bind fun y187 => (if y184.length + y187.length < 5864062014805 then (some (y184 ++ y187)) else (none)))) else (none)) = some r) H; obtain ⟨y181, Ny181, H⟩ := H
   replace H := ifA H; obtain ⟨LMc12, H⟩ := H
   replace H := nameA (y181 ++ [l1]) (fun y184 => ((some (l0.drop (x5_1 : Int).toNat : List (List Int))).bind fun y187 => (if y184.length + y187.length < 5864062014805 then (some (y184 ++ y187)) else (none))) = some r) H; obtain ⟨y184, Ny184, H⟩ := H
   have c13b0 := eq_true (odE : 0 ≤ x5_1)
   have c14b0 := eq_true (odE : x5_1 ≤ (l0.length : Int))
   replace H := nameA (l0.drop (x5_1 : Int).toNat) (fun y187 => (if y184.length + y187.length < 5864062014805 then (some (y184 ++ y187)) else (none)) = some r) H; obtain ⟨y187, Ny187, H⟩ := H
   replace H := ifA H; obtain ⟨LMc15, H⟩ := H
   replace H := nameA (y184 ++ y187) (fun y192 => (some y192) = some r) H; obtain ⟨y192, Ny192, H⟩ := H
   obtain rfl := Option.some.inj H
   have p169 : 0 ≤ (x5_1 : Int) := odE
   have q169 : x5_1 < (l0.length : Int) := odE
   obtain ⟨ad169, A169_0, c169_0, e169, hx169_0, hl169_0, hi169_0⟩ := at_L1 (Kd.V_reads' HO_0.out).2.2 x5_1 p169 q169
   cases e169
   obtain ⟨ce169, hce169, hMe169, hcc169⟩ := Kd.V_get HO_0.out [] x5_1 p169 (by first | exact q169 | exact odE | (have e_ := (Kd.V_reads' HO_0.out).1; omega))
   obtain ⟨ua169_0, uc169_0, rfl, ul169_0, ge169_0⟩ := Kd.FK_slice_open hMe169
   have hv169_0 := hcc169 0 _ rfl
   rw [Nat.add_zero, show ((Kd.slice 3 (Kd.int .i64))).sz = 1 from rfl, Nat.mul_one] at hv169_0
   replace hv169_0 := Option.some.inj (hv169_0.symm.trans hx169_0)
   injection hv169_0 with hva_ hvn_ hvc_
   rw [hva_] at ge169_0
   rw [hvc_] at ul169_0
   have HL169_0 := Aside0.mk (show Kd.V (Kd.int .i64) 3 _ w.heap.size _ _ (rd_L1 l0 x5_1) from Kd.V_mk ul169_0 ge169_0)
   clear hva_ hvn_ hvc_ ge169_0 ul169_0
   clear hcc169 hce169
   have HR169_0 := Aside0.mk hi169_0
   have HC169_0 := Aside0.mk hl169_0
   clear hi169_0 hl169_0
   replace p169 := eq_true p169
   replace q169 := eq_true q169
   go_wp2_with (first | (go_at_call 75; (with_reducible refine (spec_gmLess.calls k1 _ _ (rd_L1 l0 x5_1) _ _ l1 false _ ?side1 ?side2 ?side3 ?side4 A5.out).mono ?_); (case side1 => repeat (first | exact (by repeat (first | (with_reducible exact HR169_0.out) | (with_reducible refine Kd.C_alloc ?_ _) | (with_reducible refine Kd.C_drewN ?_ _) | (with_reducible refine Kd.C_drew ?_) | exact HR169_0.out)) | (with_reducible refine Kd.C_alloc ?_ _) | (with_reducible refine Kd.C_drewN ?_ _) | (with_reducible refine Kd.C_drew ?_))); (case side2 => exact HC169_0.out); (case side3 => repeat (first | exact (Kd.V_reads' HO_1.out).2.2 | (with_reducible refine Kd.C_alloc ?_ _) | (with_reducible refine Kd.C_drewN ?_ _) | (with_reducible refine Kd.C_drew ?_))); (case side4 => exact (Kd.V_reads' HO_1.out).2.1); rintro e w' ⟨rfl, ⟨nd, rfl⟩⟩; have p171 : 0 ≤ (x5_1 : Int) := odE; have q171 : x5_1 < (l0.length : Int) := odE; obtain ⟨ad171, A171_0, c171_0, e171, hx171_0, hl171_0, hi171_0⟩ := at_L1 (Kd.V_reads' HO_0.out).2.2 x5_1 p171 q171; obtain rfl : ad169 = ad171 := (by injection e171); obtain ⟨ce171, hce171, hMe171, hcc171⟩ := Kd.V_get HO_0.out [] x5_1 p171 (by first | exact q171 | exact odE | (have e_ := (Kd.V_reads' HO_0.out).1; omega)); obtain ⟨ua171_0, uc171_0, rfl, ul171_0, ge171_0⟩ := Kd.FK_slice_open hMe171; have hv171_0 := hcc171 0 _ rfl; rw [Nat.add_zero, show ((Kd.slice 3 (Kd.int .i64))).sz = 1 from rfl, Nat.mul_one] at hv171_0; replace hv171_0 := Option.some.inj (hv171_0.symm.trans hx171_0); injection hv171_0 with hva_ hvn_ hvc_; rw [hva_] at ge171_0; rw [hvc_] at ul171_0; have HL171_0 := Aside0.mk (show Kd.V (Kd.int .i64) 3 _ w.heap.size _ _ (rd_L1 l0 x5_1) from Kd.V_mk ul171_0 ge171_0); clear hva_ hvn_ hvc_ ge171_0 ul171_0; clear hcc171 hce171; have HR171_0 := Aside0.mk hi171_0; have HC171_0 := Aside0.mk hl171_0; clear hi171_0 hl171_0; replace p171 := eq_true p171; replace q171 := eq_true q171; have ea_ := Option.some.inj (hx169_0.symm.trans hx171_0); injection ea_ with ea_ en_ ec_; subst ea_; subst ec_; clear en_) | (go_at_call 35; (with_reducible refine (spec_l1Same.calls k1 _ _ (rd_L1 l0 x5_1) _ _ l1 false _ ?side1 ?side2 ?side3 ?side4 A7.out).mono ?_); (case side1 => repeat (first | exact (by repeat (first | (with_reducible exact HR171_0.out) | (with_reducible refine Kd.C_alloc ?_ _) | (with_reducible refine Kd.C_drewN ?_ _) | (with_reducible refine Kd.C_drew ?_) | exact HR171_0.out)) | (with_reducible refine Kd.C_alloc ?_ _) | (with_reducible refine Kd.C_drewN ?_ _) | (with_reducible refine Kd.C_drew ?_))); (case side2 => exact HC171_0.out); (case side3 => repeat (first | exact (Kd.V_reads' HO_1.out).2.2 | (with_reducible refine Kd.C_alloc ?_ _) | (with_reducible refine Kd.C_drewN ?_ _) | (with_reducible refine Kd.C_drew ?_))); (case side4 => exact (Kd.V_reads' HO_1.out).2.1); rintro e w' ⟨rfl, ⟨nd, rfl⟩⟩) | ((with_reducible refine gate_dst (N := 34) rfl ?_); refine Kd.N_lit (Kd.slice 3 (Kd.int .i64)) _ 38 ?hg (N' := 34) ?hd (xs := ([] : List (List Int))) (inner := []) (ok := (fun k_ => ((P0_ k_ ∨ P1_ k_) ∨ w.heap.size ≤ k_))) (okp := (fun k_ => ((P0_ k_ ∨ P1_ k_) ∨ w.heap.size ≤ k_))) ?hr ?hp (fun _ hk => hk) ((show ∀ k_, wr.heap.size ≤ k_ → (fun k_ => ((P0_ k_ ∨ P1_ k_) ∨ w.heap.size ≤ k_)) k_ from fun k_ hk => (.inr (Nat.le_trans (below_size (mb HB.out)) hk))) _ (Nat.le_refl _)) (Below.refl _ _) (Nat.le_refl _) (by simp) ?_; (case hd => rfl); (case hg => rfl); (case hr => first | (go_simp; done) | (go_simp; rfl)); (case hp => exact (Reps.none _ _)); intro v174 w16 ho17 hb hg_ hnew_; clear hg_ hnew_; (first | rw [← Ny173.out] at ho17 | (simp only [Int.reduceToNat] at ho17; rw [← Ny173.out] at ho17)); replace HO_0 := am (Kd.V_elder' (mvV HO_0.out) (Kd.N_base ho17) hb); replace HO_1 := am (Kd.V_elder' (mvV HO_1.out) (Kd.N_base ho17) hb); replace HL169_0 := am (Kd.V_elder' (mvV HL169_0.out) (Kd.N_base ho17) hb); replace HL171_0 := am (Kd.V_elder' (mvV HL171_0.out) (Kd.N_base ho17) hb); have HO175 := am (Kd.N_lower ho17 (below_size (mb HB.out))); replace HR169_0 := am (Kd.C_below (by repeat (first | (with_reducible exact HR169_0.out) | (with_reducible refine Kd.C_alloc ?_ _) | (with_reducible refine Kd.C_drewN ?_ _) | (with_reducible refine Kd.C_drew ?_) | exact HR169_0.out)) hb); replace HR171_0 := am (Kd.C_below (by repeat (first | (with_reducible exact HR171_0.out) | (with_reducible refine Kd.C_alloc ?_ _) | (with_reducible refine Kd.C_drewN ?_ _) | (with_reducible refine Kd.C_drew ?_) | exact HR171_0.out)) hb); replace HB := am (below_step (mb HB.out) hb); clear hb ho17; have q18 : (x5_1 : Int) ≤ ((l0.length : Int) : Int) := odE; obtain ⟨i018, hi018, _, hsz18, _⟩ := info_parts info38; have hroom18 : l0.length ≤ c0 := (Kd.V_reads' HO_0.out).2.1; have hC18 : Kd.F (Kd.slice 3 (Kd.int .i64)) _ _ (some ad169) l0.length l0 := (Kd.V_at (base := w.heap.size) HO_0.out).2.2; have hcut18 := cut_to (P := Try.prog) 22 38 .i64 Try.underlying22 hi018 (some ad169) l0.length c0 x5_1 (odE) q18 hroom18; have hr18 := Kd.F_take (m := (x5_1 : Int).toNat) hC18 (by omega); have hy18 : y176.length = (x5_1 : Int).toNat := (by rw [Ny176.out, List.length_take]; omega); rw [← Ny176.out] at hr18; rw [← hy18] at hcut18; have HO180 := Aside0.mk (show Kd.V (Kd.slice 3 (Kd.int .i64)) 38 _ w.heap.size _ (.slice (some ad169) y176.length c0) y176 from Kd.V_mk (by omega) hr18); have HC180 := Aside0.mk (show y176.length ≤ c0 from by omega); clear hr18 hC18 hroom18 hi018 hsz18; have KY18 := Aside0.mk hy18; clear hy18; replace q18 := eq_true q18) | ((with_reducible refine gate_builtin (b := .append) (xs := #[.tmp 34, .tmp 37]) rfl ?_); at_builtin; refine Kd.N_append_rows (Kd.slice 3 (Kd.int .i64)) (w0 := w) w.heap.size rfl (.tmp 34) (.tmp 37) 22 38 (.slice none 0 0) 24 rfl Try.underlying22 info38 rfl (by decide) (by omega) v174 y173 y176 _ _ _ (fun k_ => ((P0_ k_ ∨ P1_ k_) ∨ w.heap.size ≤ k_)) (fun k_ => ((fun k_ => ((P0_ k_ ∨ P1_ k_) ∨ w.heap.size ≤ k_))) k_ ∧ some k_ ≠ (v174 : Value).ownBlock) rfl rfl ?aO ?aR (fun _ hk => hk) ?aF ?aB ?aS ?aL ?_; (case aR => exact (by skip; exact Kd.V_F (Kd.V_mono (ok' := (fun k_ => ((fun k_ => ((P0_ k_ ∨ P1_ k_) ∨ w.heap.size ≤ k_))) k_ ∧ some k_ ≠ (v174 : Value).ownBlock)) (HO180.out) (fun k_ hk => ⟨hk.1, hk.2⟩)))); (case aB => exact (mb HB.out)); (case aF => exact (fun k_ hk => (.inr (Nat.le_trans (below_size (mb HB.out)) hk)))); (case aO => exact (mvN HO175.out)); (case aS => exact (below_size (mb HB.out))); (case aL => have := LMc11.out; omega); intro v182 w19 ho hb hg hat; rw [← Ny181.out] at ho; replace HO_0 := am (Kd.V_afterv (ok := (fun k_ => ((P0_ k_ ∨ P1_ k_) ∨ w.heap.size ≤ k_))) (mvV HO_0.out) hg hat); replace HO_1 := am (Kd.V_afterv (ok := (fun k_ => ((P0_ k_ ∨ P1_ k_) ∨ w.heap.size ≤ k_))) (mvV HO_1.out) hg hat); replace HL169_0 := am (Kd.V_afterv (ok := (fun k_ => ((P0_ k_ ∨ P1_ k_) ∨ w.heap.size ≤ k_))) (mvV HL169_0.out) hg hat); replace HL171_0 := am (Kd.V_afterv (ok := (fun k_ => ((P0_ k_ ∨ P1_ k_) ∨ w.heap.size ≤ k_))) (mvV HL171_0.out) hg hat); replace HO180 := am (Kd.V_afterv (ok := (fun k_ => ((P0_ k_ ∨ P1_ k_) ∨ w.heap.size ≤ k_))) (mvV HO180.out) hg hat); replace HB := am (hb); have HO183 := am (ho); clear HO175; clear ho hb hg hat) | ((with_reducible refine gate_builtin (b := .append) (xs := #[.tmp 38, .tmp 40]) rfl ?_); at_builtin; refine Kd.N_append (Kd.slice 3 (Kd.int .i64)) (w0 := w) w.heap.size rfl (.tmp 38) (.tmp 40) 22 38 (.slice none 0 0) 24 rfl Try.underlying22 info38 rfl (by decide) (by omega) v182 y181 l1 [.slice A1 l1.length c1] (fun k_ => ((P0_ k_ ∨ P1_ k_) ∨ w.heap.size ≤ k_)) (fun k_ => ((fun k_ => ((P0_ k_ ∨ P1_ k_) ∨ w.heap.size ≤ k_))) k_ ∧ some k_ ≠ (v182 : Value).ownBlock) rfl rfl ?aP (fun _ hk => hk) ?aF ?aO ?aB ?aS ?aL ?_; (case aP => exact (Kd.FK_slice_mk (Kd.V_reads' (Kd.V_mono (ok' := (fun k_ => ((fun k_ => ((P0_ k_ ∨ P1_ k_) ∨ w.heap.size ≤ k_))) k_ ∧ some k_ ≠ (v182 : Value).ownBlock)) (HO_1.out) (fun k_ hk => ⟨hk.1, hk.2⟩))).2.1 (Kd.V_F (Kd.V_mono (ok' := (fun k_ => ((fun k_ => ((P0_ k_ ∨ P1_ k_) ∨ w.heap.size ≤ k_))) k_ ∧ some k_ ≠ (v182 : Value).ownBlock)) (HO_1.out) (fun k_ hk => ⟨hk.1, hk.2⟩))))); (case aB => exact (mb HB.out)); (case aF => exact (fun k_ hk => (.inr (Nat.le_trans (below_size (mb HB.out)) hk)))); (case aO => exact (mvN HO183.out)); (case aS => exact (below_size (mb HB.out))); (case aL => have := LMc12.out; omega); intro v185 w20 ho hb hg hat; rw [← Ny184.out] at ho; replace HO_0 := am (Kd.V_afterv (ok := (fun k_ => ((P0_ k_ ∨ P1_ k_) ∨ w.heap.size ≤ k_))) (mvV HO_0.out) hg hat); replace HO_1 := am (Kd.V_afterv (ok := (fun k_ => ((P0_ k_ ∨ P1_ k_) ∨ w.heap.size ≤ k_))) (mvV HO_1.out) hg hat); replace HL169_0 := am (Kd.V_afterv (ok := (fun k_ => ((P0_ k_ ∨ P1_ k_) ∨ w.heap.size ≤ k_))) (mvV HL169_0.out) hg hat); replace HL171_0 := am (Kd.V_afterv (ok := (fun k_ => ((P0_ k_ ∨ P1_ k_) ∨ w.heap.size ≤ k_))) (mvV HL171_0.out) hg hat); replace HO180 := am (Kd.V_afterv (ok := (fun k_ => ((P0_ k_ ∨ P1_ k_) ∨ w.heap.size ≤ k_))) (mvV HO180.out) hg hat); replace HB := am (hb); have HO186 := am (ho); clear HO183; clear ho hb hg hat; have q21 : (x5_1 : Int) ≤ ((l0.length : Int) : Int) := odE; obtain ⟨i021, hi021, _, hsz21, _⟩ := info_parts info38; have hroom21 : l0.length ≤ c0 := (Kd.V_reads' HO_0.out).2.1; have hC21 : Kd.F (Kd.slice 3 (Kd.int .i64)) _ _ (some ad169) l0.length l0 := (Kd.V_at (base := w.heap.size) HO_0.out).2.2; have q021 : (0 : Int) ≤ (x5_1 : Int) := odE; have hcut21 := cut_from (P := Try.prog) 22 38 .i64 Try.underlying22 hi021 1 hsz21 (some ad169) l0.length c0 x5_1 q021 q21; have hr21 := Kd.F_cut (m := (x5_1 : Int).toNat) (c := c0) hC21 (by omega) hroom21; obtain ⟨A21, hA21⟩ : ∃ A1, A1 = (if c0 = (x5_1 : Int).toNat then (some ad169) else ((some ad169) : Option Addr).map (·.add ((x5_1 : Int).toNat * 1))) := ⟨_, rfl⟩; obtain ⟨c21, hc21⟩ : ∃ c1, c1 = c0 - (x5_1 : Int).toNat := ⟨_, rfl⟩; have hy21 : y187.length = l0.length - (x5_1 : Int).toNat := (by rw [Ny187.out, List.length_drop] <;> omega); rw [show (l0).drop (x5_1 : Int).toNat = y187 from Ny187.out.symm] at hr21; replace hr21 : Kd.F (Kd.slice 3 (Kd.int .i64)) _ _ A21 y187.length y187 := (by rw [hA21]; exact hr21); rw [← hy21, ← hA21, ← hc21] at hcut21; have HO191 := Aside0.mk (show Kd.V (Kd.slice 3 (Kd.int .i64)) 38 _ w.heap.size _ (.slice A21 y187.length c21) y187 from Kd.V_mk (by rw [hy21, hc21]; exact Nat.sub_le_sub_right hroom21 _) hr21); have HC191 := Aside0.mk (show y187.length ≤ c21 from by rw [hy21, hc21]; exact Nat.sub_le_sub_right hroom21 _); clear hr21 hC21 hroom21 hi021 hsz21 hc21; have KY21 := Aside0.mk hy21; have KA21 := Aside0.mk hA21; clear hy21 hA21; replace q21 := eq_true q21) | ((with_reducible refine gate_builtin (b := .append) (xs := #[.tmp 42, .tmp 45]) rfl ?_); at_builtin; refine Kd.N_append_rows (Kd.slice 3 (Kd.int .i64)) (w0 := w) w.heap.size rfl (.tmp 42) (.tmp 45) 22 38 (.slice none 0 0) 24 rfl Try.underlying22 info38 rfl (by decide) (by omega) v185 y184 y187 _ _ _ (fun k_ => ((P0_ k_ ∨ P1_ k_) ∨ w.heap.size ≤ k_)) (fun k_ => ((fun k_ => ((P0_ k_ ∨ P1_ k_) ∨ w.heap.size ≤ k_))) k_ ∧ some k_ ≠ (v185 : Value).ownBlock) rfl rfl ?aO ?aR (fun _ hk => hk) ?aF ?aB ?aS ?aL ?_; (case aR => exact (by skip; exact Kd.V_F (Kd.V_mono (ok' := (fun k_ => ((fun k_ => ((P0_ k_ ∨ P1_ k_) ∨ w.heap.size ≤ k_))) k_ ∧ some k_ ≠ (v185 : Value).ownBlock)) (HO191.out) (fun k_ hk => ⟨hk.1, hk.2⟩)))); (case aB => exact (mb HB.out)); (case aF => exact (fun k_ hk => (.inr (Nat.le_trans (below_size (mb HB.out)) hk)))); (case aO => exact (mvN HO186.out)); (case aS => exact (below_size (mb HB.out))); (case aL => have := LMc15.out; omega); intro v193 w22 ho hb hg hat; rw [← Ny192.out] at ho; replace HO_0 := am (Kd.V_afterv (ok := (fun k_ => ((P0_ k_ ∨ P1_ k_) ∨ w.heap.size ≤ k_))) (mvV HO_0.out) hg hat); replace HO_1 := am (Kd.V_afterv (ok := (fun k_ => ((P0_ k_ ∨ P1_ k_) ∨ w.heap.size ≤ k_))) (mvV HO_1.out) hg hat); replace HL169_0 := am (Kd.V_afterv (ok := (fun k_ => ((P0_ k_ ∨ P1_ k_) ∨ w.heap.size ≤ k_))) (mvV HL169_0.out) hg hat); replace HL171_0 := am (Kd.V_afterv (ok := (fun k_ => ((P0_ k_ ∨ P1_ k_) ∨ w.heap.size ≤ k_))) (mvV HL171_0.out) hg hat); replace HO180 := am (Kd.V_afterv (ok := (fun k_ => ((P0_ k_ ∨ P1_ k_) ∨ w.heap.size ≤ k_))) (mvV HO180.out) hg hat); replace HO191 := am (Kd.V_afterv (ok := (fun k_ => ((P0_ k_ ∨ P1_ k_) ∨ w.heap.size ≤ k_))) (mvV HO191.out) hg hat); replace HB := am (hb); have HO194 := am (ho); clear HO186; clear ho hb hg hat))
   go_ret
   exact ⟨_, eqE, Kd.N_V (mvN HO194.out), mb HB.out⟩
end Go.Proofs.Ytggiicplcglalaa.All
