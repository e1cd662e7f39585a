/- Part of the proof that FnExactWalkSteps answers true. -/
import Derived.Test.YtggiicplcglalaaGreatQW7
section
namespace Go.Proofs.YtggiicplcglalaaGreat.All
open Go.RowKit YtggiicplcglalaaGreatW.PrintWords YtggiicplcglalaaGreatW.PrintLast YtggiicplcglalaaGreatW.PrintMore
attribute [local go_sem] max2_int min2_int max_two min_two max_three min_three max_four min_four
set_option linter.unusedVariables false
set_option linter.unusedSimpArgs false
set_option maxHeartbeats 8000000
set_option maxRecDepth 100000
mutual
def aY.l0 : Nat → List (bm) → List (List Int) → List (bm) → Int → Int → Option (List Int)
 | 0, _, _, _, _, _ => none
 | k + 1, x0, x3, wD, rB, qq => if qq < rB then (if 0 ≤ qq then (if qq < (wD.length : Int) then (if x3.length < 5864062014805 then (aY.l0 k x0 (x3 ++ [(au wD qq).f0]) wD rB (wrap64 (qq + 1))) else (none)) else (none)) else (none)) else ((bJ.f k x3).bind fun oA => (if oA = 0 then (some ([] : List Int)) else (aY.l1 k x0 x3 oA (([] : List Int)) (x0.length : Int) 0)))
def aY.l1 : Nat → List (bm) → List (List Int) → Int → List Int → Int → Int → Option (List Int)
 | 0, _, _, _, _, _, _ => none
 | k + 1, x0, x3, x6, x7, Yx, Vt => if Vt < Yx then (aY.l2 k x0 x3 x6 x7 Vt (([] : List (List Int))) Yx Vt x3 (x3.length : Int) 0) else (if x6 < 0 then (aY.l3 k x6 x7 (x7.length : Int) 0) else (if x7.length < 17592186044416 then (some (x7 ++ [x6])) else (none)))
def aY.l2 : Nat → List (bm) → List (List Int) → Int → List Int → Int → List (List Int) → Int → Int → List (List Int) → Int → Int → Option (List Int)
 | 0, _, _, _, _, _, _, _, _, _, _, _ => none
 | k + 1, x0, x3, x6, x7, x8, x9, Yx, Vt, td, NS, sc => if sc < NS then (if 0 ≤ sc then (if sc < (td.length : Int) then ((dA.f (aJ td sc)).bind fun lf => (if sc < (x0.length : Int) then (if 0 ≤ x8 then (if x8 < (lf.length : Int) then (if x9.length < 5864062014805 then (aY.l2 k x0 x3 x6 x7 x8 (x9 ++ [(lf.set (x8 : Int).toNat ((au x0 sc).f1))]) Yx Vt td NS (wrap64 (sc + 1))) else (none)) else (none)) else (none)) else (none))) else (none)) else (none)) else ((bJ.f k x9).bind fun On => (if x7.length < 17592186044416 then (aY.l1 k x0 x3 x6 (x7 ++ [On]) Yx (wrap64 (Vt + 1))) else (none)))
def aY.l3 : Nat → Int → List Int → Int → Int → Option (List Int)
 | 0, _, _, _, _ => none
 | k + 1, x6, x7, x69, x70 => if x70 < x69 then (if 0 ≤ x70 then (if x70 < (x7.length : Int) then (aY.l3 k x6 (x7.set (x70 : Int).toNat (wrap64 (-(rd x7 x70)))) x69 (wrap64 (x70 + 1))) else (none)) else (none)) else (if x7.length < 17592186044416 then (some (x7 ++ [wrap64 (-x6)])) else (none))
end
def aY.f (k : Nat) (l0 : List (bm)) : Option (List Int) := aY.l0 k l0 (([] : List (List Int))) l0 (l0.length : Int) 0
theorem aY.bG : ∀ k, (∀ y0 y1 y2 y3 y4, bB (aY.l0 k y0 y1 y2 y3 y4) (aY.l0 (k + 1) y0 y1 y2 y3 y4)) ∧ (∀ y0 y1 y2 y3 y4 y5, bB (aY.l1 k y0 y1 y2 y3 y4 y5) (aY.l1 (k + 1) y0 y1 y2 y3 y4 y5)) ∧ (∀ y0 y1 y2 y3 y4 y5 y6 y7 y8 y9 zB, bB (aY.l2 k y0 y1 y2 y3 y4 y5 y6 y7 y8 y9 zB) (aY.l2 (k + 1) y0 y1 y2 y3 y4 y5 y6 y7 y8 y9 zB)) ∧ (∀ y0 y1 y2 y3, bB (aY.l3 k y0 y1 y2 y3) (aY.l3 (k + 1) y0 y1 y2 y3))
 | 0 => ⟨fun _ _ _ _ _ r h => by simp [aY.l0] at h, fun _ _ _ _ _ _ r h => by simp [aY.l1] at h, fun _ _ _ _ _ _ _ _ _ _ _ r h => by simp [aY.l2] at h, fun _ _ _ _ r h => by simp [aY.l3] at h⟩
 | k + 1 => by
  obtain ⟨eQ, kP, sn, Q6⟩ := aY.bG k
  refine ⟨?_, ?_, ?_, ?_⟩ <;> intros <;> (first | unfold aY.l0 | unfold aY.l1 | unfold aY.l2 | unfold aY.l3)
  all_goals repeat' first
  | (with_reducible exact eQ ..)
  | (with_reducible exact kP ..)
  | (with_reducible exact sn ..)
  | (with_reducible exact Q6 ..)
  | (with_reducible exact bJ.mono ..)
  | (with_reducible exact bB.refl _)
  | (with_reducible exact bB.none _)
  | (with_reducible refine bB.ite ?_ ?_)
  | (with_reducible refine bB.bind ?_ (fun _ => ?_))
theorem aY.mono : ∀ a0 k, bB (aY.f k a0) (aY.f (k + 1) a0) := by
 intro a0 k
 obtain ⟨eQ, kP, sn, Q6⟩ := aY.bG k
 unfold aY.f
 repeat' first
   | (with_reducible exact eQ ..)
   | (with_reducible exact kP ..)
   | (with_reducible exact sn ..)
   | (with_reducible exact Q6 ..)
   | (with_reducible exact bJ.mono ..)
   | (with_reducible exact bB.refl _)
   | (with_reducible exact bB.none _)
   | (with_reducible refine bB.ite ?_ ?_)
   | (with_reducible refine bB.bind ?_ (fun _ => ?_))
theorem aY.Hc (k : Nat) (cT : Nat → Prop) (A0 : Option Addr) (c0 : Nat) (l0 : List (bm)) (r : List Int) (w : World) (nE : Kd.V eB 113 w w.heap.size (fun k_ => cT k_) (.slice A0 l0.length c0) l0) (h : aY.f k l0 = some r) :
  Calls Tryz.prog 129 #[.slice A0 l0.length c0] w fun e w' => ∃ iE : Value, e = .returned (iE) ∧ (r = [] → iE = .slice none 0 0) ∧ Kd.R (Kd.int .i64) 3 w' w.heap.size (fun k_ => (w.heap.size ≤ k_)) iE r ∧ Below w.heap.size w w' := by
 have KE := Tryz.underlying113
 have HM := Aside0.mk (show Kd.V eB 113 w w.heap.size (fun k_ => (cT k_ ∨ w.heap.size ≤ k_)) (.slice A0 l0.length c0) l0 from Kd.af nE (fun k_ hk => .inl hk))
 have HB := Aside0.mk (Below.refl w.heap.size w)
 have H : (aY.l0 k l0 (([] : List (List Int))) l0 (l0.length : Int) 0) = some r := h
 clear h
 replace H := br (([] : List (List Int))) (fun afP => (aY.l0 k l0 afP l0 (l0.length : Int) 0) = some r) H; obtain ⟨afP, aaa, H⟩ := H
 have H' := Aside0.mk H
 clear H
 go_enter Tryz.func129, Tryz.ntmps129
 go_wp2_with (first | ((with_reducible refine ah (N := 14) rfl ?_); refine Kd.nK (Kd.slice 3 (Kd.int .i64)) _ 40 ?hg (N' := 14) ?hd (xs := ([] : List (List Int))) (inner := []) (ok := (fun k_ => (cT k_ ∨ w.heap.size ≤ k_))) (okp := (fun k_ => (cT k_ ∨ w.heap.size ≤ k_))) ?hr ?hp (fun _ hk => hk) ((show ∀ k_, w.heap.size ≤ k_ → (fun k_ => (cT k_ ∨ w.heap.size ≤ k_)) k_ from fun k_ hk => (.inr (Nat.le_trans (aC (mb HB.out)) hk))) _ (Nat.le_refl _)) (Below.refl _ _) (Nat.le_refl _) (by simp) ?_; (case hd => rfl); (case hg => rfl); (case hr => first | (go_simp; done) | (go_simp; rfl)); (case hp => exact (cV.none _ _)); intro v280 w2 PB hb jn dB; clear jn dB; (first | rw [← aaa.out] at PB | (simp only [Int.reduceToNat] at PB; rw [← aaa.out] at PB)); replace HM := am (Kd.cY (c_ HM.out) (Kd.gv PB) hb); have anb := am (Kd.fT PB (aC (mb HB.out))); replace HB := bS HB hb; clear hb PB))
 go_loopg [3, 17] k (fun kq v3 v17 w' => ∃ (bg : List (List Int)) (cu : Int), v17 = .int .i64 cu ∧ Aside0 (aY.l0 kq l0 bg l0 (l0.length : Int) cu = some r) ∧ Aside0 (kq ≤ k) ∧ Aside0 (Kd.V eB 113 w' w.heap.size (fun k_ => (cT k_ ∨ w.heap.size ≤ k_) ∧ some k_ ≠ (v3 : Value).ownBlock) (.slice A0 l0.length c0) l0) ∧ Aside0 (Kd.N (Kd.slice 3 (Kd.int .i64)) 40 w' w.heap.size (fun k_ => (cT k_ ∨ w.heap.size ≤ k_)) v3 bg) ∧ Aside0 (Kd.V eB 113 w' w.heap.size (fun k_ => (cT k_ ∨ w.heap.size ≤ k_) ∧ some k_ ≠ (v3 : Value).ownBlock) (.slice A0 l0.length c0) l0) ∧ Aside0 (Below w.heap.size w w'))
 case atStart => exact ⟨(afP), (0), dM, H', ⟨Nat.le_refl _⟩, ⟨c_ HM.out⟩, ⟨dX anb.out⟩, ⟨c_ HM.out⟩, ⟨mb HB.out⟩⟩
 case round =>
  clear H'
  obtain ⟨bg, cu, rfl, HA, dP, bQ, cW, mK, HB⟩ := hrel
  cases gk with
  | zero => exact absurd HA.out (by simp [aY.l0])
  | succ k1 =>
   have H := HA.out
   clear HA
   simp only [aY.l0] at H
   by_cases c4 : cu < (l0.length : Int)
   ·rw [if_pos c4] at H
    have iI := decide_eq_true c4
    clear c4
    replace H := fW H; obtain ⟨jR, H⟩ := H
    replace H := fW H; obtain ⟨hU, H⟩ := H
    replace H := np H; obtain ⟨atb, H⟩ := H
    replace H := br (bg ++ [(au l0 cu).f0]) (fun afQ => (aY.l0 k1 l0 afQ l0 (l0.length : Int) (wrap64 (cu + 1))) = some r) H; obtain ⟨afQ, aab, H⟩ := H
    have H' := Aside0.mk H
    clear H
    have X5 : 0 ≤ (cu : Int) := bX
    have X6 : cu < (l0.length : Int) := bX
    obtain ⟨aac, nj, nk, atc, X7, apv, apw, Mx, My⟩ := rq (Kd.bN mK.out).2.2 cu X5 X6
    cases atc
    obtain ⟨avy, afR, afS, TP⟩ := Kd.ly mK.out Ha cu X5 (by first | exact X6 | exact bX | (have e_ := (Kd.bN mK.out).1; omega))
    obtain ⟨apx, apy, rfl, EP, EQ⟩ := tG afS
    have yh := TP 0 _ rfl
    rw [Nat.add_zero] at yh
    replace yh := Option.some.inj (yh.symm.trans X7)
    injection yh with fN iW fO
    rw [fN] at EQ
    rw [fO] at EP
    have nD := Aside0.mk (show Kd.V (Kd.int .i64) 3 _ w.heap.size _ _ ((au l0 cu).f0) from Kd.jo EP EQ)
    clear fN iW fO EQ EP
    clear TP afR
    have Mz := Aside0.mk My
    have apz := Aside0.mk Mx
    clear My Mx
    replace X5 := eq_true X5
    replace X6 := eq_true X6
    go_wp2_with (first | ((with_reducible refine ah (N := 5) rfl ?_); refine bE 5 #[.slice none 0 0, .int .i64 0, .bool false] 113 ?_; intro fu hg w8 bO hb; replace bQ := am (Kd.cn (Kd.lx (c_ bQ.out) fu (Nat.le_of_eq hg.symm)) hb); replace cW := am (Kd.eN (Kd.nL (dX cW.out) fu (Nat.le_of_eq hg.symm)) hb); replace mK := am (Kd.cn (Kd.lx (c_ mK.out) fu (Nat.le_of_eq hg.symm)) hb); replace nD := am (Kd.cn (Kd.lx (c_ nD.out) fu (Nat.le_of_eq hg.symm)) hb); replace Mz := am (Kd.bh (fy Mz.out) hb); have lL := am (bO); have anc := gW HB hg; have avz := anc; replace HB := bS HB hb; clear hb bO hg; have vx := cG lL.out; have vy := cR lL.out; have TC := rL lL.out; have vz := aH lL.out 0; have wA := aH lL.out 1; have TD := aH lL.out 2) | ((with_reducible refine fo (t := 113) (p := 5) rfl ?_); refine fM (t := 113) (p := 5) (v := ?atd) (w1 := (((w8.setCell ⟨fu, 0, none⟩ (.slice nj ((au l0 cu).f0).length nk)).setCell ⟨fu, 1, none⟩ (.int .i64 ((au l0 cu).f1))).setCell ⟨fu, 2, none⟩ (.bool ((au l0 cu).f2)))) ?hg ?ho ?hn ?hr ?_; (case ho => rfl); (case hg => rfl); (case hn => rfl); (case hr => first | (go_simp; done) | (go_simp; rfl)); intro BZ hw; have n0_ : Aside0 (Kd.V eB 113 BZ w.heap.size (fun k_ => (cT k_ ∨ w.heap.size ≤ k_) ∧ some k_ ≠ (u3 : Value).ownBlock ∧ k_ ≠ fu) (.slice (some aac) l0.length c0) l0) := ⟨(by rw [hw]; exact (by (with_reducible repeat (first | apply Kd.iz | apply Kd.jA | apply Kd.ee)); exact Kd.af (Kd.oD (p := ⟨fu, 2, none⟩) (Kd.oD (p := ⟨fu, 1, none⟩) (Kd.oD (p := ⟨fu, 0, none⟩) (Kd.af bQ.out (fun k_ hk => (⟨hk, hk.2⟩ : _ ∧ k_ ≠ fu))) (fun _ hk => hk.2) (.slice nj ((au l0 cu).f0).length nk)) (fun _ hk => hk.2) (.int .i64 ((au l0 cu).f1))) (fun _ hk => hk.2) (.bool ((au l0 cu).f2))) (fun _ hk => ⟨hk.1.1.1, ⟨hk.1.1.2, hk.1.2⟩⟩)))⟩; have US : Aside0 (Kd.N (Kd.slice 3 (Kd.int .i64)) 40 BZ w.heap.size (fun k_ => (cT k_ ∨ w.heap.size ≤ k_) ∧ k_ ≠ fu) u3 bg) := ⟨(by rw [hw]; exact (by (with_reducible repeat (first | apply Kd.gJ | apply Kd.gK | apply Kd.iy)); exact Kd.bK (Kd.mW (p := ⟨fu, 2, none⟩) (Kd.mW (p := ⟨fu, 1, none⟩) (Kd.mW (p := ⟨fu, 0, none⟩) (Kd.bK cW.out (fun k_ hk => (⟨hk, hk.2⟩ : _ ∧ k_ ≠ fu))) (fun _ hk => hk.2) (.slice nj ((au l0 cu).f0).length nk)) (fun _ hk => hk.2) (.int .i64 ((au l0 cu).f1))) (fun _ hk => hk.2) (.bool ((au l0 cu).f2))) (fun _ hk => ⟨hk.1.1, hk.1.2⟩)))⟩; have Xx : Aside0 (Kd.V eB 113 BZ w.heap.size (fun k_ => (cT k_ ∨ w.heap.size ≤ k_) ∧ some k_ ≠ (u3 : Value).ownBlock ∧ k_ ≠ fu) (.slice (some aac) l0.length c0) l0) := ⟨(by rw [hw]; exact (by (with_reducible repeat (first | apply Kd.iz | apply Kd.jA | apply Kd.ee)); exact Kd.af (Kd.oD (p := ⟨fu, 2, none⟩) (Kd.oD (p := ⟨fu, 1, none⟩) (Kd.oD (p := ⟨fu, 0, none⟩) (Kd.af mK.out (fun k_ hk => (⟨hk, hk.2⟩ : _ ∧ k_ ≠ fu))) (fun _ hk => hk.2) (.slice nj ((au l0 cu).f0).length nk)) (fun _ hk => hk.2) (.int .i64 ((au l0 cu).f1))) (fun _ hk => hk.2) (.bool ((au l0 cu).f2))) (fun _ hk => ⟨hk.1.1.1, ⟨hk.1.1.2, hk.1.2⟩⟩)))⟩; have Xy : Aside0 (Kd.V (Kd.int .i64) 3 BZ w.heap.size (fun k_ => (cT k_ ∨ w.heap.size ≤ k_) ∧ some k_ ≠ (u3 : Value).ownBlock ∧ k_ ≠ fu) (.slice nj ((au l0 cu).f0).length nk) ((au l0 cu).f0)) := ⟨(by rw [hw]; exact (by (with_reducible repeat (first | apply Kd.iz | apply Kd.jA | apply Kd.ee)); exact Kd.af (Kd.oD (p := ⟨fu, 2, none⟩) (Kd.oD (p := ⟨fu, 1, none⟩) (Kd.oD (p := ⟨fu, 0, none⟩) (Kd.af nD.out (fun k_ hk => (⟨hk, hk.2⟩ : _ ∧ k_ ≠ fu))) (fun _ hk => hk.2) (.slice nj ((au l0 cu).f0).length nk)) (fun _ hk => hk.2) (.int .i64 ((au l0 cu).f1))) (fun _ hk => hk.2) (.bool ((au l0 cu).f2))) (fun _ hk => ⟨hk.1.1.1, ⟨hk.1.1.2, hk.1.2⟩⟩)))⟩; have n4_ : Aside0 (BZ.heap[fu]? = some (.cells #[.slice nj ((au l0 cu).f0).length nk, .int .i64 ((au l0 cu).f1), .bool ((au l0 cu).f2)] 113 (0, 0))) := ⟨(by rw [hw]; exact (by (with_reducible repeat (first | refine ba ?_ _ | refine az ?_ | refine b_ ?_ _)); refine dS (cs := #[.slice nj ((au l0 cu).f0).length nk, .int .i64 ((au l0 cu).f1), .bool false]) ?_ 2 _ rfl; (with_reducible repeat (first | refine ba ?_ _ | refine az ?_ | refine b_ ?_ _)); refine dS (cs := #[.slice nj ((au l0 cu).f0).length nk, .int .i64 0, .bool false]) ?_ 1 _ rfl; (with_reducible repeat (first | refine ba ?_ _ | refine az ?_ | refine b_ ?_ _)); refine dS (cs := #[.slice none 0 0, .int .i64 0, .bool false]) ?_ 0 _ rfl; exact ct lL.out))⟩; have n5_ : Aside0 (Below w.heap.size w BZ) := ⟨(by rw [hw]; exact (mb HB.out))⟩; clear hw; clear bQ; clear cW; clear mK; clear nD; clear lL; clear HB; have bQ := n0_; have cW := US; have mK := Xx; have nD := Xy; have lL := n4_; have HB := n5_; clear n0_ US Xx Xy n4_ n5_; have L7 := cG lL.out; have L8 := cR lL.out; have apA := rL lL.out; have L9 := aH lL.out 0; have L_ := aH lL.out 1; have apB := aH lL.out 2) | ((with_reducible refine bC (b := .append) (xs := #[.tmp 21, .tmp 24]) rfl ?_); at_builtin; refine Kd.iX (Kd.slice 3 (Kd.int .i64)) (w0 := w) w.heap.size rfl (.tmp 21) (.tmp 24) 22 40 (.slice none 0 0) 24 rfl Tryz.underlying22 gM rfl (by decide) (by omega) u3 bg ((au l0 cu).f0) [.slice nj ((au l0 cu).f0).length nk] (fun k_ => (cT k_ ∨ w.heap.size ≤ k_) ∧ k_ ≠ fu) (fun k_ => ((fun k_ => (cT k_ ∨ w.heap.size ≤ k_) ∧ k_ ≠ fu)) k_ ∧ some k_ ≠ (u3 : Value).ownBlock) rfl rfl ?aP (fun _ hk => hk) ?aF ?aO ?aB ?aS ?aL ?_; (case aP => exact (Kd.fP (Kd.bN (Kd.af (ok' := (fun k_ => ((fun k_ => (cT k_ ∨ w.heap.size ≤ k_) ∧ k_ ≠ fu)) k_ ∧ some k_ ≠ (u3 : Value).ownBlock)) (nD.out) (fun k_ hk => ⟨⟨hk.1, hk.2.2⟩, hk.2.1⟩))).2.1 (Kd.PS (Kd.af (ok' := (fun k_ => ((fun k_ => (cT k_ ∨ w.heap.size ≤ k_) ∧ k_ ≠ fu)) k_ ∧ some k_ ≠ (u3 : Value).ownBlock)) (nD.out) (fun k_ hk => ⟨⟨hk.1, hk.2.2⟩, hk.2.1⟩))))); (case aB => exact (mb HB.out)); (case aF => exact (fun k_ hk => ⟨(.inr (Nat.le_trans (aC (mb HB.out)) hk)), Kd.du (g := fu) (o := .cells #[.slice nj ((au l0 cu).f0).length nk, .int .i64 ((au l0 cu).f1), .bool ((au l0 cu).f2)] 113 (0, 0)) (ct lL.out) k_ hk⟩)); (case aO => exact (dX cW.out)); (case aS => exact (aC (mb HB.out))); (case aL => have := atb.out; omega); intro v285 Ou ho hb hg bk; rw [← aab.out] at ho; replace bQ := am (Kd.bH (ok := (fun k_ => (cT k_ ∨ w.heap.size ≤ k_) ∧ k_ ≠ fu)) (Kd.af (c_ bQ.out) (fun _ hk => ⟨⟨hk.1, hk.2.2⟩, hk.2.1⟩)) hg bk); replace mK := am (Kd.bH (ok := (fun k_ => (cT k_ ∨ w.heap.size ≤ k_) ∧ k_ ≠ fu)) (Kd.af (c_ mK.out) (fun _ hk => ⟨⟨hk.1, hk.2.2⟩, hk.2.1⟩)) hg bk); replace nD := am (Kd.bH (ok := (fun k_ => (cT k_ ∨ w.heap.size ≤ k_) ∧ k_ ≠ fu)) (Kd.af (c_ nD.out) (fun _ hk => ⟨⟨hk.1, hk.2.2⟩, hk.2.1⟩)) hg bk); replace lL := am (di (ct lL.out) hg (Kd.Aq cW.out lL.out (by decide))); replace HB := am (hb); have ane := am (ho); clear cW; clear ho hb hg bk))
    go_roundg k1
    case measure => have := dP.out; omega
    case rel => exact ⟨(afQ), (wrap64 (cu + 1)), dM, H', ⟨by have := dP.out; omega⟩, ⟨Kd.af (c_ bQ.out) (fun _ hk => ⟨hk.1.1, hk.2⟩)⟩, ⟨Kd.bK (dX ane.out) (fun _ hk => hk.1)⟩, ⟨Kd.af (c_ mK.out) (fun _ hk => ⟨hk.1.1, hk.2⟩)⟩, ⟨mb HB.out⟩⟩
   rw [if_neg c4] at H
   have iI := decide_eq_false c4
   clear c4
   replace H := bZ H; obtain ⟨oA, U3, H⟩ := H
   by_cases rC : oA = 0
   ·rw [if_pos rC] at H
    have rI := il rC
    have Yt := im rC
    clear rC
    obtain rfl := Option.some.inj H
    obtain ⟨Nq, qU, Fa⟩ := Kd.da cW.out
    subst Fa
    go_wp2_with (first | ((with_reducible refine gC 158 rfl ?_); refine gL 28 Tryz.func158 #[.slice Nq bg.length qU] ?_; (with_reducible refine (bJ.calls k1 _ _ bg oA _ ?aT ?aU U3.out).mono ?_); (case aT => exact fy (Kd.cZ cW.out).2.2); (case aU => exact (Kd.cZ cW.out).2.1); rintro e NO ⟨rfl, hb⟩; refine ⟨_, rfl, ?_⟩; replace bQ := am (Kd.cn (c_ bQ.out) hb); replace cW := am (Kd.eN (dX cW.out) hb); replace mK := am (Kd.cn (c_ mK.out) hb); replace HB := bS HB hb; (try clear hb)))
    go_ret
    exact ⟨_, jC, (by first | rfl | (intro h_; first | rfl | (rw [aab.out] at h_; exact absurd h_ (by simp)))), Cr, mb HB.out⟩
   rw [if_neg rC] at H
   have rI := iQ rC
   have Yt := iR rC
   replace H := br (([] : List Int)) (fun afT => (aY.l1 k1 l0 bg oA afT (l0.length : Int) 0) = some r) H; obtain ⟨afT, aad, H⟩ := H
   have H' := Aside0.mk H
   clear H
   obtain ⟨mO, iJ, Qa⟩ := Kd.da cW.out
   subst Qa
   go_wp2_with (first | ((with_reducible refine gC 158 rfl ?_); refine gL 28 Tryz.func158 #[.slice mO bg.length iJ] ?_; (with_reducible refine (bJ.calls k1 _ _ bg oA _ ?aT ?aU U3.out).mono ?_); (case aT => exact fy (Kd.cZ cW.out).2.2); (case aU => exact (Kd.cZ cW.out).2.1); rintro e Ow ⟨rfl, hb⟩; refine ⟨_, rfl, ?_⟩; replace bQ := am (Kd.cn (c_ bQ.out) hb); replace cW := am (Kd.eN (dX cW.out) hb); replace mK := am (Kd.cn (c_ mK.out) hb); replace HB := bS HB hb; (try clear hb)) | ((with_reducible refine ah (N := 31) rfl ?_); refine Kd.ov (Kd.int .i64) _ 3 ?hg (N := 31) ?hd (xs := ([] : List Int)) (inner := []) (ok := fun _ => True) (okp := fun _ => True) ?hr ?hp (fun _ hk => hk) trivial (Below.refl _ _) (Nat.le_refl _) (by simp) ?_; (case hd => rfl); (case hg => rfl); (case hr => first | (go_simp; done) | (go_simp; rfl)); (case hp => exact (cV.none _ _)); intro v289 w19 HF hb jn dB; clear jn dB; (first | rw [← aad.out] at HF | (simp only [Int.reduceToNat] at HF; rw [← aad.out] at HF)); replace bQ := am (Kd.cY (c_ bQ.out) (Kd.bf HF) hb); replace cW := am (Kd.cw (dX cW.out) (Kd.bf HF) hb); replace mK := am (Kd.cY (c_ mK.out) (Kd.bf HF) hb); have anf := am (Kd.cO (Kd.jQ (M := fun k_ => (w.heap.size ≤ k_)) HF (aC (mb HB.out)) (fun k_ h_ => h_)) (aC (mb HB.out))); replace HB := bS HB hb; clear hb HF))
   go_loopg [7, 34] k1 (fun kq v7 v34 w' => ∃ (fb : List Int) (kO : Int), v34 = .int .i64 kO ∧ Aside0 (aY.l1 kq l0 bg oA fb (l0.length : Int) kO = some r) ∧ Aside0 (kq ≤ k1) ∧ Aside0 (Kd.V eB 113 w' w.heap.size (fun k_ => (cT k_ ∨ w.heap.size ≤ k_) ∧ some k_ ≠ ((.slice mO bg.length iJ) : Value).ownBlock ∧ some k_ ≠ (v7 : Value).ownBlock) (.slice A0 l0.length c0) l0) ∧ Aside0 (Kd.N (Kd.slice 3 (Kd.int .i64)) 40 w' w.heap.size (fun k_ => (cT k_ ∨ w.heap.size ≤ k_) ∧ some k_ ≠ (v7 : Value).ownBlock) (.slice mO bg.length iJ) bg) ∧ Aside0 (Kd.R (Kd.int .i64) 3 w' w.heap.size (fun k_ => (w.heap.size ≤ k_)) v7 fb) ∧ Aside0 (Below w.heap.size w w'))
   case atStart => exact ⟨(afT), (0), dM, H', ⟨Nat.le_refl _⟩, ⟨Kd.af (c_ bQ.out) (fun _ hk => ⟨hk.1.1, ⟨hk.1.2, hk.2⟩⟩)⟩, ⟨dX cW.out⟩, ⟨Kd.bD (ci anf.out) (fun _ hk => hk.1)⟩, ⟨mb HB.out⟩⟩
   case round =>
    clear H'
    obtain ⟨fb, kO, rfl, HA, ft, bQ, cW, cf, HB⟩ := hrel
    cases gk with
    | zero => exact absurd HA.out (by simp [aY.l1])
    | succ k2 =>
     have H := HA.out
     clear HA
     simp only [aY.l1] at H
     by_cases Be : kO < (l0.length : Int)
     rotate_left
     ·rw [if_neg Be] at H
      have FN := decide_eq_false Be
      clear Be
      by_cases c42 : oA < 0
      rotate_left
      ·rw [if_neg c42] at H
       have aae := decide_eq_false c42
       (try rw [CS] at aae)
       clear c42
       by_cases c52 : fb.length < 17592186044416
       rotate_left
       ·rw [if_neg c52] at H
        exact absurd H (by simp)
       rw [if_pos c52] at H
       have ang := Aside0.mk c52
       clear c52
       replace H := br (fb ++ [oA]) (fun anh => (some anh) = some r) H; obtain ⟨anh, aaf, H⟩ := H
       obtain rfl := Option.some.inj H
       go_wp2_with (first | ((with_reducible refine bC (b := .append) (xs := #[.tmp 84, .tmp 86]) rfl ?_); at_builtin; refine Kd.fV (Kd.int .i64) (w0 := w) w.heap.size rfl (.tmp 84) (.tmp 86) 40 3 (.int .i64 0) 8 rfl Tryz.underlying40 eT rfl (by decide) (by omega) u7 fb oA [.int .i64 oA] (fun k_ => (w.heap.size ≤ k_)) (fun _ => False) rfl rfl ?aP (fun _ hk => hk.elim) ?aF ?aO ?aB ?aS ?aL ?_; (case aP => exact rfl); (case aB => exact (mb HB.out)); (case aF => exact (fun k_ hk => (Nat.le_trans (aC (mb HB.out)) hk))); (case aO => exact (ci cf.out)); (case aS => exact (aC (mb HB.out))); (case aL => have := ang.out; omega); intro v313 w53 ho hb hg bk; rw [← aaf.out] at ho; replace bQ := am (Kd.bH (ok := (fun k_ => (cT k_ ∨ w.heap.size ≤ k_) ∧ some k_ ≠ (.slice mO bg.length iJ : Value).ownBlock)) (Kd.af (c_ bQ.out) (fun _ hk => ⟨⟨hk.1, hk.2.1⟩, hk.2.2⟩)) hg bk); replace cW := am (Kd.dJ (ok := (fun k_ => (cT k_ ∨ w.heap.size ≤ k_))) (dX cW.out) hg bk); replace HB := am (hb); have ani := am (ho); clear cf; clear ho hb hg bk))
       go_ret
       exact ⟨_, jC, (by first | rfl | (intro h_; first | rfl | (rw [aaf.out] at h_; exact absurd h_ (by simp)))), ci ani.out, mb HB.out⟩
      rw [if_pos c42] at H
      have aae := decide_eq_true c42
      clear c42
      have H' := Aside0.mk H
      clear H
      obtain ⟨anj, afU, ate⟩ := Kd.cH cf.out
      subst ate
      go_wp2
      go_loopg [70] k2 (fun kq v70 w' => ∃ (l7 : List Int) (lW : Int), v70 = .int .i64 lW ∧ Aside0 (aY.l3 kq oA l7 (fb.length : Int) lW = some r) ∧ Aside0 (kq ≤ k2) ∧ Aside0 (Kd.R (Kd.int .i64) 3 w' w.heap.size (fun k_ => (w.heap.size ≤ k_)) (.slice anj fb.length afU) l7) ∧ Aside0 (Below w.heap.size w w'))
      case atStart => exact ⟨(fb), (0), dM, H', ⟨Nat.le_refl _⟩, ⟨ci cf.out⟩, ⟨mb HB.out⟩⟩
      case round =>
       clear H'
       obtain ⟨l7, lW, rfl, HA, nQ, cf, HB⟩ := hrel
       have CS := (Kd.aq cf.out).1
       rw [CS] at cf
       (try simp only [CS])
       cases gk with
       | zero => exact absurd HA.out (by simp [aY.l3])
       | succ k3 =>
        have H := HA.out
        clear HA
        simp only [aY.l3] at H
        by_cases c44 : lW < (fb.length : Int)
        rotate_left
        ·rw [if_neg c44] at H
         have aag := decide_eq_false c44
         (try rw [CS] at aag)
         clear c44
         replace H := np H; obtain ⟨ank, H⟩ := H
         replace H := br (l7 ++ [wrap64 (-oA)]) (fun anl => (some anl) = some r) H; obtain ⟨anl, aah, H⟩ := H
         obtain rfl := Option.some.inj H
         go_wp2_with (first | ((with_reducible refine bC (b := .append) (xs := #[.tmp 84, .tmp 86]) rfl ?_); at_builtin; refine Kd.fV (Kd.int .i64) (w0 := w) w.heap.size rfl (.tmp 84) (.tmp 86) 40 3 (.int .i64 0) 8 rfl Tryz.underlying40 eT rfl (by decide) (by omega) (.slice anj l7.length afU) l7 (wrap64 (-oA)) [.int .i64 (wrap64 (-oA))] (fun k_ => (w.heap.size ≤ k_)) (fun _ => False) rfl rfl ?aP (fun _ hk => hk.elim) ?aF ?aO ?aB ?aS ?aL ?_; (case aP => exact rfl); (case aB => exact (mb HB.out)); (case aF => exact (fun k_ hk => (Nat.le_trans (aC (mb HB.out)) hk))); (case aO => exact (ci cf.out)); (case aS => exact (aC (mb HB.out))); (case aL => have := ank.out; omega); intro v310 w51 ho hb hg bk; rw [← aah.out] at ho; replace HB := am (hb); have anm := am (ho); clear cf; clear ho hb hg bk))
         go_ret
         exact ⟨_, jC, (by first | rfl | (intro h_; first | rfl | (rw [aah.out] at h_; exact absurd h_ (by simp)))), ci anm.out, mb HB.out⟩
        rw [if_pos c44] at H
        have aag := decide_eq_true c44
        clear c44
        replace H := fW H; obtain ⟨avA, H⟩ := H
        replace H := fW H; obtain ⟨avB, H⟩ := H
        replace H := br (l7.set (lW : Int).toNat (wrap64 (-(rd l7 lW)))) (fun X8 => (aY.l3 k3 oA X8 (fb.length : Int) (wrap64 (lW + 1))) = some r) H; obtain ⟨X8, ann, H⟩ := H
        have H' := Aside0.mk H
        clear H
        have afV : 0 ≤ (lW : Int) := bX
        have afW : lW < (l7.length : Int) := bX
        obtain ⟨avC, atf, X9⟩ := Kd.bi (Kd.aq cf.out).2.2 lW afV afW
        cases atf
        replace afV := eq_true afV
        replace afW := eq_true afW
        have p47 : 0 ≤ (lW : Int) := bX
        have q47 : (lW : Int) < ((l7.length : Int) : Int) := bX
        obtain ⟨afX, awx, ano, anp, atg, awy, anq⟩ := Kd.lZ cf.out (by omega)
        (first | cases ano | (injection ano with kF wB wC; (first | subst kF | (injection kF with kF; subst kF)); subst wC; clear wB))
        have ath := Aside0.mk anp
        have awz := Aside0.mk anq
        clear anp atg anq
        (first | simp only [add_plain] at X9 | skip)
        obtain ⟨ati, atj⟩ := Kd.gx 0 cf.out (lW : Int) p47 q47
        replace p47 := eq_true p47
        replace q47 := eq_true q47
        have afY := Kd.nI cf.out (lW : Int) (wrap64 (-(rd l7 lW)))
        go_wp2_with (first | ((with_reducible refine fo (t := 3) (p := 80) rfl ?_); refine fM (t := 3) (p := 80) (v := ?atk) (w1 := (wr.setCell ⟨afX, (lW : Int).toNat, none⟩ (.int .i64 (wrap64 (-(rd l7 lW)))))) ?hg ?ho ?hn ?hr ?_; (case ho => rfl); (case hg => rfl); (case hn => rfl); (case hr => first | (go_simp; done) | (go_simp; rfl)); intro w49 hw; have hg : wr.grownBy w49 (some afX) := (by rw [hw]; exact afY.2); have rR : Kd.R (Kd.int .i64) 3 w49 w.heap.size (fun k_ => (w.heap.size ≤ k_)) (.slice (some ⟨afX, 0, none⟩) l7.length afU) X8 := (by rw [hw, ann.out]; exact afY.1); clear afY; replace cf := am (rR); replace HB := am ((by rw [hw]; exact dj (HB.out) ath.out : Below w.heap.size w w49)); clear hg hw rR))
        (try simp only [← CS])
        go_roundg k3
        case measure => have := dP.out; have := ft.out; have := nQ.out; omega
        case rel => exact ⟨(X8), (wrap64 (lW + 1)), dM, H', ⟨by have := dP.out; have := ft.out; have := nQ.out; omega⟩, ⟨by (try simp only [CS]); (with_reducible repeat (first | apply Kd.ff | apply Kd.fg | apply Kd.gu)); exact cf.out⟩, ⟨mb HB.out⟩⟩
     rw [if_pos Be] at H
     have FN := decide_eq_true Be
     clear Be
     replace H := br (([] : List (List Int))) (fun afZ => (aY.l2 k2 l0 bg oA fb kO afZ (l0.length : Int) kO bg (bg.length : Int) 0) = some r) H; obtain ⟨afZ, aai, H⟩ := H
     have H' := Aside0.mk H
     clear H
     go_wp2_with (first | ((with_reducible refine ah (N := 37) rfl ?_); refine Kd.nK (Kd.slice 3 (Kd.int .i64)) _ 40 ?hg (N' := 37) ?hd (xs := ([] : List (List Int))) (inner := []) (ok := (fun k_ => (cT k_ ∨ w.heap.size ≤ k_) ∧ some k_ ≠ (.slice mO bg.length iJ : Value).ownBlock ∧ some k_ ≠ (u7 : Value).ownBlock)) (okp := (fun k_ => (cT k_ ∨ w.heap.size ≤ k_) ∧ some k_ ≠ (.slice mO bg.length iJ : Value).ownBlock ∧ some k_ ≠ (u7 : Value).ownBlock)) ?hr ?hp (fun _ hk => hk) ((show ∀ k_, wr.heap.size ≤ k_ → (fun k_ => (cT k_ ∨ w.heap.size ≤ k_) ∧ some k_ ≠ (.slice mO bg.length iJ : Value).ownBlock ∧ some k_ ≠ (u7 : Value).ownBlock) k_ from fun k_ hk => ⟨(.inr (Nat.le_trans (aC (mb HB.out)) hk)), Kd.dz (Kd.rH (dX cW.out)) k_ hk, Kd.dz (Kd.iH (ci cf.out)) k_ hk⟩) _ (Nat.le_refl _)) (Below.refl _ _) (Nat.le_refl _) (by simp) ?_; (case hd => rfl); (case hg => rfl); (case hr => first | (go_simp; done) | (go_simp; rfl)); (case hp => exact (cV.none _ _)); intro v292 w22 ob hb jn dB; clear jn dB; (first | rw [← aai.out] at ob | (simp only [Int.reduceToNat] at ob; rw [← aai.out] at ob)); replace bQ := am (Kd.cY (c_ bQ.out) (Kd.gv ob) hb); replace cW := am (Kd.cw (dX cW.out) (Kd.gv ob) hb); replace cf := am (Kd.b6 (ci cf.out) hb); have anr := am (Kd.fT ob (aC (mb HB.out))); replace HB := bS HB hb; clear hb ob))
     go_loopg [9, 40] k2 (fun kq v9 v40 w' => ∃ (l7 : List Int) (mo : List (List Int)) (kC : Int), v40 = .int .i64 kC ∧ Aside0 (aY.l2 kq l0 bg oA l7 kO mo (l0.length : Int) kO bg (bg.length : Int) kC = some r) ∧ Aside0 (kq ≤ k2) ∧ Aside0 (Kd.V eB 113 w' w.heap.size (fun k_ => (cT k_ ∨ w.heap.size ≤ k_) ∧ some k_ ≠ ((.slice mO bg.length iJ) : Value).ownBlock ∧ some k_ ≠ (u7 : Value).ownBlock ∧ some k_ ≠ (v9 : Value).ownBlock ∧ some k_ ≠ ((.slice mO bg.length iJ) : Value).ownBlock) (.slice A0 l0.length c0) l0) ∧ Aside0 (Kd.N (Kd.slice 3 (Kd.int .i64)) 40 w' w.heap.size (fun k_ => (cT k_ ∨ w.heap.size ≤ k_) ∧ some k_ ≠ (u7 : Value).ownBlock ∧ some k_ ≠ (v9 : Value).ownBlock) (.slice mO bg.length iJ) bg) ∧ Aside0 (Kd.R (Kd.int .i64) 3 w' w.heap.size (fun k_ => (w.heap.size ≤ k_)) u7 l7) ∧ Aside0 (Kd.N (Kd.slice 3 (Kd.int .i64)) 40 w' w.heap.size (fun k_ => (cT k_ ∨ w.heap.size ≤ k_) ∧ some k_ ≠ ((.slice mO bg.length iJ) : Value).ownBlock ∧ some k_ ≠ (u7 : Value).ownBlock ∧ some k_ ≠ ((.slice mO bg.length iJ) : Value).ownBlock) v9 mo) ∧ Aside0 (Kd.N (Kd.slice 3 (Kd.int .i64)) 40 w' w.heap.size (fun k_ => (cT k_ ∨ w.heap.size ≤ k_) ∧ some k_ ≠ (u7 : Value).ownBlock ∧ some k_ ≠ (v9 : Value).ownBlock) (.slice mO bg.length iJ) bg) ∧ Aside0 (Below w.heap.size w w'))
     case atStart => exact ⟨(fb), (afZ), (0), dM, H', ⟨Nat.le_refl _⟩, ⟨Kd.af (c_ bQ.out) (fun _ hk => ⟨hk.1.1, ⟨hk.1.2.1, ⟨hk.1.2.2, ⟨hk.2, hk.1.2.1⟩⟩⟩⟩)⟩, ⟨Kd.bK (dX cW.out) (fun _ hk => ⟨hk.1.1, ⟨hk.1.2, hk.2⟩⟩)⟩, ⟨ci cf.out⟩, ⟨Kd.bK (dX anr.out) (fun _ hk => ⟨hk.1, ⟨hk.2.1, ⟨hk.2.2, hk.2.1⟩⟩⟩)⟩, ⟨Kd.bK (dX cW.out) (fun _ hk => ⟨hk.1.1, ⟨hk.1.2, hk.2⟩⟩)⟩, ⟨mb HB.out⟩⟩
     case round =>
      clear H'
      obtain ⟨l7, mo, kC, rfl, HA, nQ, bQ, cW, cf, ch, kL, HB⟩ := hrel
      cases gk with
      | zero => exact absurd HA.out (by simp [aY.l2])
      | succ k3 =>
       have H := HA.out
       clear HA
       simp only [aY.l2] at H
       by_cases HU : kC < (bg.length : Int)
       rotate_left
       ·rw [if_neg HU] at H
        have QT := decide_eq_false HU
        clear HU
        replace H := bZ H; obtain ⟨On, A37, H⟩ := H
        replace H := np H; obtain ⟨ans, H⟩ := H
        replace H := br (l7 ++ [On]) (fun af0 => (aY.l1 k3 l0 bg oA af0 (l0.length : Int) (wrap64 (kO + 1))) = some r) H; obtain ⟨af0, ant, H⟩ := H
        have H' := Aside0.mk H
        clear H
        obtain ⟨X_, Xa, atl⟩ := Kd.da ch.out
        subst atl
        go_wp2_with (first | ((with_reducible refine gC 158 rfl ?_); refine gL 62 Tryz.func158 #[.slice X_ mo.length Xa] ?_; (with_reducible refine (bJ.calls k3 _ _ mo On _ ?aT ?aU A37.out).mono ?_); (case aT => exact fy (Kd.cZ ch.out).2.2); (case aU => exact (Kd.cZ ch.out).2.1); rintro e w40 ⟨rfl, hb⟩; refine ⟨_, rfl, ?_⟩; replace bQ := am (Kd.cn (c_ bQ.out) hb); replace cW := am (Kd.eN (dX cW.out) hb); replace cf := am (Kd.b6 (ci cf.out) hb); replace ch := am (Kd.eN (dX ch.out) hb); replace kL := am (Kd.eN (dX kL.out) hb); replace HB := bS HB hb; (try clear hb)) | ((with_reducible refine bC (b := .append) (xs := #[.tmp 60, .tmp 63]) rfl ?_); at_builtin; refine Kd.fV (Kd.int .i64) (w0 := w) w.heap.size rfl (.tmp 60) (.tmp 63) 40 3 (.int .i64 0) 8 rfl Tryz.underlying40 eT rfl (by decide) (by omega) u7 l7 On [.int .i64 On] (fun k_ => (w.heap.size ≤ k_)) (fun _ => False) rfl rfl ?aP (fun _ hk => hk.elim) ?aF ?aO ?aB ?aS ?aL ?_; (case aP => exact rfl); (case aB => exact (mb HB.out)); (case aF => exact (fun k_ hk => (Nat.le_trans (aC (mb HB.out)) hk))); (case aO => exact (ci cf.out)); (case aS => exact (aC (mb HB.out))); (case aL => have := ans.out; omega); intro v305 w41 ho hb hg bk; rw [← ant.out] at ho; replace bQ := am (Kd.bH (ok := (fun k_ => (cT k_ ∨ w.heap.size ≤ k_) ∧ some k_ ≠ (.slice mO bg.length iJ : Value).ownBlock ∧ some k_ ≠ (.slice X_ mo.length Xa : Value).ownBlock ∧ some k_ ≠ (.slice mO bg.length iJ : Value).ownBlock)) (Kd.af (c_ bQ.out) (fun _ hk => ⟨⟨hk.1, ⟨hk.2.1, ⟨hk.2.2.2.1, hk.2.2.2.2⟩⟩⟩, hk.2.2.1⟩)) hg bk); replace cW := am (Kd.dJ (ok := (fun k_ => (cT k_ ∨ w.heap.size ≤ k_) ∧ some k_ ≠ (.slice X_ mo.length Xa : Value).ownBlock)) (Kd.bK (dX cW.out) (fun _ hk => ⟨⟨hk.1, hk.2.2⟩, hk.2.1⟩)) hg bk); replace ch := am (Kd.dJ (ok := (fun k_ => (cT k_ ∨ w.heap.size ≤ k_) ∧ some k_ ≠ (.slice mO bg.length iJ : Value).ownBlock ∧ some k_ ≠ (.slice mO bg.length iJ : Value).ownBlock)) (Kd.bK (dX ch.out) (fun _ hk => ⟨⟨hk.1, ⟨hk.2.1, hk.2.2.2⟩⟩, hk.2.2.1⟩)) hg bk); replace kL := am (Kd.dJ (ok := (fun k_ => (cT k_ ∨ w.heap.size ≤ k_) ∧ some k_ ≠ (.slice X_ mo.length Xa : Value).ownBlock)) (Kd.bK (dX kL.out) (fun _ hk => ⟨⟨hk.1, hk.2.2⟩, hk.2.1⟩)) hg bk); replace HB := am (hb); have anu := am (ho); clear cf; clear ho hb hg bk))
        go_roundg k3
        case measure => have := dP.out; have := ft.out; have := nQ.out; omega
        case rel => exact ⟨(af0), (wrap64 (kO + 1)), dM, H', ⟨by have := dP.out; have := ft.out; have := nQ.out; omega⟩, ⟨Kd.af (c_ bQ.out) (fun _ hk => ⟨hk.1.1, ⟨hk.1.2.1, hk.2⟩⟩)⟩, ⟨Kd.bK (dX cW.out) (fun _ hk => ⟨hk.1.1, hk.2⟩)⟩, ⟨ci anu.out⟩, ⟨mb HB.out⟩⟩
       rw [if_pos HU] at H
       have QT := decide_eq_true HU
       clear HU
       replace H := fW H; obtain ⟨Ql, H⟩ := H
       replace H := fW H; obtain ⟨sq, H⟩ := H
       replace H := bZ H; obtain ⟨lf, pa, H⟩ := H
       replace H := fW H; obtain ⟨Kz, H⟩ := H
       replace H := fW H; obtain ⟨pH, H⟩ := H
       replace H := fW H; obtain ⟨xA, H⟩ := H
       replace H := br (lf.set (kO : Int).toNat ((au l0 kC).f1)) (fun TQ => (if mo.length < 5864062014805 then (aY.l2 k3 l0 bg oA l7 kO (mo ++ [TQ]) (l0.length : Int) kO bg (bg.length : Int) (wrap64 (kC + 1))) else (none)) = some r) H; obtain ⟨TQ, anv, H⟩ := H
       replace H := np H; obtain ⟨anw, H⟩ := H
       replace H := br (mo ++ [TQ]) (fun af1 => (aY.l2 k3 l0 bg oA l7 kO af1 (l0.length : Int) kO bg (bg.length : Int) (wrap64 (kC + 1))) = some r) H; obtain ⟨af1, anx, H⟩ := H
       have H' := Aside0.mk H
       clear H
       have Xb : 0 ≤ (kC : Int) := bX
       have Xc : kC < (bg.length : Int) := bX
       obtain ⟨lX, af2, af3, atm, Xd, NA, NB⟩ := eO (Kd.cZ kL.out).2.2 kC Xb Xc
       cases atm
       obtain ⟨avD, af4, af5, TR⟩ := Kd.KI kL.out [] kC Xb (by first | exact Xc | exact bX | (have e_ := (Kd.cZ kL.out).1; omega))
       obtain ⟨apC, apD, rfl, ER, ES⟩ := Kd.dG af5
       have yi := TR 0 _ rfl
       rw [Nat.add_zero, show ((Kd.slice 3 (Kd.int .i64))).sz = 1 from rfl, Nat.mul_one] at yi
       replace yi := Option.some.inj (yi.symm.trans Xd)
       injection yi with fN iW fO
       rw [fN] at ES
       rw [fO] at ER
       have sR := Aside0.mk (show Kd.V (Kd.int .i64) 3 _ w.heap.size _ _ (aJ bg kC) from Kd.jo ER ES)
       clear fN iW fO ES ER
       clear TR af4
       have ET := Aside0.mk NB
       have Xe := Aside0.mk NA
       clear NB NA
       replace Xb := eq_true Xb
       replace Xc := eq_true Xc
       go_wp2_with (first | ((with_reducible refine gC 126 rfl ?_); refine gL 46 Tryz.func126 #[.slice af2 (aJ bg kC).length af3] ?_; (with_reducible refine (dA.calls _ _ (aJ bg kC) lf _ ?aT ?aU pa.out).mono ?_); (case aT => exact fy ET.out); (case aU => exact Xe.out); rintro e w33 ⟨v296, rfl, cC, hb⟩; refine ⟨_, rfl, ?_⟩; replace bQ := am (Kd.cY (c_ bQ.out) (Kd.bf cC) hb); replace cW := am (Kd.cw (dX cW.out) (Kd.bf cC) hb); replace ch := am (Kd.cw (dX ch.out) (Kd.bf cC) hb); replace kL := am (Kd.cw (dX kL.out) (Kd.bf cC) hb); replace sR := am (Kd.cY (c_ sR.out) (Kd.bf cC) hb); have tC := am (Kd.cO (Kd.kT (Kd.jQ (M := fun k_ => (w.heap.size ≤ k_)) cC (aC (mb HB.out)) (fun k_ h_ => h_)) (Kd.iH (ci cf.out))) (aC (mb HB.out))); replace cf := am (Kd.gV (ci cf.out) (Kd.bf cC) hb); replace ET := am (Kd.bh (fy ET.out) hb); replace HB := bS HB hb; (try clear hb cC); have Xf : 0 ≤ (kC : Int) := bX; have Xg : kC < (l0.length : Int) := bX; obtain ⟨avE, atn, ato, atp, Xh, apE, apF, NC, ND⟩ := rq (Kd.bN bQ.out).2.2 kC Xf Xg; cases atp; obtain ⟨avF, af6, af7, TS⟩ := Kd.ly bQ.out Ha kC Xf (by first | exact Xg | exact bX | (have e_ := (Kd.bN bQ.out).1; omega)); obtain ⟨apG, apH, rfl, EU, EV⟩ := tG af7; have yj := TS 0 _ rfl; rw [Nat.add_zero] at yj; replace yj := Option.some.inj (yj.symm.trans Xh); injection yj with fN iW fO; rw [fN] at EV; rw [fO] at EU; have yk := Aside0.mk (show Kd.V (Kd.int .i64) 3 _ w.heap.size _ _ ((au l0 kC).f0) from Kd.jo EU EV); clear fN iW fO EV EU; clear TS af6; have apI := Aside0.mk ND; have apJ := Aside0.mk NC; clear ND NC; replace Xf := eq_true Xf; replace Xg := eq_true Xg; have p31 : 0 ≤ (kO : Int) := bX; have q31 : (kO : Int) < ((lf.length : Int) : Int) := bX; obtain ⟨nm, ja, Nn, anz, atq, awA, anA⟩ := Kd.lZ tC.out (by omega); (first | cases Nn | (injection Nn with kF wB wC; (first | subst kF | (injection kF with kF; subst kF)); subst wC; clear wB)); have atr := Aside0.mk anz; have awB := Aside0.mk anA; clear anz atq anA; obtain ⟨att, atu⟩ := Kd.gx 0 tC.out (kO : Int) p31 q31; replace p31 := eq_true p31; replace q31 := eq_true q31; have n_ := Aside0.mk (Kd.bD (ok' := (fun k_ => (w.heap.size ≤ k_) ∧ some k_ ≠ (u7 : Value).ownBlock)) tC.out (fun k_ hk => ⟨hk.1.1, hk.2⟩)); clear tC; have tC := n_; clear n_; obtain ⟨avG, avH⟩ := Kd.gx 0 tC.out (kO : Int) (bX) (bX); have Je := Kd.nI tC.out (kO : Int) ((au l0 kC).f1)) | ((with_reducible refine fo (t := 3) (p := 54) rfl ?_); refine fM (t := 3) (p := 54) (v := ?afb) (w1 := (w33.setCell ⟨nm, (kO : Int).toNat, none⟩ (.int .i64 ((au l0 kC).f1)))) ?hg ?ho ?hn ?hr ?_; (case ho => rfl); (case hg => rfl); (case hn => rfl); (case hr => first | (go_simp; done) | (go_simp; rfl)); intro Qo hw; have hg : w33.grownBy Qo (some nm) := (by rw [hw]; exact Je.2); have rR : Kd.R (Kd.int .i64) 3 Qo w.heap.size (fun k_ => (w.heap.size ≤ k_) ∧ some k_ ≠ (u7 : Value).ownBlock) (.slice (some ⟨nm, 0, none⟩) lf.length ja) TQ := (by rw [hw, anv.out]; exact Je.1); clear Je; replace bQ := am (Kd.bH (v := (.slice (some ⟨nm, 0, none⟩) lf.length ja)) (v1 := (.slice (some ⟨nm, 0, none⟩) lf.length ja)) (ok := (fun k_ => (cT k_ ∨ w.heap.size ≤ k_) ∧ some k_ ≠ (.slice (some lX) bg.length iJ : Value).ownBlock ∧ some k_ ≠ (u7 : Value).ownBlock ∧ some k_ ≠ (u9 : Value).ownBlock ∧ some k_ ≠ (.slice (some lX) bg.length iJ : Value).ownBlock)) (c_ bQ.out) hg (.inl rfl)); replace cW := am (Kd.dJ (v := (.slice (some ⟨nm, 0, none⟩) lf.length ja)) (v1 := (.slice (some ⟨nm, 0, none⟩) lf.length ja)) (ok := (fun k_ => (cT k_ ∨ w.heap.size ≤ k_) ∧ some k_ ≠ (u7 : Value).ownBlock ∧ some k_ ≠ (u9 : Value).ownBlock)) (dX cW.out) hg (.inl rfl)); replace cf := am (Kd.fF (v := (.slice (some ⟨nm, 0, none⟩) lf.length ja)) (v1 := (.slice (some ⟨nm, 0, none⟩) lf.length ja)) (ok := (fun k_ => (w.heap.size ≤ k_))) (ci cf.out) hg (.inl rfl)); replace ch := am (Kd.dJ (v := (.slice (some ⟨nm, 0, none⟩) lf.length ja)) (v1 := (.slice (some ⟨nm, 0, none⟩) lf.length ja)) (ok := (fun k_ => (cT k_ ∨ w.heap.size ≤ k_) ∧ some k_ ≠ (.slice (some lX) bg.length iJ : Value).ownBlock ∧ some k_ ≠ (u7 : Value).ownBlock ∧ some k_ ≠ (.slice (some lX) bg.length iJ : Value).ownBlock)) (dX ch.out) hg (.inl rfl)); replace kL := am (Kd.dJ (v := (.slice (some ⟨nm, 0, none⟩) lf.length ja)) (v1 := (.slice (some ⟨nm, 0, none⟩) lf.length ja)) (ok := (fun k_ => (cT k_ ∨ w.heap.size ≤ k_) ∧ some k_ ≠ (u7 : Value).ownBlock ∧ some k_ ≠ (u9 : Value).ownBlock)) (dX kL.out) hg (.inl rfl)); replace sR := am (Kd.bH (v := (.slice (some ⟨nm, 0, none⟩) lf.length ja)) (v1 := (.slice (some ⟨nm, 0, none⟩) lf.length ja)) (ok := (fun k_ => (cT k_ ∨ w.heap.size ≤ k_) ∧ some k_ ≠ (u7 : Value).ownBlock ∧ some k_ ≠ (u9 : Value).ownBlock ∧ some k_ ≠ (.slice (some lX) bg.length iJ : Value).ownBlock)) (Kd.af (c_ sR.out) (fun _ hk => ⟨⟨hk.1.1.1, ⟨hk.1.1.2.1, ⟨hk.1.1.2.2, hk.1.2⟩⟩⟩, hk.2⟩)) hg (.inl rfl)); replace tC := am (rR); replace yk := am (Kd.bH (v := (.slice (some ⟨nm, 0, none⟩) lf.length ja)) (v1 := (.slice (some ⟨nm, 0, none⟩) lf.length ja)) (ok := (fun k_ => (cT k_ ∨ w.heap.size ≤ k_) ∧ some k_ ≠ (.slice (some lX) bg.length iJ : Value).ownBlock ∧ some k_ ≠ (u7 : Value).ownBlock ∧ some k_ ≠ (u9 : Value).ownBlock ∧ some k_ ≠ (.slice (some lX) bg.length iJ : Value).ownBlock)) (c_ yk.out) hg (.inl rfl)); replace HB := am ((by rw [hw]; exact dj (HB.out) atr.out : Below w.heap.size w Qo)); clear hg hw rR) | ((with_reducible refine bC (b := .append) (xs := #[.tmp 55, .tmp 57]) rfl ?_); at_builtin; refine Kd.iX (Kd.slice 3 (Kd.int .i64)) (w0 := w) w.heap.size rfl (.tmp 55) (.tmp 57) 22 40 (.slice none 0 0) 24 rfl Tryz.underlying22 gM rfl (by decide) (by omega) u9 mo TQ [.slice (some ⟨nm, 0, none⟩) lf.length ja] (fun k_ => (cT k_ ∨ w.heap.size ≤ k_) ∧ some k_ ≠ (.slice (some lX) bg.length iJ : Value).ownBlock ∧ some k_ ≠ (u7 : Value).ownBlock ∧ some k_ ≠ (.slice (some lX) bg.length iJ : Value).ownBlock) (fun k_ => ((fun k_ => (cT k_ ∨ w.heap.size ≤ k_) ∧ some k_ ≠ (.slice (some lX) bg.length iJ : Value).ownBlock ∧ some k_ ≠ (u7 : Value).ownBlock ∧ some k_ ≠ (.slice (some lX) bg.length iJ : Value).ownBlock)) k_ ∧ some k_ ≠ (u9 : Value).ownBlock) rfl rfl ?aP (fun _ hk => hk) ?aF ?aO ?aB ?aS ?aL ?_; (case aP => exact (FKR (Kd.bD (ok' := (fun k_ => ((fun k_ => (cT k_ ∨ w.heap.size ≤ k_) ∧ some k_ ≠ (.slice (some lX) bg.length iJ : Value).ownBlock ∧ some k_ ≠ (u7 : Value).ownBlock ∧ some k_ ≠ (.slice (some lX) bg.length iJ : Value).ownBlock)) k_ ∧ some k_ ≠ (u9 : Value).ownBlock)) (Kd.cX (Kd.cX (Kd.cX (tC.out) (Kd.dy cW.out) (by decide)) (Kd.dy kL.out) (by decide)) (Kd.dy ch.out) (by decide)) (fun k_ hk => ⟨⟨(.inr (hk.1.1.1.1)), ⟨hk.1.1.2, ⟨hk.1.1.1.2, hk.1.2⟩⟩⟩, hk.2⟩)))); (case aB => exact (mb HB.out)); (case aF => exact (fun k_ hk => ⟨(.inr (Nat.le_trans (aC (mb HB.out)) hk)), Kd.dz (Kd.rH (dX cW.out)) k_ hk, Kd.dz (Kd.iH (ci cf.out)) k_ hk, Kd.dz (Kd.rH (dX kL.out)) k_ hk⟩)); (case aO => exact (Kd.bK (dX ch.out) (fun _ hk => ⟨hk.1.1, ⟨hk.1.2.1, ⟨hk.1.2.2.1, hk.1.2.2.2⟩⟩⟩))); (case aS => exact (aC (mb HB.out))); (case aL => have := anw.out; omega); intro v301 w36 ho hb hg bk; rw [← anx.out] at ho; replace bQ := am (Kd.bH (ok := (fun k_ => (cT k_ ∨ w.heap.size ≤ k_) ∧ some k_ ≠ (.slice (some lX) bg.length iJ : Value).ownBlock ∧ some k_ ≠ (u7 : Value).ownBlock ∧ some k_ ≠ (.slice (some lX) bg.length iJ : Value).ownBlock ∧ some k_ ≠ (.slice (some ⟨nm, 0, none⟩) lf.length ja : Value).ownBlock)) (Kd.af (c_ bQ.out) (fun _ hk => ⟨⟨hk.1.1, ⟨hk.1.2.1, ⟨hk.1.2.2.1, ⟨hk.1.2.2.2.2, hk.2⟩⟩⟩⟩, hk.1.2.2.2.1⟩)) hg bk); replace cW := am (Kd.dJ (ok := (fun k_ => (cT k_ ∨ w.heap.size ≤ k_) ∧ some k_ ≠ (u7 : Value).ownBlock ∧ some k_ ≠ (.slice (some ⟨nm, 0, none⟩) lf.length ja : Value).ownBlock)) (Kd.bK (dX cW.out) (fun _ hk => ⟨⟨hk.1.1, ⟨hk.1.2.1, hk.2⟩⟩, hk.1.2.2⟩)) hg bk); replace cf := am (Kd.ph (ci cf.out) (Kd.dy (dX ch.out)) (by decide) hg); replace kL := am (Kd.dJ (ok := (fun k_ => (cT k_ ∨ w.heap.size ≤ k_) ∧ some k_ ≠ (u7 : Value).ownBlock ∧ some k_ ≠ (.slice (some ⟨nm, 0, none⟩) lf.length ja : Value).ownBlock)) (Kd.bK (dX kL.out) (fun _ hk => ⟨⟨hk.1.1, ⟨hk.1.2.1, hk.2⟩⟩, hk.1.2.2⟩)) hg bk); replace sR := am (Kd.bH (ok := (fun k_ => (cT k_ ∨ w.heap.size ≤ k_) ∧ some k_ ≠ (u7 : Value).ownBlock ∧ some k_ ≠ (.slice (some lX) bg.length iJ : Value).ownBlock ∧ some k_ ≠ (.slice (some ⟨nm, 0, none⟩) lf.length ja : Value).ownBlock)) (Kd.af (c_ sR.out) (fun _ hk => ⟨⟨hk.1.1, ⟨hk.1.2.1, ⟨hk.1.2.2.2, hk.2⟩⟩⟩, hk.1.2.2.1⟩)) hg bk); replace yk := am (Kd.bH (ok := (fun k_ => (cT k_ ∨ w.heap.size ≤ k_) ∧ some k_ ≠ (.slice (some lX) bg.length iJ : Value).ownBlock ∧ some k_ ≠ (u7 : Value).ownBlock ∧ some k_ ≠ (.slice (some lX) bg.length iJ : Value).ownBlock ∧ some k_ ≠ (.slice (some ⟨nm, 0, none⟩) lf.length ja : Value).ownBlock)) (Kd.af (c_ yk.out) (fun _ hk => ⟨⟨hk.1.1, ⟨hk.1.2.1, ⟨hk.1.2.2.1, ⟨hk.1.2.2.2.2, hk.2⟩⟩⟩⟩, hk.1.2.2.2.1⟩)) hg bk); replace HB := am (hb); have anB := am (ho); clear ch; clear tC; clear ho hb hg bk))
       go_roundg k3
       case measure => have := dP.out; have := ft.out; have := nQ.out; omega
       case rel => exact ⟨(l7), (af1), (wrap64 (kC + 1)), dM, H', ⟨by have := dP.out; have := ft.out; have := nQ.out; omega⟩, ⟨Kd.af (c_ bQ.out) (fun _ hk => ⟨hk.1.1, ⟨hk.1.2.1, ⟨hk.1.2.2.1, ⟨hk.2, hk.1.2.2.2.1⟩⟩⟩⟩)⟩, ⟨Kd.bK (dX cW.out) (fun _ hk => ⟨hk.1.1, ⟨hk.1.2.1, hk.2⟩⟩)⟩, ⟨Kd.bD (ci cf.out) (fun _ hk => hk.1)⟩, ⟨dX anB.out⟩, ⟨Kd.bK (dX kL.out) (fun _ hk => ⟨hk.1.1, ⟨hk.1.2.1, hk.2⟩⟩)⟩, ⟨mb HB.out⟩⟩
mutual
def bF.l0 : Nat → List Int → Int → List Int → List Int → Int → Int → Option (List Int)
 | 0, _, _, _, _, _, _ => none
 | k + 1, x0, x3, x4, iM, jd, oE => if oE < jd then (if 0 ≤ oE then (if oE < (iM.length : Int) then ((dW.f k x3 (rd iM oE)).bind fun Xi => (bF.l0 k x0 Xi x4 iM jd (wrap64 (oE + 1)))) else (none)) else (none)) else (bF.l1 k x3 x4 x0 (x0.length : Int) 0)
def bF.l1 : Nat → Int → List Int → List Int → Int → Int → Option (List Int)
 | 0, _, _, _, _, _ => none
 | k + 1, x3, x4, xZ, xb, B5 => if B5 < xb then (if 0 ≤ B5 then (if B5 < (xZ.length : Int) then (if (mx x3 1) = 0 then (none) else (if x4.length < 17592186044416 then (bF.l1 k x3 (x4 ++ [wrap64 (Int.tdiv (rd xZ B5) (mx x3 1))]) xZ xb (wrap64 (B5 + 1))) else (none))) else (none)) else (none)) else (some x4)
end
def bF.f (k : Nat) (l0 : List Int) : Option (List Int) := bF.l0 k l0 0 (([] : List Int)) l0 (l0.length : Int) 0
theorem bF.bG : ∀ k, (∀ y0 y1 y2 y3 y4 y5, bB (bF.l0 k y0 y1 y2 y3 y4 y5) (bF.l0 (k + 1) y0 y1 y2 y3 y4 y5)) ∧ (∀ y0 y1 y2 y3 y4, bB (bF.l1 k y0 y1 y2 y3 y4) (bF.l1 (k + 1) y0 y1 y2 y3 y4))
 | 0 => ⟨fun _ _ _ _ _ _ r h => by simp [bF.l0] at h, fun _ _ _ _ _ r h => by simp [bF.l1] at h⟩
 | k + 1 => by
  obtain ⟨eQ, kP⟩ := bF.bG k
  refine ⟨?_, ?_⟩ <;> intros <;> (first | unfold bF.l0 | unfold bF.l1)
  all_goals repeat' first
  | (with_reducible exact eQ ..)
  | (with_reducible exact kP ..)
  | (with_reducible exact dW.mono ..)
  | (with_reducible exact bB.refl _)
  | (with_reducible exact bB.none _)
  | (with_reducible refine bB.ite ?_ ?_)
  | (with_reducible refine bB.bind ?_ (fun _ => ?_))
theorem bF.mono : ∀ a0 k, bB (bF.f k a0) (bF.f (k + 1) a0) := by
 intro a0 k
 obtain ⟨eQ, kP⟩ := bF.bG k
 unfold bF.f
 repeat' first
   | (with_reducible exact eQ ..)
   | (with_reducible exact kP ..)
   | (with_reducible exact dW.mono ..)
   | (with_reducible exact bB.refl _)
   | (with_reducible exact bB.none _)
   | (with_reducible refine bB.ite ?_ ?_)
   | (with_reducible refine bB.bind ?_ (fun _ => ?_))
theorem bF.calls (k : Nat) (A0 : Option Addr) (c0 : Nat) (l0 : List Int) (r : List Int) (w : World) (gD : Kd.C (Kd.int .i64) w A0 l0.length l0) (hJ : l0.length ≤ c0) (h : bF.f k l0 = some r) :
  Calls Tryz.prog 133 #[.slice A0 l0.length c0] w fun e w' => ∃ iE : Value, e = .returned (iE) ∧ Kd.R (Kd.int .i64) 3 w' w.heap.size (fun _ => True) iE r ∧ Below w.heap.size w w' := by
 have jt := Aside0.mk gD
 have wj := Aside0.mk hJ
 clear gD hJ
 have HB := Aside0.mk (Below.refl w.heap.size w)
 have H : (bF.l0 k l0 0 (([] : List Int)) l0 (l0.length : Int) 0) = some r := h
 clear h
 replace H := br (([] : List Int)) (fun TT => (bF.l0 k l0 0 TT l0 (l0.length : Int) 0) = some r) H; obtain ⟨TT, aaj, H⟩ := H
 have H' := Aside0.mk H
 clear H
 go_enter Tryz.func133, Tryz.ntmps133
 go_wp2_with (first | ((with_reducible refine ah (N := 9) rfl ?_); refine Kd.ov (Kd.int .i64) _ 3 ?hg (N := 9) ?hd (xs := ([] : List Int)) (inner := []) (ok := fun _ => True) (okp := fun _ => True) ?hr ?hp (fun _ hk => hk) trivial (Below.refl _ _) (Nat.le_refl _) (by simp) ?_; (case hd => rfl); (case hg => rfl); (case hr => first | (go_simp; done) | (go_simp; rfl)); (case hp => exact (cV.none _ _)); intro v322 w2 PB hb jn dB; clear jn dB; (first | rw [← aaj.out] at PB | (simp only [Int.reduceToNat] at PB; rw [← aaj.out] at PB)); have anC := am (Kd.cO PB (aC (mb HB.out))); replace HB := bS HB hb; clear hb PB))
 go_loopg [3, 12] k (fun kq v3 v12 w' => ∃ (bg : Int) (dn : Int), v3 = .int .i64 bg ∧ v12 = .int .i64 dn ∧ Aside0 (bF.l0 kq l0 bg TT l0 (l0.length : Int) dn = some r) ∧ Aside0 (kq ≤ k) ∧ Aside0 (Kd.R (Kd.int .i64) 3 w' w.heap.size (fun _ => True) v322 TT) ∧ Aside0 (Below w.heap.size w w'))
 case atStart => exact ⟨(0), (0), dM, dM, H', ⟨Nat.le_refl _⟩, ⟨ci anC.out⟩, ⟨mb HB.out⟩⟩
 case round =>
  clear H'
  obtain ⟨bg, dn, rfl, rfl, HA, dP, eh, HB⟩ := hrel
  cases gk with
  | zero => exact absurd HA.out (by simp [bF.l0])
  | succ k1 =>
   have H := HA.out
   clear HA
   simp only [bF.l0] at H
   by_cases c4 : dn < (l0.length : Int)
   ·rw [if_pos c4] at H
    have iI := decide_eq_true c4
    clear c4
    replace H := fW H; obtain ⟨jR, H⟩ := H
    replace H := fW H; obtain ⟨hU, H⟩ := H
    replace H := bZ H; obtain ⟨Xi, A7, H⟩ := H
    have H' := Aside0.mk H
    clear H
    have af8 : 0 ≤ (dn : Int) := bX
    have af9 : dn < (l0.length : Int) := bX
    obtain ⟨avI, atv, EW⟩ := Kd.bi jt.out dn af8 af9
    cases atv
    replace EW := (HB.out.cell (World.block_lt_of_cell? w _ EW)).trans EW
    replace af8 := eq_true af8
    replace af9 := eq_true af9
    go_wp2_with (first | ((with_reducible refine gC 151 rfl ?_); refine gL 18 Tryz.func151 #[.int .i64 bg, .int .i64 (rd l0 dn)] ?_; (with_reducible refine (dW.calls k1 bg (rd l0 dn) Xi _ A7.out).mono ?_); rintro e w' ⟨rfl, ⟨nd, rfl⟩⟩; refine ⟨_, rfl, ?_⟩))
    go_roundg k1
    case measure => have := dP.out; omega
    case rel => exact ⟨(Xi), (wrap64 (dn + 1)), dM, dM, H', ⟨by have := dP.out; omega⟩, ⟨ci eh.out⟩, ⟨mb HB.out⟩⟩
   rw [if_neg c4] at H
   have iI := decide_eq_false c4
   clear c4
   have H' := Aside0.mk H
   clear H
   go_wp2
   go_loopg [4, 22] k1 (fun kq v4 v22 w' => ∃ (Jr : List Int) (o3 : Int), v22 = .int .i64 o3 ∧ Aside0 (bF.l1 kq bg Jr l0 (l0.length : Int) o3 = some r) ∧ Aside0 (kq ≤ k1) ∧ Aside0 (Kd.R (Kd.int .i64) 3 w' w.heap.size (fun _ => True) v4 Jr) ∧ Aside0 (Below w.heap.size w w'))
   case atStart => exact ⟨(TT), (0), dM, H', ⟨Nat.le_refl _⟩, ⟨ci eh.out⟩, ⟨mb HB.out⟩⟩
   case round =>
    clear H'
    obtain ⟨Jr, o3, rfl, HA, ft, eh, HB⟩ := hrel
    cases gk with
    | zero => exact absurd HA.out (by simp [bF.l1])
    | succ k2 =>
     have H := HA.out
     clear HA
     simp only [bF.l1] at H
     by_cases c8 : o3 < (l0.length : Int)
     rotate_left
     ·rw [if_neg c8] at H
      have oz := decide_eq_false c8
      clear c8
      obtain rfl := Option.some.inj H
      go_wp2
      go_ret
      exact ⟨_, jC, ci eh.out, mb HB.out⟩
     rw [if_pos c8] at H
     have oz := decide_eq_true c8
     clear c8
     replace H := fW H; obtain ⟨tF, H⟩ := H
     replace H := fW H; obtain ⟨oC, H⟩ := H
     obtain ⟨Oo, TU⟩ : ∃ j_ : Int, (mx bg 1) = j_ := ⟨_, rfl⟩
     replace H : (if (Oo) = 0 then (none) else (if Jr.length < 17592186044416 then (bF.l1 k2 bg (Jr ++ [wrap64 (Int.tdiv (rd l0 o3) (Oo))]) l0 (l0.length : Int) (wrap64 (o3 + 1))) else (none))) = some r := by first | (rw [TU] at H; exact H) | (simp only [TU] at H ⊢; exact H)
     have atw : (if bg < 1 then 1 else bg) = Oo := TU
     replace H := ifN H; obtain ⟨uF, H⟩ := H
     have uG := iQ uF
     have Pt := iR uF
     replace H := np H; obtain ⟨Q9, H⟩ := H
     replace H := br (Jr ++ [wrap64 (Int.tdiv (rd l0 o3) (Oo))]) (fun af_ => (bF.l1 k2 bg af_ l0 (l0.length : Int) (wrap64 (o3 + 1))) = some r) H; obtain ⟨af_, anD, H⟩ := H
     have H' := Aside0.mk H
     clear H
     have af' : 0 ≤ (o3 : Int) := bX
     have aga : o3 < (l0.length : Int) := bX
     obtain ⟨avJ, atx, EX⟩ := Kd.bi jt.out o3 af' aga
     cases atx
     replace EX := (HB.out.cell (World.block_lt_of_cell? w _ EX)).trans EX
     replace af' := eq_true af'
     replace aga := eq_true aga
     go_wp2_with (first | ((with_reducible refine bC (b := .append) (xs := #[.tmp 26, .tmp 31]) rfl ?_); at_builtin; refine Kd.fV (Kd.int .i64) (w0 := w) w.heap.size rfl (.tmp 26) (.tmp 31) 40 3 (.int .i64 0) 8 rfl Tryz.underlying40 eT rfl (by decide) (by omega) u4 Jr (wrap64 (Int.tdiv (rd l0 o3) (Oo))) [.int .i64 (wrap64 (Int.tdiv (rd l0 o3) (Oo)))] (fun _ => True) (fun _ => False) rfl rfl ?aP (fun _ hk => hk.elim) ?aF ?aO ?aB ?aS ?aL ?_; (case aP => exact rfl); (case aB => exact (mb HB.out)); (case aF => exact (fun _ _ => trivial)); (case aO => exact (ci eh.out)); (case aS => exact (aC (mb HB.out))); (case aL => have := Q9.out; omega); intro v328 w14 ho hb hg bk; rw [← anD.out] at ho; replace HB := am (hb); have anE := am (ho); clear eh; clear ho hb hg bk))
     go_roundg k2
     case measure => have := dP.out; have := ft.out; omega
     case rel => exact ⟨(af_), (wrap64 (o3 + 1)), dM, H', ⟨by have := dP.out; have := ft.out; omega⟩, ⟨ci anE.out⟩, ⟨mb HB.out⟩⟩
def cmp_isNaN_int.f (a0 : Int) : Option (Bool) := some (a0 != a0)
theorem cmp_isNaN_int.calls (a0 : Int) (r : Bool) (w : World) (h : cmp_isNaN_int.f a0 = some r) :
  Calls Tryz.prog 187 #[.int .i64 a0] w fun e w' => e = .returned (.bool r) ∧ bM w w' := by
 have H : (some (a0 != a0)) = some r := h
 clear h
 obtain rfl := Option.some.inj H
 go_enter Tryz.func187, Tryz.ntmps187
 go_wp2
 go_ret
 exact ⟨mL, mM⟩
def gB.f (a0 : Int) (a1 : Int) : Option (Int) := (cmp_isNaN_int.f a0).bind fun TV => ((cmp_isNaN_int.f a1).bind fun HG => (if TV = true then (if HG = true then (some 0) else (some (-1))) else (if HG = true then (some 1) else (if a0 < a1 then (some (-1)) else (if a0 > a1 then (some 1) else (some 0))))))
theorem gB.calls (a0 : Int) (a1 : Int) (r : Int) (w : World) (h : gB.f a0 a1 = some r) :
  Calls Tryz.prog 161 #[.int .i64 a0, .int .i64 a1] w fun e w' => e = .returned (.int .i64 r) ∧ bM w w' := by
 have H : ((cmp_isNaN_int.f a0).bind fun TV => ((cmp_isNaN_int.f a1).bind fun HG => (if TV = true then (if HG = true then (some 0) else (some (-1))) else (if HG = true then (some 1) else (if a0 < a1 then (some (-1)) else (if a0 > a1 then (some 1) else (some 0))))))) = some r := h
 clear h
 replace H := bZ H; obtain ⟨TV, A3, H⟩ := H
 replace H := bZ H; obtain ⟨HG, A4, H⟩ := H
 by_cases c5 : TV = true
 ·subst c5
  replace H := sY H
  by_cases c6 : HG = true
  ·subst c6
   replace H := sY H
   obtain rfl := Option.some.inj H
   go_enter Tryz.func161, Tryz.ntmps161
   go_wp2_with (first | ((with_reducible refine gC 187 rfl ?_); refine gL 8 Tryz.func187 #[.int .i64 a0] ?_; (with_reducible refine (cmp_isNaN_int.calls a0 true _ A3.out).mono ?_); rintro e w' ⟨rfl, ⟨nd, rfl⟩⟩; refine ⟨_, rfl, ?_⟩) | ((with_reducible refine gC 187 rfl ?_); refine gL 10 Tryz.func187 #[.int .i64 a1] ?_; (with_reducible refine (cmp_isNaN_int.calls a1 true _ A4.out).mono ?_); rintro e w' ⟨rfl, ⟨nd, rfl⟩⟩; refine ⟨_, rfl, ?_⟩))
   go_ret
   exact ⟨mL, mM⟩
  replace c6 := Bool.eq_false_iff.mpr c6
  subst c6
  replace H := sZ H
  obtain rfl := Option.some.inj H
  go_enter Tryz.func161, Tryz.ntmps161
  go_wp2_with (first | ((with_reducible refine gC 187 rfl ?_); refine gL 8 Tryz.func187 #[.int .i64 a0] ?_; (with_reducible refine (cmp_isNaN_int.calls a0 true _ A3.out).mono ?_); rintro e w' ⟨rfl, ⟨nd, rfl⟩⟩; refine ⟨_, rfl, ?_⟩) | ((with_reducible refine gC 187 rfl ?_); refine gL 10 Tryz.func187 #[.int .i64 a1] ?_; (with_reducible refine (cmp_isNaN_int.calls a1 false _ A4.out).mono ?_); rintro e w' ⟨rfl, ⟨nd, rfl⟩⟩; refine ⟨_, rfl, ?_⟩))
  go_ret
  exact ⟨mL, mM⟩
 replace c5 := Bool.eq_false_iff.mpr c5
 subst c5
 replace H := sZ H
 by_cases c7 : HG = true
 ·subst c7
  replace H := sY H
  obtain rfl := Option.some.inj H
  go_enter Tryz.func161, Tryz.ntmps161
  go_wp2_with (first | ((with_reducible refine gC 187 rfl ?_); refine gL 8 Tryz.func187 #[.int .i64 a0] ?_; (with_reducible refine (cmp_isNaN_int.calls a0 false _ A3.out).mono ?_); rintro e w' ⟨rfl, ⟨nd, rfl⟩⟩; refine ⟨_, rfl, ?_⟩) | ((with_reducible refine gC 187 rfl ?_); refine gL 10 Tryz.func187 #[.int .i64 a1] ?_; (with_reducible refine (cmp_isNaN_int.calls a1 true _ A4.out).mono ?_); rintro e w' ⟨rfl, ⟨nd, rfl⟩⟩; refine ⟨_, rfl, ?_⟩))
  go_ret
  exact ⟨mL, mM⟩
 replace c7 := Bool.eq_false_iff.mpr c7
 subst c7
 replace H := sZ H
 by_cases c8 : a0 < a1
 ·rw [if_pos c8] at H
  have oz := decide_eq_true c8
  clear c8
  obtain rfl := Option.some.inj H
  go_enter Tryz.func161, Tryz.ntmps161
  go_wp2_with (first | ((with_reducible refine gC 187 rfl ?_); refine gL 8 Tryz.func187 #[.int .i64 a0] ?_; (with_reducible refine (cmp_isNaN_int.calls a0 false _ A3.out).mono ?_); rintro e w' ⟨rfl, ⟨nd, rfl⟩⟩; refine ⟨_, rfl, ?_⟩) | ((with_reducible refine gC 187 rfl ?_); refine gL 10 Tryz.func187 #[.int .i64 a1] ?_; (with_reducible refine (cmp_isNaN_int.calls a1 false _ A4.out).mono ?_); rintro e w' ⟨rfl, ⟨nd, rfl⟩⟩; refine ⟨_, rfl, ?_⟩))
  go_ret
  exact ⟨mL, mM⟩
 rw [if_neg c8] at H
 have oz := decide_eq_false c8
 clear c8
 by_cases c9 : a0 > a1
 ·rw [if_pos c9] at H
  have tF : decide (a1 < a0) = true := decide_eq_true c9
  clear c9
  obtain rfl := Option.some.inj H
  go_enter Tryz.func161, Tryz.ntmps161
  go_wp2_with (first | ((with_reducible refine gC 187 rfl ?_); refine gL 8 Tryz.func187 #[.int .i64 a0] ?_; (with_reducible refine (cmp_isNaN_int.calls a0 false _ A3.out).mono ?_); rintro e w' ⟨rfl, ⟨nd, rfl⟩⟩; refine ⟨_, rfl, ?_⟩) | ((with_reducible refine gC 187 rfl ?_); refine gL 10 Tryz.func187 #[.int .i64 a1] ?_; (with_reducible refine (cmp_isNaN_int.calls a1 false _ A4.out).mono ?_); rintro e w' ⟨rfl, ⟨nd, rfl⟩⟩; refine ⟨_, rfl, ?_⟩))
  go_ret
  exact ⟨mL, mM⟩
 rw [if_neg c9] at H
 have tF : decide (a1 < a0) = false := decide_eq_false c9
 clear c9
 obtain rfl := Option.some.inj H
 go_enter Tryz.func161, Tryz.ntmps161
 go_wp2_with (first | ((with_reducible refine gC 187 rfl ?_); refine gL 8 Tryz.func187 #[.int .i64 a0] ?_; (with_reducible refine (cmp_isNaN_int.calls a0 false _ A3.out).mono ?_); rintro e w' ⟨rfl, ⟨nd, rfl⟩⟩; refine ⟨_, rfl, ?_⟩) | ((with_reducible refine gC 187 rfl ?_); refine gL 10 Tryz.func187 #[.int .i64 a1] ?_; (with_reducible refine (cmp_isNaN_int.calls a1 false _ A4.out).mono ?_); rintro e w' ⟨rfl, ⟨nd, rfl⟩⟩; refine ⟨_, rfl, ?_⟩))
 go_ret
 exact ⟨mL, mM⟩
def an.l0 : Nat → List Int → List Int → List Int → Int → Int → Option (Int)
 | 0, _, _, _, _, _ => none
 | k + 1, x0, x1, x9, iM, jd => if jd < iM then (if 0 ≤ jd then (if jd < (x9.length : Int) then (if jd ≥ (x1.length : Int) then (some 1) else (if jd < (x1.length : Int) then ((gB.f (rd x9 jd) (rd x1 jd)).bind fun Oq => (if Oq = 0 then (an.l0 k x0 x1 x9 iM (wrap64 (jd + 1))) else (some Oq))) else (none))) else (none)) else (none)) else (if (x0.length : Int) < (x1.length : Int) then (some (-1)) else (some 0))
def an.f (k : Nat) (l0 : List Int) (l1 : List Int) : Option (Int) := an.l0 k l0 l1 l0 (l0.length : Int) 0
theorem an.bG : ∀ k, (∀ y0 y1 y2 y3 y4, bB (an.l0 k y0 y1 y2 y3 y4) (an.l0 (k + 1) y0 y1 y2 y3 y4))
 | 0 => fun _ _ _ _ _ r h => by simp [an.l0] at h
 | k + 1 => by
  have eQ := an.bG k
  ·intro y0 y1 y2 y3 y4
   unfold an.l0
   repeat' first
   | (with_reducible exact eQ ..)
   | (with_reducible exact bB.refl _)
   | (with_reducible exact bB.none _)
   | (with_reducible refine bB.ite ?_ ?_)
   | (with_reducible refine bB.bind ?_ (fun _ => ?_))
theorem an.mono : ∀ a0 a1 k, bB (an.f k a0 a1) (an.f (k + 1) a0 a1) := by
 intro a0 a1 k
 have eQ := an.bG k
 unfold an.f
 repeat' first
   | (with_reducible exact eQ ..)
   | (with_reducible exact bB.refl _)
   | (with_reducible exact bB.none _)
   | (with_reducible refine bB.ite ?_ ?_)
   | (with_reducible refine bB.bind ?_ (fun _ => ?_))
theorem an.calls (k : Nat) (A0 : Option Addr) (c0 : Nat) (l0 : List Int) (A1 : Option Addr) (c1 : Nat) (l1 : List Int) (r : Int) (w : World) (gD : Kd.C (Kd.int .i64) w A0 l0.length l0) (hJ : l0.length ≤ c0) (nn : Kd.C (Kd.int .i64) w A1 l1.length l1) (mN : l1.length ≤ c1) (h : an.f k l0 l1 = some r) :
  Calls Tryz.prog 135 #[.slice A0 l0.length c0, .slice A1 l1.length c1] w fun e w' => e = .returned (.int .i64 r) ∧ bM w w' := by
 have jt := Aside0.mk gD
 have wj := Aside0.mk hJ
 clear gD hJ
 have lz := Aside0.mk nn
 have Ag := Aside0.mk mN
 clear nn mN
 have H : (an.l0 k l0 l1 l0 (l0.length : Int) 0) = some r := h
 clear h
 have H' := Aside0.mk H
 clear H
 go_enter Tryz.func135, Tryz.ntmps135
 go_wp2
 go_loopg [11] k (fun kq v11 w' => ∃ (bj : Int), v11 = .int .i64 bj ∧ Aside0 (an.l0 kq l0 l1 l0 (l0.length : Int) bj = some r) ∧ Aside0 (kq ≤ k) ∧ bM w w')
 case atStart => exact ⟨(0), dM, H', ⟨Nat.le_refl _⟩, by repeat (first | exact bM.refl _ | apply bM.step)⟩
 case round =>
  clear H'
  obtain ⟨bj, rfl, HA, dP, ⟨m1, rfl⟩⟩ := hrel
  cases gk with
  | zero => exact absurd HA.out (by simp [an.l0])
  | succ k1 =>
   have H := HA.out
   clear HA
   simp only [an.l0] at H
   by_cases c3 : bj < (l0.length : Int)
   rotate_left
   ·rw [if_neg c3] at H
    have gX := decide_eq_false c3
    clear c3
    by_cases ot : (l0.length : Int) < (l1.length : Int)
    ·rw [if_pos ot] at H
     have oC := decide_eq_true ot
     have Bf : decide (l0.length < l1.length) = true := decide_eq_true (Int.ofNat_lt.mp ot)
     clear ot
     obtain rfl := Option.some.inj H
     go_wp2
     go_ret
     exact ⟨mL, mM⟩
    rw [if_neg ot] at H
    have oC := decide_eq_false ot
    have Bf : decide (l0.length < l1.length) = false := decide_eq_false (fun h => ot (Int.ofNat_lt.mpr h))
    clear ot
    obtain rfl := Option.some.inj H
    go_wp2
    go_ret
    exact ⟨mL, mM⟩
   rw [if_pos c3] at H
   have gX := decide_eq_true c3
   clear c3
   replace H := fW H; obtain ⟨iI, H⟩ := H
   replace H := fW H; obtain ⟨jR, H⟩ := H
   by_cases c6 : bj ≥ (l1.length : Int)
   ·rw [if_pos c6] at H
    have hU : decide ((l1.length : Int) ≤ bj) = true := decide_eq_true c6
    clear c6
    obtain rfl := Option.some.inj H
    have Aa : 0 ≤ (bj : Int) := bX
    have Ab : bj < (l0.length : Int) := bX
    obtain ⟨aak, TW, NE⟩ := Kd.bi jt.out bj Aa Ab
    cases TW
    replace Aa := eq_true Aa
    replace Ab := eq_true Ab
    go_wp2
    go_ret
    exact ⟨mL, mM⟩
   rw [if_neg c6] at H
   have hU : decide ((l1.length : Int) ≤ bj) = false := decide_eq_false c6
   clear c6
   replace H := fW H; obtain ⟨lO, H⟩ := H
   replace H := bZ H; obtain ⟨Oq, A8, H⟩ := H
   by_cases c9 : Oq = 0
   rotate_left
   ·rw [if_neg c9] at H
    have tF := iQ c9
    have ajS := iR c9
    obtain rfl := Option.some.inj H
    have Aa : 0 ≤ (bj : Int) := bX
    have Ab : bj < (l0.length : Int) := bX
    obtain ⟨aak, TW, NE⟩ := Kd.bi jt.out bj Aa Ab
    cases TW
    replace Aa := eq_true Aa
    replace Ab := eq_true Ab
    have Js : 0 ≤ (bj : Int) := bX
    have Jt : bj < (l1.length : Int) := bX
    obtain ⟨anF, agb, Xj⟩ := Kd.bi lz.out bj Js Jt
    cases agb
    replace Js := eq_true Js
    replace Jt := eq_true Jt
    go_wp2_with (first | ((with_reducible refine gC 161 rfl ?_); refine gL 26 Tryz.func161 #[.int .i64 (rd l0 bj), .int .i64 (rd l1 bj)] ?_; (with_reducible refine (gB.calls (rd l0 bj) (rd l1 bj) Oq _ A8.out).mono ?_); rintro e w' ⟨rfl, ⟨nd, rfl⟩⟩; refine ⟨_, rfl, ?_⟩))
    go_ret
    exact ⟨mL, mM⟩
   rw [if_pos c9] at H
   have tF := il c9
   have ajS := im c9
   clear c9
   have H' := Aside0.mk H
   clear H
   have Aa : 0 ≤ (bj : Int) := bX
   have Ab : bj < (l0.length : Int) := bX
   obtain ⟨aak, TW, NE⟩ := Kd.bi jt.out bj Aa Ab
   cases TW
   replace Aa := eq_true Aa
   replace Ab := eq_true Ab
   have Js : 0 ≤ (bj : Int) := bX
   have Jt : bj < (l1.length : Int) := bX
   obtain ⟨anF, agb, Xj⟩ := Kd.bi lz.out bj Js Jt
   cases agb
   replace Js := eq_true Js
   replace Jt := eq_true Jt
   go_wp2_with (first | ((with_reducible refine gC 161 rfl ?_); refine gL 26 Tryz.func161 #[.int .i64 (rd l0 bj), .int .i64 (rd l1 bj)] ?_; (with_reducible refine (gB.calls (rd l0 bj) (rd l1 bj) Oq _ A8.out).mono ?_); rintro e w' ⟨rfl, ⟨nd, rfl⟩⟩; refine ⟨_, rfl, ?_⟩))
   go_roundg k1
   case measure => have := dP.out; omega
   case rel => exact ⟨(wrap64 (bj + 1)), dM, H', ⟨by have := dP.out; omega⟩, by repeat (first | exact bM.refl _ | apply bM.step)⟩
end Go.Proofs.YtggiicplcglalaaGreat.All
end
