/- Part of the proof that FnExactWalkSteps answers true. -/
import Derived.Test.YtggiicplcglalaaGreatQW15
section
namespace Go.Proofs.YtggiicplcglalaaGreat.All
open Go.RowKit YtggiicplcglalaaGreatW.PrintWords YtggiicplcglalaaGreatW.PrintLast YtggiicplcglalaaGreatW.PrintMore
attribute [local go_sem] max2_int min2_int max_two min_two max_three min_three max_four min_four
set_option linter.unusedVariables false
set_option linter.unusedSimpArgs false
set_option maxHeartbeats 8000000
set_option maxRecDepth 100000
mutual
def aW.j0 : Nat → List (List Int) → Option ((List (List Int)))
 | 0, _ => none
 | k + 1, x5 => aW.l0 k ([] : List (List Int)) x5 (x5.length : Int) 0
def aW.l0 : Nat → List (List Int) → List (List Int) → Int → Int → Option ((List (List Int)))
 | 0, _, _, _, _ => none
 | k + 1, x6, xe, xZ, xb => if xb < xZ then (if 0 ≤ xb then (if xb < (xe.length : Int) then (aW.l1 k x6 ([] : List Int) xe xZ xb (aJ xe xb) ((aJ xe xb).length : Int) 0) else (none)) else (none)) else (some x6)
def aW.l1 : Nat → List (List Int) → List Int → List (List Int) → Int → Int → List Int → Int → Int → Option ((List (List Int)))
 | 0, _, _, _, _, _, _, _, _ => none
 | k + 1, x6, x9, xe, xZ, xb, o8, Bh, tM => if tM < Bh then (if 0 ≤ tM then (if tM < (o8.length : Int) then (if x9.length < 17592186044416 then (aW.l1 k x6 (x9 ++ [wrap64 ((rd o8 tM) + 10)]) xe xZ xb o8 Bh (wrap64 (tM + 1))) else (none)) else (none)) else (none)) else (if x6.length < 5864062014805 then (aW.l0 k (x6 ++ [x9]) xe xZ (wrap64 (xb + 1))) else (none))
end
def aW.f (k : Nat) (aD : List (List Int)) (aG : List (List Int)) (a1 : Int) : Option ((List (List Int))) := if a1 = 1 then ((aw.f k aG).bind fun Nl => (aW.j0 k Nl)) else (aW.j0 k aD)
theorem aW.bG : ∀ k, (∀ y0, bB (aW.j0 k y0) (aW.j0 (k + 1) y0)) ∧ (∀ y0 y1 y2 y3, bB (aW.l0 k y0 y1 y2 y3) (aW.l0 (k + 1) y0 y1 y2 y3)) ∧ (∀ y0 y1 y2 y3 y4 y5 y6 y7, bB (aW.l1 k y0 y1 y2 y3 y4 y5 y6 y7) (aW.l1 (k + 1) y0 y1 y2 y3 y4 y5 y6 y7))
 | 0 => ⟨fun _ r h => by simp [aW.j0] at h, fun _ _ _ _ r h => by simp [aW.l0] at h, fun _ _ _ _ _ _ _ _ r h => by simp [aW.l1] at h⟩
 | k + 1 => by
  obtain ⟨eQ, kP, sn⟩ := aW.bG k
  refine ⟨?_, ?_, ?_⟩ <;> intros <;> (first | unfold aW.j0 | unfold aW.l0 | unfold aW.l1)
  all_goals repeat' first
  | (with_reducible exact eQ ..)
  | (with_reducible exact kP ..)
  | (with_reducible exact sn ..)
  | (with_reducible exact aw.mono ..)
  | (with_reducible exact bB.refl _)
  | (with_reducible exact bB.none _)
  | (with_reducible refine bB.ite ?_ ?_)
  | (with_reducible refine bB.bind ?_ (fun _ => ?_))
theorem aW.mono : ∀ a0 a1 a2 k, bB (aW.f k a0 a1 a2) (aW.f (k + 1) a0 a1 a2) := by
 intro a0 a1 a2 k
 obtain ⟨eQ, kP, sn⟩ := aW.bG k
 unfold aW.f
 repeat' first
   | (with_reducible exact eQ ..)
   | (with_reducible exact kP ..)
   | (with_reducible exact sn ..)
   | (with_reducible exact aw.mono ..)
   | (with_reducible exact bB.refl _)
   | (with_reducible exact bB.none _)
   | (with_reducible refine bB.ite ?_ ?_)
   | (with_reducible refine bB.bind ?_ (fun _ => ?_))
theorem aW.calls (k : Nat) (oO : Nat → Prop) (ay : Option Addr) (ap : Nat) (aD : List (List Int)) (ae : Option Addr) (a8 : Nat) (aG : List (List Int)) (a1 : Int) (r : List (List Int)) (w : World) (ajb : Kd.V (Kd.slice 3 (Kd.int .i64)) 40 w w.heap.size (fun k_ => oO k_) (.slice ay aD.length ap) aD) (dH : Kd.C (Kd.slice 3 (Kd.int .i64)) w ae aG.length aG) (dI : aG.length ≤ a8) (h : aW.f k aD aG a1 = some r) :
  Calls Tryz.prog 57 #[.agg #[.slice ay aD.length ap, .slice ae aG.length a8], .int .i64 a1] w fun e w' => ∃ iE : Value, e = .returned (iE) ∧ Kd.S (Kd.slice 3 (Kd.int .i64)) 40 w' w.heap.size (fun k_ => (w.heap.size ≤ k_)) iE r ∧ Below w.heap.size w w' := by
 have rD := Tryz.underlying28
 have zW := Aside0.mk (show Kd.V (Kd.slice 3 (Kd.int .i64)) 40 w w.heap.size (fun k_ => (oO k_ ∨ w.heap.size ≤ k_)) (.slice ay aD.length ap) aD from Kd.af ajb (fun k_ hk => .inl hk))
 have bx := Aside0.mk dH
 have cE := Aside0.mk dI
 clear dH dI
 have HB := Aside0.mk (Below.refl w.heap.size w)
 have H : (if a1 = 1 then ((aw.f k aG).bind fun Nl => (aW.j0 k Nl)) else (aW.j0 k aD)) = some r := h
 clear h
 have HC3 := Aside0.mk H
 clear H
 go_enter Tryz.func57, Tryz.ntmps57
 go_upto_if 15 with (first | ((with_reducible refine ah (N := 2) rfl ?_); refine bE 2 #[.slice ay aD.length ap, .slice ae aG.length a8] 28 ?_; intro mY hg w4 bO hb; replace zW := am (Kd.cn (Kd.lx (c_ zW.out) mY (Nat.le_of_eq hg.symm)) hb); have io := am (bO); have ajc := gW HB hg; have auw := ajc; replace HB := bS HB hb; clear hb bO hg; have aqZ := cG io.out; have aq0 := cR io.out; have aq1 := aH io.out 0; have aq2 := aH io.out 1))
 (try simp only [Act.put, List.setIfInBounds_toArray, List.set_cons_zero, List.set_cons_succ])
 go_cut [5] (fun v5 wc => ∃ (kq : Nat) (jE : List (List Int)), Aside0 (aW.j0 kq jE = some r) ∧ Aside0 (kq ≤ k) ∧ Aside0 (Kd.V (Kd.slice 3 (Kd.int .i64)) 40 wc w.heap.size (fun k_ => (oO k_ ∨ w.heap.size ≤ k_) ∧ k_ ≠ mY) v5 jE) ∧ Aside0 (Kd.V (Kd.slice 3 (Kd.int .i64)) 40 wc w.heap.size (fun k_ => (oO k_ ∨ w.heap.size ≤ k_) ∧ k_ ≠ mY) (.slice ay aD.length ap) aD) ∧ Aside0 (wc.heap[mY]? = some (.cells #[(.slice ay aD.length ap), (.slice ae aG.length a8)] 28 (0, 0))) ∧ Aside0 (Below w.heap.size w wc))
 case first =>
  have H := HC3.out
  clear HC3
  by_cases c6 : a1 = 1
  rotate_left
  ·rw [if_neg c6] at H
   have hU := iQ c6
   have vt := iR c6
   (first | rw [hU] | (simp only [gn, oG]; rw [hU]) | skip)
   have H' := Aside0.mk H
   clear H
   go_wp2
   go_meet
   case rel => exact ⟨_, (aD), H', ⟨by first | omega | exact Nat.le_refl _⟩, ⟨c_ zW.out⟩, ⟨c_ zW.out⟩, ⟨ct io.out⟩, ⟨mb HB.out⟩⟩
  rw [if_pos c6] at H
  have hU := il c6
  have vt := im c6
  clear c6
  (first | rw [hU] | (simp only [gn, oG]; rw [hU]) | skip)
  replace H := bZ H; obtain ⟨Nl, A7, H⟩ := H
  have H' := Aside0.mk H
  clear H
  have Hh := cG io.out
  have Hi := cR io.out
  have Hj := aH io.out 0
  have Hk := aH io.out 1
  go_wp2_with (first | ((with_reducible refine gC 109 rfl ?_); refine gL 18 Tryz.func109 #[.slice ae aG.length a8] ?_; (with_reducible refine (aw.calls k _ _ aG Nl _ ?aT ?aU A7.out).mono ?_); (case aT => exact cB bx HB); (case aU => exact cE.out); rintro e w9 ⟨v631, rfl, cC, hb⟩; refine ⟨_, rfl, ?_⟩; replace zW := am (Kd.cY (c_ zW.out) (Kd.kV cC) hb); have ajd := am (Kd.gI (Kd.PO (M := fun k_ => (w.heap.size ≤ k_)) cC (aC (mb HB.out)) (fun k_ h_ => h_)) (aC (mb HB.out))); replace io := kS io hb; replace HB := bS HB hb; (try clear hb cC)))
  go_meet
  case rel => exact ⟨_, (Nl), H', ⟨by first | omega | exact Nat.le_refl _⟩, ⟨Kd.af (Kd.S_V (Kd.jF ajd.out io.out (by decide))) (fun k_ hk => ⟨.inr hk.1.1, hk.2⟩)⟩, ⟨Kd.af (c_ zW.out) (fun _ hk => ⟨hk.1.1, hk.1.2⟩)⟩, ⟨ct io.out⟩, ⟨mb HB.out⟩⟩
 case rest =>
  clear HC3
  obtain ⟨kq, jE, HA, HJ2, lN, jN, io, HB⟩ := hcut
  cases kq with
  | zero => exact absurd HA.out (by simp [aW.j0])
  | succ kj2 =>
   have H := HA.out
   clear HA
   simp only [aW.j0] at H
   have H' := Aside0.mk H
   clear H
   obtain ⟨El, xX, xY⟩ := Kd.lh lN.out
   subst xY
   go_wp2
   go_loopg [6, 21] kj2 (fun kq v6 v21 w' => ∃ (cd : List (List Int)) (j5 : Int), v21 = .int .i64 j5 ∧ Aside0 (aW.l0 kq cd jE (jE.length : Int) j5 = some r) ∧ Aside0 (kq ≤ kj2) ∧ Aside0 (Kd.S (Kd.slice 3 (Kd.int .i64)) 40 w' w.heap.size (fun k_ => (w.heap.size ≤ k_)) v6 cd) ∧ Aside0 (Kd.V (Kd.slice 3 (Kd.int .i64)) 40 w' w.heap.size (fun k_ => (oO k_ ∨ w.heap.size ≤ k_) ∧ some k_ ≠ (v6 : Value).ownBlock ∧ k_ ≠ mY) (.slice El jE.length xX) jE) ∧ Aside0 (Kd.V (Kd.slice 3 (Kd.int .i64)) 40 w' w.heap.size (fun k_ => (oO k_ ∨ w.heap.size ≤ k_) ∧ some k_ ≠ (v6 : Value).ownBlock ∧ k_ ≠ mY) (.slice ay aD.length ap) aD) ∧ Aside0 (w'.heap[mY]? = some (.cells #[(.slice ay aD.length ap), (.slice ae aG.length a8)] 28 (0, 0))) ∧ Aside0 (Below w.heap.size w w'))
   case atStart => exact ⟨(([] : List (List Int))), (0), dM, H', ⟨Nat.le_refl _⟩, ⟨by first | exact Kd.Bc _ _ _ _ _ | exact Kd.Bd _ _ _ _ _ | exact Kd.zI _ _ _ _ _ | exact Kd.BV _ _ _ _ _ | exact Kd.mV _ _ _ _ _⟩, ⟨Kd.af (c_ lN.out) (fun _ hk => ⟨hk.1, ⟨(by simp [Value.ownBlock]), hk.2⟩⟩)⟩, ⟨Kd.af (c_ jN.out) (fun _ hk => ⟨hk.1, ⟨(by simp [Value.ownBlock]), hk.2⟩⟩)⟩, ⟨ct io.out⟩, ⟨mb HB.out⟩⟩
   case round =>
    clear H'
    obtain ⟨cd, j5, rfl, HA, ft, cM, rU, jN, io, HB⟩ := hrel
    cases gk with
    | zero => exact absurd HA.out (by simp [aW.l0])
    | succ k2 =>
     have H := HA.out
     clear HA
     simp only [aW.l0] at H
     by_cases nN : j5 < (jE.length : Int)
     rotate_left
     ·rw [if_neg nN] at H
      have nJ := decide_eq_false nN
      clear nN
      obtain rfl := Option.some.inj H
      go_wp2
      go_ret
      exact ⟨_, jC, gP cM.out, mb HB.out⟩
     rw [if_pos nN] at H
     have nJ := decide_eq_true nN
     clear nN
     replace H := fW H; obtain ⟨uG, H⟩ := H
     replace H := fW H; obtain ⟨zJ, H⟩ := H
     have H' := Aside0.mk H
     clear H
     have VB : 0 ≤ (j5 : Int) := bX
     have VC : j5 < (jE.length : Int) := bX
     obtain ⟨aje, acL, acM, aq3, VD, LS, LU⟩ := eO (Kd.bN rU.out).2.2 j5 VB VC
     cases aq3
     obtain ⟨auy, acN, acO, Qi⟩ := Kd.ly rU.out [] j5 VB (by first | exact VC | exact bX | (have e_ := (Kd.bN rU.out).1; omega))
     obtain ⟨aov, aow, rfl, DI, DJ⟩ := Kd.dG acO
     have yP := Qi 0 _ rfl
     rw [Nat.add_zero, show ((Kd.slice 3 (Kd.int .i64))).sz = 1 from rfl, Nat.mul_one] at yP
     replace yP := Option.some.inj (yP.symm.trans VD)
     injection yP with fN iW fO
     rw [fN] at DJ
     rw [fO] at DI
     have VE := Aside0.mk (show Kd.V (Kd.int .i64) 3 _ w.heap.size _ _ (aJ jE j5) from Kd.jo DI DJ)
     clear fN iW fO DJ DI
     clear Qi acN
     have aox := Aside0.mk LU
     have aoy := Aside0.mk LS
     clear LU LS
     replace VB := eq_true VB
     replace VC := eq_true VC
     go_wp2
     go_loopg [9, 27] k2 (fun kq v9 v27 w' => ∃ (mo : List Int) (qt : Int), v27 = .int .i64 qt ∧ Aside0 (aW.l1 kq cd mo jE (jE.length : Int) j5 (aJ jE j5) ((aJ jE j5).length : Int) qt = some r) ∧ Aside0 (kq ≤ k2) ∧ Aside0 (Kd.S (Kd.slice 3 (Kd.int .i64)) 40 w' w.heap.size (fun k_ => (w.heap.size ≤ k_) ∧ some k_ ≠ (v9 : Value).ownBlock) u6 cd) ∧ Aside0 (Kd.R (Kd.int .i64) 3 w' w.heap.size (fun k_ => (w.heap.size ≤ k_)) v9 mo) ∧ Aside0 (Kd.V (Kd.slice 3 (Kd.int .i64)) 40 w' w.heap.size (fun k_ => (oO k_ ∨ w.heap.size ≤ k_) ∧ some k_ ≠ (u6 : Value).ownBlock ∧ some k_ ≠ (v9 : Value).ownBlock ∧ k_ ≠ mY) (.slice (some aje) jE.length xX) jE) ∧ Aside0 (Kd.V (Kd.int .i64) 3 w' w.heap.size (fun k_ => (oO k_ ∨ w.heap.size ≤ k_) ∧ some k_ ≠ (u6 : Value).ownBlock ∧ some k_ ≠ (v9 : Value).ownBlock ∧ k_ ≠ mY) (.slice acL (aJ jE j5).length acM) (aJ jE j5)) ∧ Aside0 (Kd.V (Kd.slice 3 (Kd.int .i64)) 40 w' w.heap.size (fun k_ => (oO k_ ∨ w.heap.size ≤ k_) ∧ some k_ ≠ (u6 : Value).ownBlock ∧ some k_ ≠ (v9 : Value).ownBlock ∧ k_ ≠ mY) (.slice ay aD.length ap) aD) ∧ Aside0 (w'.heap[mY]? = some (.cells #[(.slice ay aD.length ap), (.slice ae aG.length a8)] 28 (0, 0))) ∧ Aside0 (Below w.heap.size w w'))
     case atStart => exact ⟨(([] : List Int)), (0), dM, H', ⟨Nat.le_refl _⟩, ⟨Kd.cJ (gP cM.out) (fun _ hk => ⟨hk, (by simp [Value.ownBlock])⟩)⟩, ⟨Cr⟩, ⟨Kd.af (c_ rU.out) (fun _ hk => ⟨hk.1, ⟨hk.2.1, ⟨(by simp [Value.ownBlock]), hk.2.2⟩⟩⟩)⟩, ⟨Kd.af (c_ VE.out) (fun _ hk => ⟨hk.1, ⟨hk.2.1, ⟨(by simp [Value.ownBlock]), hk.2.2⟩⟩⟩)⟩, ⟨Kd.af (c_ jN.out) (fun _ hk => ⟨hk.1, ⟨hk.2.1, ⟨(by simp [Value.ownBlock]), hk.2.2⟩⟩⟩)⟩, ⟨ct io.out⟩, ⟨mb HB.out⟩⟩
     case round =>
      clear H'
      obtain ⟨mo, qt, rfl, HA, nQ, cM, ch, rU, NN, jN, io, HB⟩ := hrel
      cases gk with
      | zero => exact absurd HA.out (by simp [aW.l1])
      | succ k3 =>
       have H := HA.out
       clear HA
       simp only [aW.l1] at H
       by_cases rC : qt < ((aJ jE j5).length : Int)
       rotate_left
       ·rw [if_neg rC] at H
        have rI := decide_eq_false rC
        clear rC
        replace H := np H; obtain ⟨yw, H⟩ := H
        replace H := br (cd ++ [mo]) (fun acP => (aW.l0 k3 acP jE (jE.length : Int) (wrap64 (j5 + 1))) = some r) H; obtain ⟨acP, ajf, H⟩ := H
        have H' := Aside0.mk H
        clear H
        obtain ⟨Qj, Qk, acQ⟩ := Kd.cH ch.out
        subst acQ
        go_wp2_with (first | ((with_reducible refine bC (b := .append) (xs := #[.tmp 37, .tmp 39]) rfl ?_); at_builtin; refine Kd.tp (Kd.slice 3 (Kd.int .i64)) (w0 := w) w.heap.size rfl (.tmp 37) (.tmp 39) 22 40 (.slice none 0 0) 24 rfl Tryz.underlying22 gM rfl (by decide) (by omega) u6 cd mo [.slice Qj mo.length Qk] (fun k_ => (w.heap.size ≤ k_)) (fun k_ => some k_ = (.slice Qj mo.length Qk : Value).ownBlock) rfl rfl ?aP (fun k_ gH => ((Kd.bD (ok' := fun k_ => ((fun k_ => (w.heap.size ≤ k_))) k_ ∧ some k_ ≠ (u6 : Value).ownBlock) (Kd.cX (ch.out) (Kd.jq cM.out) (by decide)) (fun k_ hk => ⟨hk.1, hk.2⟩))).1 k_ gH.symm) ?aF ?aO ?aB ?aS ?aL ?_; (case aP => exact Kd.BT (Kd.bD (Kd.jr rfl (Kd.bD (ok' := fun k_ => ((fun k_ => (w.heap.size ≤ k_))) k_ ∧ some k_ ≠ (u6 : Value).ownBlock) (Kd.cX (ch.out) (Kd.jq cM.out) (by decide)) (fun k_ hk => ⟨hk.1, hk.2⟩))) (fun _ h_ => h_))); (case aB => exact (mb HB.out)); (case aF => exact (fun k_ hk => (Nat.le_trans (aC (mb HB.out)) hk))); (case aO => exact (Kd.cJ (gP cM.out) (fun k_ hk => ⟨hk.1, fun e_ => hk.2 e_⟩))); (case aS => exact (aC (mb HB.out))); (case aL => have := yw.out; omega); intro v639 P4 ho hb hg bk; rw [← ajf.out] at ho; replace rU := am (Kd.bH (ok := (fun k_ => (oO k_ ∨ w.heap.size ≤ k_) ∧ some k_ ≠ (.slice Qj mo.length Qk : Value).ownBlock ∧ k_ ≠ mY)) (Kd.af (c_ rU.out) (fun _ hk => ⟨⟨hk.1, ⟨hk.2.2.1, hk.2.2.2⟩⟩, hk.2.1⟩)) hg bk); replace jN := am (Kd.bH (ok := (fun k_ => (oO k_ ∨ w.heap.size ≤ k_) ∧ some k_ ≠ (.slice Qj mo.length Qk : Value).ownBlock ∧ k_ ≠ mY)) (Kd.af (c_ jN.out) (fun _ hk => ⟨⟨hk.1, ⟨hk.2.2.1, hk.2.2.2⟩⟩, hk.2.1⟩)) hg bk); replace io := am (di (ct io.out) hg (Kd.ahh cM.out io.out (by decide))); replace HB := am (hb); have ajg := am (ho); clear cM; clear ch; clear ho hb hg bk))
        go_roundg k3
        case measure => have := HJ2.out; have := ft.out; have := nQ.out; omega
        case rel => exact ⟨(acP), (wrap64 (j5 + 1)), dM, H', ⟨by have := HJ2.out; have := ft.out; have := nQ.out; omega⟩, ⟨gP ajg.out⟩, ⟨Kd.af (c_ rU.out) (fun _ hk => ⟨hk.1.1, ⟨hk.2, hk.1.2.2⟩⟩)⟩, ⟨Kd.af (c_ jN.out) (fun _ hk => ⟨hk.1.1, ⟨hk.2, hk.1.2.2⟩⟩)⟩, ⟨ct io.out⟩, ⟨mb HB.out⟩⟩
       rw [if_pos rC] at H
       have rI := decide_eq_true rC
       clear rC
       replace H := fW H; obtain ⟨Ee, H⟩ := H
       replace H := fW H; obtain ⟨we, H⟩ := H
       replace H := np H; obtain ⟨ajh, H⟩ := H
       replace H := br (mo ++ [wrap64 ((rd (aJ jE j5) qt) + 10)]) (fun acR => (aW.l1 k3 cd acR jE (jE.length : Int) j5 (aJ jE j5) ((aJ jE j5).length : Int) (wrap64 (qt + 1))) = some r) H; obtain ⟨acR, aji, H⟩ := H
       have H' := Aside0.mk H
       clear H
       have acS : 0 ≤ (qt : Int) := bX
       have acT : qt < ((aJ jE j5).length : Int) := bX
       obtain ⟨auz, aq4, aoz⟩ := Kd.bi (Kd.bN NN.out).2.2 qt acS acT
       cases aq4
       replace acS := eq_true acS
       replace acT := eq_true acT
       go_wp2_with (first | ((with_reducible refine bC (b := .append) (xs := #[.tmp 31, .tmp 34]) rfl ?_); at_builtin; refine Kd.fV (Kd.int .i64) (w0 := w) w.heap.size rfl (.tmp 31) (.tmp 34) 40 3 (.int .i64 0) 8 rfl Tryz.underlying40 eT rfl (by decide) (by omega) u9 mo (wrap64 ((rd (aJ jE j5) qt) + 10)) [.int .i64 (wrap64 ((rd (aJ jE j5) qt) + 10))] (fun k_ => (w.heap.size ≤ k_)) (fun _ => False) rfl rfl ?aP (fun _ hk => hk.elim) ?aF ?aO ?aB ?aS ?aL ?_; (case aP => exact rfl); (case aB => exact (mb HB.out)); (case aF => exact (fun k_ hk => (Nat.le_trans (aC (mb HB.out)) hk))); (case aO => exact (ci ch.out)); (case aS => exact (aC (mb HB.out))); (case aL => have := ajh.out; omega); intro v636 Ow ho hb hg bk; rw [← aji.out] at ho; replace cM := am (Kd.Cp (ok := (fun k_ => (w.heap.size ≤ k_))) (gP cM.out) hg bk); replace rU := am (Kd.bH (ok := (fun k_ => (oO k_ ∨ w.heap.size ≤ k_) ∧ some k_ ≠ (u6 : Value).ownBlock ∧ k_ ≠ mY)) (Kd.af (c_ rU.out) (fun _ hk => ⟨⟨hk.1, ⟨hk.2.1, hk.2.2.2⟩⟩, hk.2.2.1⟩)) hg bk); replace NN := am (Kd.bH (ok := (fun k_ => (oO k_ ∨ w.heap.size ≤ k_) ∧ some k_ ≠ (u6 : Value).ownBlock ∧ k_ ≠ mY)) (Kd.af (c_ NN.out) (fun _ hk => ⟨⟨hk.1, ⟨hk.2.1, hk.2.2.2⟩⟩, hk.2.2.1⟩)) hg bk); replace jN := am (Kd.bH (ok := (fun k_ => (oO k_ ∨ w.heap.size ≤ k_) ∧ some k_ ≠ (u6 : Value).ownBlock ∧ k_ ≠ mY)) (Kd.af (c_ jN.out) (fun _ hk => ⟨⟨hk.1, ⟨hk.2.1, hk.2.2.2⟩⟩, hk.2.2.1⟩)) hg bk); replace io := am (di (ct io.out) hg (Kd.sW ch.out io.out (by decide))); replace HB := am (hb); have ajj := am (ho); clear ch; clear ho hb hg bk))
       go_roundg k3
       case measure => have := HJ2.out; have := ft.out; have := nQ.out; omega
       case rel => exact ⟨(acR), (wrap64 (qt + 1)), dM, H', ⟨by have := HJ2.out; have := ft.out; have := nQ.out; omega⟩, ⟨gP cM.out⟩, ⟨ci ajj.out⟩, ⟨Kd.af (c_ rU.out) (fun _ hk => ⟨hk.1.1, ⟨hk.1.2.1, ⟨hk.2, hk.1.2.2⟩⟩⟩)⟩, ⟨Kd.af (c_ NN.out) (fun _ hk => ⟨hk.1.1, ⟨hk.1.2.1, ⟨hk.2, hk.1.2.2⟩⟩⟩)⟩, ⟨Kd.af (c_ jN.out) (fun _ hk => ⟨hk.1.1, ⟨hk.1.2.1, ⟨hk.2, hk.1.2.2⟩⟩⟩)⟩, ⟨ct io.out⟩, ⟨mb HB.out⟩⟩
def bq.l0 : Nat → List Int → Int → Int → Option (List Int)
 | 0, _, _, _ => none
 | k + 1, x0, x1, x5 => if x5 < (x0.length : Int) then (if 0 ≤ x5 then (if (rd x0 x5) < x1 then (bq.l0 k x0 x1 (wrap64 (x5 + 1))) else (if (rd x0 x5) = x1 then (some x0) else ((some (([] : List Int) : List Int)).bind fun BD => (if x5 ≤ (x0.length : Int) then ((some (x0.take (x5 : Int).toNat : List Int)).bind fun qM => (if BD.length + qM.length < 17592186044416 then ((some (BD ++ qM : List Int)).bind fun uR => (if uR.length < 17592186044416 then ((some (uR ++ [x1] : List Int)).bind fun qN => ((some (x0.drop (x5 : Int).toNat : List Int)).bind fun l8 => (if qN.length + l8.length < 17592186044416 then (some (qN ++ l8)) else (none)))) else (none))) else (none))) else (none))))) else (none)) else ((some (([] : List Int) : List Int)).bind fun BE => (if 0 ≤ x5 then (if x5 ≤ (x0.length : Int) then ((some (x0.take (x5 : Int).toNat : List Int)).bind fun qO => (if BE.length + qO.length < 17592186044416 then ((some (BE ++ qO : List Int)).bind fun uS => (if uS.length < 17592186044416 then ((some (uS ++ [x1] : List Int)).bind fun qP => ((some (x0.drop (x5 : Int).toNat : List Int)).bind fun l9 => (if qP.length + l9.length < 17592186044416 then (some (qP ++ l9)) else (none)))) else (none))) else (none))) else (none)) else (none)))
def bq.f (k : Nat) (l0 : List Int) (a1 : Int) : Option (List Int) := bq.l0 k l0 a1 0
theorem bq.bG : ∀ k, (∀ y0 y1 y2, bB (bq.l0 k y0 y1 y2) (bq.l0 (k + 1) y0 y1 y2))
 | 0 => fun _ _ _ r h => by simp [bq.l0] at h
 | k + 1 => by
  have eQ := bq.bG k
  ·intro y0 y1 y2
   unfold bq.l0
   repeat' first
   | (with_reducible exact eQ ..)
   | (with_reducible exact bB.refl _)
   | (with_reducible exact bB.none _)
   | (with_reducible refine bB.ite ?_ ?_)
   | (with_reducible refine bB.bind ?_ (fun _ => ?_))
theorem bq.mono : ∀ a0 a1 k, bB (bq.f k a0 a1) (bq.f (k + 1) a0 a1) := by
 intro a0 a1 k
 have eQ := bq.bG k
 unfold bq.f
 repeat' first
   | (with_reducible exact eQ ..)
   | (with_reducible exact bB.refl _)
   | (with_reducible exact bB.none _)
   | (with_reducible refine bB.ite ?_ ?_)
   | (with_reducible refine bB.bind ?_ (fun _ => ?_))
theorem bq.calls (k : Nat) (cT : Nat → Prop) (tO : Value) (l0 : List Int) (a1 : Int) (r : List Int) (w0 w : World) (hB : Below w0.heap.size w0 w) (cC : Kd.R (Kd.int .i64) 3 w w0.heap.size cT tO l0) (h : bq.f k l0 a1 = some r) :
  Calls Tryz.prog 120 #[tO, .int .i64 a1] w fun e w' => ∃ iE : Value, e = .returned (iE) ∧ Kd.R (Kd.int .i64) 3 w' w0.heap.size (fun k_ => (cT k_ ∨ w.heap.size ≤ k_)) iE r ∧ Below w0.heap.size w0 w' ∧ Kept w w' (fun k_ => cT k_) := by
 have HM := Aside0.mk (show Kd.R (Kd.int .i64) 3 w w0.heap.size (fun k_ => (cT k_ ∨ w.heap.size ≤ k_)) tO l0 from Kd.bD cC (fun k_ hk => (.inl hk)))
 have HK := Aside0.mk (Kept.refl w (fun k_ => cT k_))
 have HW0 := Aside0.mk hB.size
 have HB := Aside0.mk hB
 clear hB
 have H : (bq.l0 k l0 a1 0) = some r := h
 clear h
 have H' := Aside0.mk H
 clear H
 go_enter Tryz.func120, Tryz.ntmps120
 go_wp2
 go_loopg [5] k (fun kq v5 w' => ∃ (aj : Int), v5 = .int .i64 aj ∧ Aside0 (bq.l0 kq l0 a1 aj = some r) ∧ Aside0 (kq ≤ k) ∧ Aside0 (Kd.R (Kd.int .i64) 3 w' w0.heap.size (fun k_ => (cT k_ ∨ w.heap.size ≤ k_)) tO l0) ∧ Aside0 (Kept w w' (fun k_ => cT k_)) ∧ Aside0 (Below w0.heap.size w0 w'))
 case atStart => exact ⟨(0), dM, H', ⟨Nat.le_refl _⟩, ⟨ci HM.out⟩, ⟨by repeat (first | (with_reducible first | exact HK.out | apply Kept.alloc | apply Kept.drewN | apply Kept.drew) | exact HK.out)⟩, ⟨mb HB.out⟩⟩
 case round =>
  clear H'
  obtain ⟨aj, rfl, HA, dP, bQ, HK, HB⟩ := hrel
  cases gk with
  | zero => exact absurd HA.out (by simp [bq.l0])
  | succ k1 =>
   have H := HA.out
   clear HA
   simp only [bq.l0] at H
   by_cases c3 : aj < (l0.length : Int)
   rotate_left
   ·rw [if_neg c3] at H
    have gX := decide_eq_false c3
    clear c3
    replace H := br (([] : List Int)) (fun BE => (if 0 ≤ aj then (if aj ≤ (l0.length : Int) then ((some (l0.take (aj : Int).toNat : List Int)).bind fun qO => (if BE.length + qO.length < 17592186044416 then ((some (BE ++ qO : List Int)).bind fun uS => (if uS.length < 17592186044416 then ((some (uS ++ [a1] : List Int)).bind fun qP => ((some (l0.drop (aj : Int).toNat : List Int)).bind fun l9 => (if qP.length + l9.length < 17592186044416 then (some (qP ++ l9)) else (none)))) else (none))) else (none))) else (none)) else (none)) = some r) H; obtain ⟨BE, Yb, H⟩ := H
    by_cases HU : 0 ≤ aj
    rotate_left
    ·rw [if_neg HU] at H
     exact absurd H (by simp)
    rw [if_pos HU] at H
    have QT := eq_true HU
    have aib := decide_eq_true HU
    clear HU
    replace H := oo H; obtain ⟨Ta, H⟩ := H
    have Ql := eq_true Ta
    have auA := decide_eq_true Ta
    clear Ta
    replace H := br (l0.take (aj : Int).toNat) (fun qO => (if BE.length + qO.length < 17592186044416 then ((some (BE ++ qO : List Int)).bind fun uS => (if uS.length < 17592186044416 then ((some (uS ++ [a1] : List Int)).bind fun qP => ((some (l0.drop (aj : Int).toNat : List Int)).bind fun l9 => (if qP.length + l9.length < 17592186044416 then (some (qP ++ l9)) else (none)))) else (none))) else (none)) = some r) H; obtain ⟨qO, FW, H⟩ := H
    replace H := np H; obtain ⟨QU, H⟩ := H
    replace H := br (BE ++ qO) (fun uS => (if uS.length < 17592186044416 then ((some (uS ++ [a1] : List Int)).bind fun qP => ((some (l0.drop (aj : Int).toNat : List Int)).bind fun l9 => (if qP.length + l9.length < 17592186044416 then (some (qP ++ l9)) else (none)))) else (none)) = some r) H; obtain ⟨uS, ajk, H⟩ := H
    replace H := np H; obtain ⟨ajl, H⟩ := H
    replace H := br (uS ++ [a1]) (fun qP => ((some (l0.drop (aj : Int).toNat : List Int)).bind fun l9 => (if qP.length + l9.length < 17592186044416 then (some (qP ++ l9)) else (none))) = some r) H; obtain ⟨qP, ajm, H⟩ := H
    have Kz := eq_true (bX : 0 ≤ aj)
    have pH := eq_true (bX : aj ≤ (l0.length : Int))
    replace H := br (l0.drop (aj : Int).toNat) (fun l9 => (if qP.length + l9.length < 17592186044416 then (some (qP ++ l9)) else (none)) = some r) H; obtain ⟨l9, Qm, H⟩ := H
    replace H := np H; obtain ⟨ajn, H⟩ := H
    replace H := br (qP ++ l9) (fun ajo => (some ajo) = some r) H; obtain ⟨ajo, ajp, H⟩ := H
    obtain rfl := Option.some.inj H
    obtain ⟨uT, ja, Nn⟩ := Kd.cH bQ.out
    subst Nn
    go_wp2_with (first | ((with_reducible refine ah (N := 34) rfl ?_); refine Kd.ov (Kd.int .i64) _ 3 ?hg (N := 34) ?hd (xs := ([] : List Int)) (inner := []) (ok := fun _ => True) (okp := fun _ => True) ?hr ?hp (fun _ hk => hk) trivial (Below.refl _ _) (Nat.le_refl _) (by simp) ?_; (case hd => rfl); (case hg => rfl); (case hr => first | (go_simp; done) | (go_simp; rfl)); (case hp => exact (cV.none _ _)); intro v664 w32 No hb jn dB; clear jn dB; (first | rw [← Yb.out] at No | (simp only [Int.reduceToNat] at No; rw [← Yb.out] at No)); have Qn := am (Kd.cO (Kd.kT (Kd.jQ (M := fun k_ => (cT k_ ∨ w.heap.size ≤ k_)) No (by first | exact HK.out.1 | exact (show Kept w _ (fun k_ => cT k_) from by repeat (first | (with_reducible first | exact HK.out | apply Kept.alloc | apply Kept.drewN | apply Kept.drew) | exact HK.out)).1) (fun k_ h_ => .inr h_)) (Kd.iH (ci bQ.out))) (aC (mb HB.out))); replace bQ := am (Kd.gV (ci bQ.out) (Kd.bf No) hb); replace HK := am (Kept.below (S := (fun k_ => cT k_)) (by repeat (first | (with_reducible first | exact HK.out | apply Kept.alloc | apply Kept.drewN | apply Kept.drew) | exact HK.out)) hb); replace HB := bS HB hb; clear hb No; have q34 : (aj : Int) ≤ ((l0.length : Int) : Int) := bX; obtain ⟨av6, Yc, _, ajq, _⟩ := info_parts eT; have LV : l0.length ≤ ja := (Kd.aq bQ.out).2.1; have ajr : Kd.C (Kd.int .i64) _ uT l0.length l0 := (Kd.aq bQ.out).2.2; have acU := CZ (P := Tryz.prog) 40 3 .i64 Tryz.underlying40 Yc uT l0.length ja aj (bX) q34 LV; have acV := Kd.po (m := (aj : Int).toNat) ajr (by omega); have acW : qO.length = (aj : Int).toNat := (by rw [FW.out, List.length_take]; omega); rw [← FW.out] at acV; rw [← acW] at acU; have LW := Aside0.mk acV; have auB := Aside0.mk (show qO.length ≤ ja from by omega); clear acV ajr LV Yc ajq; have av7 := Aside0.mk acW; clear acW; have acX := Aside0.mk (show (aj : Int).toNat ≤ l0.length from by omega); replace q34 := eq_true q34) | ((with_reducible refine bC (b := .append) (xs := #[.tmp 34, .tmp 37]) rfl ?_); at_builtin; refine Kd.gO (Kd.int .i64) (w0 := w0) w0.heap.size rfl (.tmp 34) (.tmp 37) 40 3 (.int .i64 0) 8 rfl Tryz.underlying40 eT rfl (by decide) (by omega) v664 BE qO _ _ _ (fun k_ => (cT k_ ∨ w.heap.size ≤ k_) ∧ some k_ ≠ (.slice uT l0.length ja : Value).ownBlock) (fun _ => False) rfl rfl ?aO ?aR (fun _ _ h => h) (fun _ h => h.elim) ?aF ?aB ?aS ?aL ?_; (case aR => exact fy LW.out); (case aB => exact (mb HB.out)); (case aF => exact (fun k_ hk => ⟨(.inr (Nat.le_trans (by first | exact HK.out.1 | exact (show Kept w _ (fun k_ => cT k_) from by repeat (first | (with_reducible first | exact HK.out | apply Kept.alloc | apply Kept.drewN | apply Kept.drew) | exact HK.out)).1) hk)), Kd.dz (Kd.iH (ci bQ.out)) k_ hk⟩)); (case aO => exact (Kd.bD (ci Qn.out) (fun _ hk => ⟨hk.1.1, hk.2⟩))); (case aS => exact (aC (mb HB.out))); (case aL => have := QU.out; omega); intro v671 Qo ho hb hg bk; rw [← ajk.out] at ho; replace HB := am (hb); replace HK := am (Kept.nU (S := (fun k_ => cT k_)) hg (by repeat (first | (with_reducible first | exact HK.out | apply Kept.alloc | apply Kept.drewN | apply Kept.drew) | exact HK.out)) (fun k_ e_ => (Qn.out.1 k_ e_).1.1)); replace LW := am ((show Kd.C (Kd.int .i64) Qo uT qO.length qO from by rw [FW.out]; exact Kd.po (m := (aj : Int).toNat) ((Kd.aq (Kd.fF (ok := (fun k_ => (cT k_ ∨ w.heap.size ≤ k_))) (ci bQ.out) hg bk)).2.2) acX.out)); replace bQ := am (Kd.fF (ok := (fun k_ => (cT k_ ∨ w.heap.size ≤ k_))) (ci bQ.out) hg bk); have Qp := am (ho); clear Qn; clear ho hb hg bk) | ((with_reducible refine bC (b := .append) (xs := #[.tmp 39, .tmp 41]) rfl ?_); at_builtin; refine Kd.fV (Kd.int .i64) (w0 := w0) w0.heap.size rfl (.tmp 39) (.tmp 41) 40 3 (.int .i64 0) 8 rfl Tryz.underlying40 eT rfl (by decide) (by omega) v671 uS a1 [.int .i64 a1] (fun k_ => (cT k_ ∨ w.heap.size ≤ k_) ∧ some k_ ≠ (.slice uT l0.length ja : Value).ownBlock) (fun _ => False) rfl rfl ?aP (fun _ hk => hk.elim) ?aF ?aO ?aB ?aS ?aL ?_; (case aP => exact rfl); (case aB => exact (mb HB.out)); (case aF => exact (fun k_ hk => ⟨(.inr (Nat.le_trans (by first | exact HK.out.1 | exact (show Kept w _ (fun k_ => cT k_) from by repeat (first | (with_reducible first | exact HK.out | apply Kept.alloc | apply Kept.drewN | apply Kept.drew) | exact HK.out)).1) hk)), Kd.dz (Kd.iH (ci bQ.out)) k_ hk⟩)); (case aO => exact (ci Qp.out)); (case aS => exact (aC (mb HB.out))); (case aL => have := ajl.out; omega); intro v674 w36 ho hb hg bk; rw [← ajm.out] at ho; replace HB := am (hb); replace HK := am (Kept.nU (S := (fun k_ => cT k_)) hg (by repeat (first | (with_reducible first | exact HK.out | apply Kept.alloc | apply Kept.drewN | apply Kept.drew) | exact HK.out)) (fun k_ e_ => (Qp.out.1 k_ e_).1)); replace LW := am ((show Kd.C (Kd.int .i64) w36 uT qO.length qO from by rw [FW.out]; exact Kd.po (m := (aj : Int).toNat) ((Kd.aq (Kd.fF (ok := (fun k_ => (cT k_ ∨ w.heap.size ≤ k_))) (ci bQ.out) hg bk)).2.2) acX.out)); replace bQ := am (Kd.fF (ok := (fun k_ => (cT k_ ∨ w.heap.size ≤ k_))) (ci bQ.out) hg bk); have Qq := am (ho); clear Qp; clear ho hb hg bk; have q37 : (aj : Int) ≤ ((l0.length : Int) : Int) := bX; obtain ⟨av8, Yd, _, Ye, _⟩ := info_parts eT; have DK : l0.length ≤ ja := (Kd.aq bQ.out).2.1; have ajs : Kd.C (Kd.int .i64) _ uT l0.length l0 := (Kd.aq bQ.out).2.2; have aq5 : (0 : Int) ≤ (aj : Int) := bX; have acY := ow (P := Tryz.prog) 40 3 .i64 Tryz.underlying40 Yd 1 Ye uT l0.length ja aj aq5 q37; have Qr := Kd.tD (m := (aj : Int).toNat) (c := ja) ajs (by omega) DK; obtain ⟨A37, VF⟩ : ∃ A1, A1 = (if ja = (aj : Int).toNat then uT else (uT : Option Addr).map (·.add ((aj : Int).toNat * 1))) := ⟨_, rfl⟩; obtain ⟨c37, acZ⟩ : ∃ c1, c1 = ja - (aj : Int).toNat := ⟨_, rfl⟩; have VG : l9.length = l0.length - (aj : Int).toNat := (by rw [Qm.out, List.length_drop] <;> omega); rw [show (l0).drop (aj : Int).toNat = l9 from Qm.out.symm] at Qr; replace Qr : Kd.C (Kd.int .i64) _ A37 l9.length l9 := (by rw [VF]; exact Qr); rw [← VG, ← VF, ← acZ] at acY; have Yf := Aside0.mk Qr; have auC := Aside0.mk (show l9.length ≤ c37 from by rw [VG, acZ]; exact Nat.sub_le_sub_right DK _); clear Qr ajs DK Yd Ye acZ; have av9 := Aside0.mk VG; have aq6 := Aside0.mk VF; clear VG VF; have aq7 := Aside0.mk (show (aj : Int).toNat ≤ l0.length from by omega); replace q37 := eq_true q37) | ((with_reducible refine bC (b := .append) (xs := #[.tmp 43, .tmp 46]) rfl ?_); at_builtin; refine Kd.gO (Kd.int .i64) (w0 := w0) w0.heap.size rfl (.tmp 43) (.tmp 46) 40 3 (.int .i64 0) 8 rfl Tryz.underlying40 eT rfl (by decide) (by omega) v674 qP l9 _ _ _ (fun k_ => (cT k_ ∨ w.heap.size ≤ k_) ∧ some k_ ≠ (.slice uT l0.length ja : Value).ownBlock) (fun _ => False) rfl rfl ?aO ?aR (fun _ _ h => h) (fun _ h => h.elim) ?aF ?aB ?aS ?aL ?_; (case aR => exact fy Yf.out); (case aB => exact (mb HB.out)); (case aF => exact (fun k_ hk => ⟨(.inr (Nat.le_trans (by first | exact HK.out.1 | exact (show Kept w _ (fun k_ => cT k_) from by repeat (first | (with_reducible first | exact HK.out | apply Kept.alloc | apply Kept.drewN | apply Kept.drew) | exact HK.out)).1) hk)), Kd.dz (Kd.iH (ci bQ.out)) k_ hk⟩)); (case aO => exact (ci Qq.out)); (case aS => exact (aC (mb HB.out))); (case aL => have := ajn.out; omega); intro v681 w38 ho hb hg bk; rw [← ajp.out] at ho; replace HB := am (hb); replace HK := am (Kept.nU (S := (fun k_ => cT k_)) hg (by repeat (first | (with_reducible first | exact HK.out | apply Kept.alloc | apply Kept.drewN | apply Kept.drew) | exact HK.out)) (fun k_ e_ => (Qq.out.1 k_ e_).1)); replace LW := am ((show Kd.C (Kd.int .i64) w38 uT qO.length qO from by rw [FW.out]; exact Kd.po (m := (aj : Int).toNat) ((Kd.aq (Kd.fF (ok := (fun k_ => (cT k_ ∨ w.heap.size ≤ k_))) (ci bQ.out) hg bk)).2.2) acX.out)); replace Yf := am ((show Kd.C (Kd.int .i64) w38 A37 l9.length l9 from by rw [Qm.out, aq6.out]; exact Kd.tD (m := (aj : Int).toNat) (c := ja) ((Kd.aq (Kd.fF (ok := (fun k_ => (cT k_ ∨ w.heap.size ≤ k_))) (ci bQ.out) hg bk)).2.2) aq7.out ((Kd.aq (Kd.fF (ok := (fun k_ => (cT k_ ∨ w.heap.size ≤ k_))) (ci bQ.out) hg bk)).2.1))); replace bQ := am (Kd.fF (ok := (fun k_ => (cT k_ ∨ w.heap.size ≤ k_))) (ci bQ.out) hg bk); have ajt := am (ho); clear Qq; clear ho hb hg bk))
    go_ret
    exact ⟨_, jC, Kd.bD (ci ajt.out) (fun _ hk => hk.1), mb HB.out, by repeat (first | (with_reducible first | exact HK.out | apply Kept.alloc | apply Kept.drewN | apply Kept.drew) | exact HK.out)⟩
   rw [if_pos c3] at H
   have gX := decide_eq_true c3
   clear c3
   replace H := fW H; obtain ⟨iI, H⟩ := H
   by_cases c5 : (rd l0 aj) < a1
   ·rw [if_pos c5] at H
    have jR := decide_eq_true c5
    clear c5
    have H' := Aside0.mk H
    clear H
    obtain ⟨Ao6, co6, eo6⟩ := Kd.cH bQ.out
    subst eo6
    have zX : 0 ≤ (aj : Int) := bX
    have zY : aj < (l0.length : Int) := bX
    obtain ⟨mZ, Qs, LX⟩ := Kd.bi (Kd.aq bQ.out).2.2 aj zX zY
    cases Qs
    replace zX := eq_true zX
    replace zY := eq_true zY
    go_wp2
    go_roundg k1
    case measure => have := dP.out; omega
    case rel => exact ⟨(wrap64 (aj + 1)), dM, H', ⟨by have := dP.out; omega⟩, ⟨ci bQ.out⟩, ⟨by repeat (first | (with_reducible first | exact HK.out | apply Kept.alloc | apply Kept.drewN | apply Kept.drew) | exact HK.out)⟩, ⟨mb HB.out⟩⟩
   rw [if_neg c5] at H
   have jR := decide_eq_false c5
   clear c5
   by_cases c7 : (rd l0 aj) = a1
   ·rw [if_pos c7] at H
    have lO := il c7
    have xf := im c7
    clear c7
    obtain rfl := Option.some.inj H
    obtain ⟨Ao8, tm, eo8⟩ := Kd.cH bQ.out
    subst eo8
    have zX : 0 ≤ (aj : Int) := bX
    have zY : aj < (l0.length : Int) := bX
    obtain ⟨mZ, Qs, LX⟩ := Kd.bi (Kd.aq bQ.out).2.2 aj zX zY
    cases Qs
    replace zX := eq_true zX
    replace zY := eq_true zY
    have I4 : 0 ≤ (aj : Int) := bX
    have I5 : aj < (l0.length : Int) := bX
    obtain ⟨Qt, ac0, VH⟩ := Kd.bi (Kd.aq bQ.out).2.2 aj I4 I5
    obtain rfl : mZ = Qt := (by injection ac0)
    replace I4 := eq_true I4
    replace I5 := eq_true I5
    go_wp2
    go_ret
    exact ⟨_, jC, ci bQ.out, mb HB.out, by repeat (first | (with_reducible first | exact HK.out | apply Kept.alloc | apply Kept.drewN | apply Kept.drew) | exact HK.out)⟩
   rw [if_neg c7] at H
   have lO := iQ c7
   have xf := iR c7
   replace H := br (([] : List Int)) (fun BD => (if aj ≤ (l0.length : Int) then ((some (l0.take (aj : Int).toNat : List Int)).bind fun qM => (if BD.length + qM.length < 17592186044416 then ((some (BD ++ qM : List Int)).bind fun uR => (if uR.length < 17592186044416 then ((some (uR ++ [a1] : List Int)).bind fun qN => ((some (l0.drop (aj : Int).toNat : List Int)).bind fun l8 => (if qN.length + l8.length < 17592186044416 then (some (qN ++ l8)) else (none)))) else (none))) else (none))) else (none)) = some r) H; obtain ⟨BD, Yg, H⟩ := H
   have tF := eq_true (bX : 0 ≤ aj)
   replace H := oo H; obtain ⟨ot, H⟩ := H
   have oC := eq_true ot
   have Bf := decide_eq_true ot
   clear ot
   replace H := br (l0.take (aj : Int).toNat) (fun qM => (if BD.length + qM.length < 17592186044416 then ((some (BD ++ qM : List Int)).bind fun uR => (if uR.length < 17592186044416 then ((some (uR ++ [a1] : List Int)).bind fun qN => ((some (l0.drop (aj : Int).toNat : List Int)).bind fun l8 => (if qN.length + l8.length < 17592186044416 then (some (qN ++ l8)) else (none)))) else (none))) else (none)) = some r) H; obtain ⟨qM, FX, H⟩ := H
   replace H := np H; obtain ⟨FQ, H⟩ := H
   replace H := br (BD ++ qM) (fun uR => (if uR.length < 17592186044416 then ((some (uR ++ [a1] : List Int)).bind fun qN => ((some (l0.drop (aj : Int).toNat : List Int)).bind fun l8 => (if qN.length + l8.length < 17592186044416 then (some (qN ++ l8)) else (none)))) else (none)) = some r) H; obtain ⟨uR, aju, H⟩ := H
   replace H := np H; obtain ⟨Ei, H⟩ := H
   replace H := br (uR ++ [a1]) (fun qN => ((some (l0.drop (aj : Int).toNat : List Int)).bind fun l8 => (if qN.length + l8.length < 17592186044416 then (some (qN ++ l8)) else (none))) = some r) H; obtain ⟨qN, ajv, H⟩ := H
   have zJ := eq_true (bX : 0 ≤ aj)
   have rI := eq_true (bX : aj ≤ (l0.length : Int))
   replace H := br (l0.drop (aj : Int).toNat) (fun l8 => (if qN.length + l8.length < 17592186044416 then (some (qN ++ l8)) else (none)) = some r) H; obtain ⟨l8, Qu, H⟩ := H
   replace H := np H; obtain ⟨FR, H⟩ := H
   replace H := br (qN ++ l8) (fun ajw => (some ajw) = some r) H; obtain ⟨ajw, ajx, H⟩ := H
   obtain rfl := Option.some.inj H
   obtain ⟨Eu, nr, P_⟩ := Kd.cH bQ.out
   subst P_
   have zX : 0 ≤ (aj : Int) := bX
   have zY : aj < (l0.length : Int) := bX
   obtain ⟨mZ, Qs, LX⟩ := Kd.bi (Kd.aq bQ.out).2.2 aj zX zY
   cases Qs
   replace zX := eq_true zX
   replace zY := eq_true zY
   have I4 : 0 ≤ (aj : Int) := bX
   have I5 : aj < (l0.length : Int) := bX
   obtain ⟨Qt, ac0, VH⟩ := Kd.bi (Kd.aq bQ.out).2.2 aj I4 I5
   obtain rfl : mZ = Qt := (by injection ac0)
   replace I4 := eq_true I4
   replace I5 := eq_true I5
   go_wp2_with (first | ((with_reducible refine ah (N := 34) rfl ?_); refine Kd.ov (Kd.int .i64) _ 3 ?hg (N := 34) ?hd (xs := ([] : List Int)) (inner := []) (ok := fun _ => True) (okp := fun _ => True) ?hr ?hp (fun _ hk => hk) trivial (Below.refl _ _) (Nat.le_refl _) (by simp) ?_; (case hd => rfl); (case hg => rfl); (case hr => first | (go_simp; done) | (go_simp; rfl)); (case hp => exact (cV.none _ _)); intro v644 T6 Np hb jn dB; clear jn dB; (first | rw [← Yg.out] at Np | (simp only [Int.reduceToNat] at Np; rw [← Yg.out] at Np)); have Qv := am (Kd.cO (Kd.kT (Kd.jQ (M := fun k_ => (cT k_ ∨ w.heap.size ≤ k_)) Np (by first | exact HK.out.1 | exact (show Kept w _ (fun k_ => cT k_) from by repeat (first | (with_reducible first | exact HK.out | apply Kept.alloc | apply Kept.drewN | apply Kept.drew) | exact HK.out)).1) (fun k_ h_ => .inr h_)) (Kd.iH (ci bQ.out))) (aC (mb HB.out))); replace bQ := am (Kd.gV (ci bQ.out) (Kd.bf Np) hb); replace HK := am (Kept.below (S := (fun k_ => cT k_)) (by repeat (first | (with_reducible first | exact HK.out | apply Kept.alloc | apply Kept.drewN | apply Kept.drew) | exact HK.out)) hb); replace HB := bS HB hb; clear hb Np; have Yh : (aj : Int) ≤ ((l0.length : Int) : Int) := bX; obtain ⟨av_, Yi, _, ajy, _⟩ := info_parts eT; have LY : l0.length ≤ nr := (Kd.aq bQ.out).2.1; have ajz : Kd.C (Kd.int .i64) _ (some mZ) l0.length l0 := (Kd.aq bQ.out).2.2; have ac1 := CZ (P := Tryz.prog) 40 3 .i64 Tryz.underlying40 Yi (some mZ) l0.length nr aj (bX) Yh LY; have ac2 := Kd.po (m := (aj : Int).toNat) ajz (by omega); have ac3 : qM.length = (aj : Int).toNat := (by rw [FX.out, List.length_take]; omega); rw [← FX.out] at ac2; rw [← ac3] at ac1; have LZ := Aside0.mk ac2; have auD := Aside0.mk (show qM.length ≤ nr from by omega); clear ac2 ajz LY Yi ajy; have av' := Aside0.mk ac3; clear ac3; have ac4 := Aside0.mk (show (aj : Int).toNat ≤ l0.length from by omega); replace Yh := eq_true Yh) | ((with_reducible refine bC (b := .append) (xs := #[.tmp 34, .tmp 37]) rfl ?_); at_builtin; refine Kd.gO (Kd.int .i64) (w0 := w0) w0.heap.size rfl (.tmp 34) (.tmp 37) 40 3 (.int .i64 0) 8 rfl Tryz.underlying40 eT rfl (by decide) (by omega) v644 BD qM _ _ _ (fun k_ => (cT k_ ∨ w.heap.size ≤ k_) ∧ some k_ ≠ (.slice (some mZ) l0.length nr : Value).ownBlock) (fun _ => False) rfl rfl ?aO ?aR (fun _ _ h => h) (fun _ h => h.elim) ?aF ?aB ?aS ?aL ?_; (case aR => exact fy LZ.out); (case aB => exact (mb HB.out)); (case aF => exact (fun k_ hk => ⟨(.inr (Nat.le_trans (by first | exact HK.out.1 | exact (show Kept w _ (fun k_ => cT k_) from by repeat (first | (with_reducible first | exact HK.out | apply Kept.alloc | apply Kept.drewN | apply Kept.drew) | exact HK.out)).1) hk)), Kd.dz (Kd.iH (ci bQ.out)) k_ hk⟩)); (case aO => exact (Kd.bD (ci Qv.out) (fun _ hk => ⟨hk.1.1, hk.2⟩))); (case aS => exact (aC (mb HB.out))); (case aL => have := FQ.out; omega); intro v651 P4 ho hb hg bk; rw [← aju.out] at ho; replace HB := am (hb); replace HK := am (Kept.nU (S := (fun k_ => cT k_)) hg (by repeat (first | (with_reducible first | exact HK.out | apply Kept.alloc | apply Kept.drewN | apply Kept.drew) | exact HK.out)) (fun k_ e_ => (Qv.out.1 k_ e_).1.1)); replace LZ := am ((show Kd.C (Kd.int .i64) P4 (some mZ) qM.length qM from by rw [FX.out]; exact Kd.po (m := (aj : Int).toNat) ((Kd.aq (Kd.fF (ok := (fun k_ => (cT k_ ∨ w.heap.size ≤ k_))) (ci bQ.out) hg bk)).2.2) ac4.out)); replace bQ := am (Kd.fF (ok := (fun k_ => (cT k_ ∨ w.heap.size ≤ k_))) (ci bQ.out) hg bk); have Qw := am (ho); clear Qv; clear ho hb hg bk) | ((with_reducible refine bC (b := .append) (xs := #[.tmp 39, .tmp 41]) rfl ?_); at_builtin; refine Kd.fV (Kd.int .i64) (w0 := w0) w0.heap.size rfl (.tmp 39) (.tmp 41) 40 3 (.int .i64 0) 8 rfl Tryz.underlying40 eT rfl (by decide) (by omega) v651 uR a1 [.int .i64 a1] (fun k_ => (cT k_ ∨ w.heap.size ≤ k_) ∧ some k_ ≠ (.slice (some mZ) l0.length nr : Value).ownBlock) (fun _ => False) rfl rfl ?aP (fun _ hk => hk.elim) ?aF ?aO ?aB ?aS ?aL ?_; (case aP => exact rfl); (case aB => exact (mb HB.out)); (case aF => exact (fun k_ hk => ⟨(.inr (Nat.le_trans (by first | exact HK.out.1 | exact (show Kept w _ (fun k_ => cT k_) from by repeat (first | (with_reducible first | exact HK.out | apply Kept.alloc | apply Kept.drewN | apply Kept.drew) | exact HK.out)).1) hk)), Kd.dz (Kd.iH (ci bQ.out)) k_ hk⟩)); (case aO => exact (ci Qw.out)); (case aS => exact (aC (mb HB.out))); (case aL => have := Ei.out; omega); intro v654 Ty ho hb hg bk; rw [← ajv.out] at ho; replace HB := am (hb); replace HK := am (Kept.nU (S := (fun k_ => cT k_)) hg (by repeat (first | (with_reducible first | exact HK.out | apply Kept.alloc | apply Kept.drewN | apply Kept.drew) | exact HK.out)) (fun k_ e_ => (Qw.out.1 k_ e_).1)); replace LZ := am ((show Kd.C (Kd.int .i64) Ty (some mZ) qM.length qM from by rw [FX.out]; exact Kd.po (m := (aj : Int).toNat) ((Kd.aq (Kd.fF (ok := (fun k_ => (cT k_ ∨ w.heap.size ≤ k_))) (ci bQ.out) hg bk)).2.2) ac4.out)); replace bQ := am (Kd.fF (ok := (fun k_ => (cT k_ ∨ w.heap.size ≤ k_))) (ci bQ.out) hg bk); have Qx := am (ho); clear Qw; clear ho hb hg bk; have q22 : (aj : Int) ≤ ((l0.length : Int) : Int) := bX; obtain ⟨aqg, FH, _, FI, _⟩ := info_parts eT; have DL : l0.length ≤ nr := (Kd.aq bQ.out).2.1; have QJ : Kd.C (Kd.int .i64) _ (some mZ) l0.length l0 := (Kd.aq bQ.out).2.2; have aq8 : (0 : Int) ≤ (aj : Int) := bX; have QI := ow (P := Tryz.prog) 40 3 .i64 Tryz.underlying40 FH 1 FI (some mZ) l0.length nr aj aq8 q22; have Qy := Kd.tD (m := (aj : Int).toNat) (c := nr) QJ (by omega) DL; obtain ⟨p8, IE⟩ : ∃ A1, A1 = (if nr = (aj : Int).toNat then (some mZ) else ((some mZ) : Option Addr).map (·.add ((aj : Int).toNat * 1))) := ⟨_, rfl⟩; obtain ⟨rE, ac5⟩ : ∃ c1, c1 = nr - (aj : Int).toNat := ⟨_, rfl⟩; have VI : l8.length = l0.length - (aj : Int).toNat := (by rw [Qu.out, List.length_drop] <;> omega); rw [show (l0).drop (aj : Int).toNat = l8 from Qu.out.symm] at Qy; replace Qy : Kd.C (Kd.int .i64) _ p8 l8.length l8 := (by rw [IE]; exact Qy); rw [← VI, ← IE, ← ac5] at QI; have Yj := Aside0.mk Qy; have auE := Aside0.mk (show l8.length ≤ rE from by rw [VI, ac5]; exact Nat.sub_le_sub_right DL _); clear Qy QJ DL FH FI ac5; have awa := Aside0.mk VI; have aq9 := Aside0.mk IE; clear VI IE; have aq_ := Aside0.mk (show (aj : Int).toNat ≤ l0.length from by omega); replace q22 := eq_true q22) | ((with_reducible refine bC (b := .append) (xs := #[.tmp 43, .tmp 46]) rfl ?_); at_builtin; refine Kd.gO (Kd.int .i64) (w0 := w0) w0.heap.size rfl (.tmp 43) (.tmp 46) 40 3 (.int .i64 0) 8 rfl Tryz.underlying40 eT rfl (by decide) (by omega) v654 qN l8 _ _ _ (fun k_ => (cT k_ ∨ w.heap.size ≤ k_) ∧ some k_ ≠ (.slice (some mZ) l0.length nr : Value).ownBlock) (fun _ => False) rfl rfl ?aO ?aR (fun _ _ h => h) (fun _ h => h.elim) ?aF ?aB ?aS ?aL ?_; (case aR => exact fy Yj.out); (case aB => exact (mb HB.out)); (case aF => exact (fun k_ hk => ⟨(.inr (Nat.le_trans (by first | exact HK.out.1 | exact (show Kept w _ (fun k_ => cT k_) from by repeat (first | (with_reducible first | exact HK.out | apply Kept.alloc | apply Kept.drewN | apply Kept.drew) | exact HK.out)).1) hk)), Kd.dz (Kd.iH (ci bQ.out)) k_ hk⟩)); (case aO => exact (ci Qx.out)); (case aS => exact (aC (mb HB.out))); (case aL => have := FR.out; omega); intro v661 T7 ho hb hg bk; rw [← ajx.out] at ho; replace HB := am (hb); replace HK := am (Kept.nU (S := (fun k_ => cT k_)) hg (by repeat (first | (with_reducible first | exact HK.out | apply Kept.alloc | apply Kept.drewN | apply Kept.drew) | exact HK.out)) (fun k_ e_ => (Qx.out.1 k_ e_).1)); replace LZ := am ((show Kd.C (Kd.int .i64) T7 (some mZ) qM.length qM from by rw [FX.out]; exact Kd.po (m := (aj : Int).toNat) ((Kd.aq (Kd.fF (ok := (fun k_ => (cT k_ ∨ w.heap.size ≤ k_))) (ci bQ.out) hg bk)).2.2) ac4.out)); replace Yj := am ((show Kd.C (Kd.int .i64) T7 p8 l8.length l8 from by rw [Qu.out, aq9.out]; exact Kd.tD (m := (aj : Int).toNat) (c := nr) ((Kd.aq (Kd.fF (ok := (fun k_ => (cT k_ ∨ w.heap.size ≤ k_))) (ci bQ.out) hg bk)).2.2) aq_.out ((Kd.aq (Kd.fF (ok := (fun k_ => (cT k_ ∨ w.heap.size ≤ k_))) (ci bQ.out) hg bk)).2.1))); replace bQ := am (Kd.fF (ok := (fun k_ => (cT k_ ∨ w.heap.size ≤ k_))) (ci bQ.out) hg bk); have ajA := am (ho); clear Qx; clear ho hb hg bk))
   go_ret
   exact ⟨_, jC, Kd.bD (ci ajA.out) (fun _ hk => hk.1), mb HB.out, by repeat (first | (with_reducible first | exact HK.out | apply Kept.alloc | apply Kept.drewN | apply Kept.drew) | exact HK.out)⟩
def a_.l0 : Nat → Int → Int → Int → List Int → List Int → Int → Int → Option (List Int)
 | 0, _, _, _, _, _, _, _ => none
 | k + 1, x1, x9, iM, jd, Yk, x31, Tb => if Tb < x31 then (if 0 ≤ Tb then (if Tb < (Yk.length : Int) then (if x1 = 2 then (if (wrap64 ((rd Yk Tb) + x9)) ≥ (wrap64 (x9 + iM)) then ((bq.f k jd (wrap64 ((wrap64 ((rd Yk Tb) + x9)) - (wrap64 (x9 + iM))))).bind fun VJ => (a_.l0 k x1 x9 iM VJ Yk x31 (wrap64 (Tb + 1)))) else ((bq.f k jd (wrap64 ((rd Yk Tb) + x9))).bind fun VK => (a_.l0 k x1 x9 iM VK Yk x31 (wrap64 (Tb + 1))))) else ((bq.f k jd (rd Yk Tb)).bind fun VL => (a_.l0 k x1 x9 iM VL Yk x31 (wrap64 (Tb + 1))))) else (none)) else (none)) else (some jd)
def a_.f (k : Nat) (aD : List (List Int)) (aG : List (List Int)) (a1 : Int) (l2 : List Int) : Option (List Int) := (aW.f k aD aG a1).bind fun FY => ((aa.f k FY l2).bind fun FZ => (if 0 < (aD.length : Int) then (a_.l0 k a1 (aD.length : Int) ((aJ aD 0).length : Int) ([] : List Int) FZ.1 (FZ.1.length : Int) 0) else (none)))
theorem a_.bG : ∀ k, (∀ y0 y1 y2 y3 y4 y5 y6, bB (a_.l0 k y0 y1 y2 y3 y4 y5 y6) (a_.l0 (k + 1) y0 y1 y2 y3 y4 y5 y6))
 | 0 => fun _ _ _ _ _ _ _ r h => by simp [a_.l0] at h
 | k + 1 => by
  have eQ := a_.bG k
  ·intro y0 y1 y2 y3 y4 y5 y6
   unfold a_.l0
   repeat' first
   | (with_reducible exact eQ ..)
   | (with_reducible exact aW.mono ..)
   | (with_reducible exact aa.mono ..)
   | (with_reducible exact bq.mono ..)
   | (with_reducible exact bB.refl _)
   | (with_reducible exact bB.none _)
   | (with_reducible refine bB.ite ?_ ?_)
   | (with_reducible refine bB.bind ?_ (fun _ => ?_))
theorem a_.mono : ∀ a0 a1 a2 a3 k, bB (a_.f k a0 a1 a2 a3) (a_.f (k + 1) a0 a1 a2 a3) := by
 intro a0 a1 a2 a3 k
 have eQ := a_.bG k
 unfold a_.f
 repeat' first
   | (with_reducible exact eQ ..)
   | (with_reducible exact aW.mono ..)
   | (with_reducible exact aa.mono ..)
   | (with_reducible exact bq.mono ..)
   | (with_reducible exact bB.refl _)
   | (with_reducible exact bB.none _)
   | (with_reducible refine bB.ite ?_ ?_)
   | (with_reducible refine bB.bind ?_ (fun _ => ?_))
theorem a_.calls (k : Nat) (ay : Option Addr) (ap : Nat) (aD : List (List Int)) (ae : Option Addr) (a8 : Nat) (aG : List (List Int)) (a1 : Int) (A2 : Option Addr) (c2 : Nat) (l2 : List Int) (r : List Int) (w : World) (db : Kd.C (Kd.slice 3 (Kd.int .i64)) w ay aD.length aD) (dc : aD.length ≤ ap) (dH : Kd.C (Kd.slice 3 (Kd.int .i64)) w ae aG.length aG) (dI : aG.length ≤ a8) (Ai : Kd.C (Kd.int .i64) w A2 l2.length l2) (N2 : l2.length ≤ c2) (h : a_.f k aD aG a1 l2 = some r) :
  Calls Tryz.prog 93 #[.agg #[.slice ay aD.length ap, .slice ae aG.length a8], .int .i64 a1, .slice A2 l2.length c2] w fun e w' => ∃ iE : Value, e = .returned (iE) ∧ Kd.R (Kd.int .i64) 3 w' w.heap.size (fun _ => True) iE r ∧ Below w.heap.size w w' := by
 have rD := Tryz.underlying28
 have bl := Aside0.mk db
 have bz := Aside0.mk dc
 clear db dc
 have bx := Aside0.mk dH
 have cE := Aside0.mk dI
 clear dH dI
 have HR2 := Aside0.mk Ai
 have T_ := Aside0.mk N2
 clear Ai N2
 have HB := Aside0.mk (Below.refl w.heap.size w)
 have H : ((aW.f k aD aG a1).bind fun FY => ((aa.f k FY l2).bind fun FZ => (if 0 < (aD.length : Int) then (a_.l0 k a1 (aD.length : Int) ((aJ aD 0).length : Int) ([] : List Int) FZ.1 (FZ.1.length : Int) 0) else (none)))) = some r := h
 clear h
 replace H := bZ H; obtain ⟨FY, A4, H⟩ := H
 replace H := bZ H; obtain ⟨⟨pI, ajB⟩, A5, H⟩ := H; dsimp only at H
 by_cases c6 : 0 < (aD.length : Int)
 rotate_left
 ·rw [if_neg c6] at H
  exact absurd H (by simp)
 rw [if_pos c6] at H
 have hU := decide_eq_true c6
 have vt : decide (0 < aD.length) = true := decide_eq_true (by omega)
 clear c6
 have H' := Aside0.mk H
 clear H
 go_enter Tryz.func93, Tryz.ntmps93
 go_wp2_with (first | ((with_reducible refine ah (N := 3) rfl ?_); refine bE 3 #[.slice ay aD.length ap, .slice ae aG.length a8] 28 ?_; intro Yl hg w7 bO hb; have fY := am (bO); have Qz := gW HB hg; have L3 := Qz; replace HB := bS HB hb; clear hb bO hg; have Hh := cG fY.out; have Hi := cR fY.out; have Hj := aH fY.out 0; have Hk := aH fY.out 1) | (go_at_call 57; (with_reducible refine (aW.calls k (fun k_ => k_ < w.heap.size) _ _ aD _ _ aG a1 FY _ ?aT ?aU ?ao A4.out).mono ?_); (case aT => exact Kd.jo bz.out (Kd.mh (Kd.UK (Kd.nV 3 (Kd.ku .i64)) bl.out) (mb HB.out))); (case aU => exact cB bx HB); (case ao => exact cE.out); rintro e w9 ⟨v685, rfl, cC, hb⟩; have rV := am (Kd.gI (Kd.cJ (ok' := fun k_ => True) cC (fun _ gH => trivial)) (aC (mb HB.out))); replace fY := kS fY hb; replace HB := bS HB hb; (try clear hb cC); obtain ⟨El, xX, xY⟩ := Kd.gj rV.out; subst xY) | (go_at_call 118; (with_reducible refine (aa.calls k _ _ FY _ _ l2 pI ajB _ ?aT ?aU ?ao ?ar A5.out).mono ?_); (case aT => exact fy (Kd.cj rV.out).2.2); (case aU => exact (Kd.cj rV.out).2.1); (case ao => exact cB HR2 HB); (case ar => exact T_.out); rintro e tu ⟨v689, rfl, cC, hb⟩; replace rV := am (Kd.jI (gP rV.out) (Kd.bf cC) hb); have L4 := am (Kd.cO cC (aC (mb HB.out))); replace fY := kS fY hb; replace HB := bS HB hb; (try clear hb cC); have tv := cG fY.out; have tw := cR fY.out; have tx := aH fY.out 0; have tz := aH fY.out 1; have I6 : 0 ≤ (0 : Int) := (by omega); have I7 : 0 < (aD.length : Int) := bX; obtain ⟨Ym, ac6, ac7, ac8, lG, uU, uV⟩ := eO bl.out 0 I6 I7; cases ac8; have ajC : (0 < aD.length) = True := eq_true (by omega); (try rw [show ((0 : Int)).toNat = 0 from rfl] at lG); (try rw [Addr.add_zero'] at lG); replace lG := (HB.out.cell (World.block_lt_of_cell? w _ lG)).trans lG; have VM := Aside0.mk uV; have VO := Aside0.mk uU; clear uV uU; replace I6 := eq_true I6; replace I7 := eq_true I7; obtain ⟨FV, zV, I3⟩ := Kd.cH L4.out; subst I3))
 go_quiet (first | ((with_reducible refine ah (N := 3) rfl ?_); refine bE 3 #[.slice ay aD.length ap, .slice ae aG.length a8] 28 ?_; intro Yl hg w7 bO hb; have fY := am (bO); have Qz := gW HB hg; have L3 := Qz; replace HB := bS HB hb; clear hb bO hg; have Hh := cG fY.out; have Hi := cR fY.out; have Hj := aH fY.out 0; have Hk := aH fY.out 1) | (go_at_call 57; (with_reducible refine (aW.calls k (fun k_ => k_ < w.heap.size) _ _ aD _ _ aG a1 FY _ ?aT ?aU ?ao A4.out).mono ?_); (case aT => exact Kd.jo bz.out (Kd.mh (Kd.UK (Kd.nV 3 (Kd.ku .i64)) bl.out) (mb HB.out))); (case aU => exact cB bx HB); (case ao => exact cE.out); rintro e w9 ⟨v685, rfl, cC, hb⟩; have rV := am (Kd.gI (Kd.cJ (ok' := fun k_ => True) cC (fun _ gH => trivial)) (aC (mb HB.out))); replace fY := kS fY hb; replace HB := bS HB hb; (try clear hb cC); obtain ⟨El, xX, xY⟩ := Kd.gj rV.out; subst xY) | (go_at_call 118; (with_reducible refine (aa.calls k _ _ FY _ _ l2 pI ajB _ ?aT ?aU ?ao ?ar A5.out).mono ?_); (case aT => exact fy (Kd.cj rV.out).2.2); (case aU => exact (Kd.cj rV.out).2.1); (case ao => exact cB HR2 HB); (case ar => exact T_.out); rintro e tu ⟨v689, rfl, cC, hb⟩; replace rV := am (Kd.jI (gP rV.out) (Kd.bf cC) hb); have L4 := am (Kd.cO cC (aC (mb HB.out))); replace fY := kS fY hb; replace HB := bS HB hb; (try clear hb cC); have tv := cG fY.out; have tw := cR fY.out; have tx := aH fY.out 0; have tz := aH fY.out 1; have I6 : 0 ≤ (0 : Int) := (by omega); have I7 : 0 < (aD.length : Int) := bX; obtain ⟨Ym, ac6, ac7, ac8, lG, uU, uV⟩ := eO bl.out 0 I6 I7; cases ac8; have ajC : (0 < aD.length) = True := eq_true (by omega); (try rw [show ((0 : Int)).toNat = 0 from rfl] at lG); (try rw [Addr.add_zero'] at lG); replace lG := (HB.out.cell (World.block_lt_of_cell? w _ lG)).trans lG; have VM := Aside0.mk uV; have VO := Aside0.mk uU; clear uV uU; replace I6 := eq_true I6; replace I7 := eq_true I7; obtain ⟨FV, zV, I3⟩ := Kd.cH L4.out; subst I3)); try go_wp2
 go_loopg [11, 32] k (fun kq v11 v32 w' => ∃ (bj : List Int) (kA : Int), v32 = .int .i64 kA ∧ Aside0 (a_.l0 kq a1 (aD.length : Int) ((aJ aD 0).length : Int) bj pI (pI.length : Int) kA = some r) ∧ Aside0 (kq ≤ k) ∧ Aside0 (Kd.R (Kd.int .i64) 3 w' w.heap.size (fun k_ => some k_ ≠ ((.slice FV pI.length zV) : Value).ownBlock) v11 bj) ∧ Aside0 (Kd.R (Kd.int .i64) 3 w' w.heap.size (fun k_ => some k_ ≠ (v11 : Value).ownBlock) (.slice FV pI.length zV) pI) ∧ Aside0 (w'.heap[Yl]? = some (.cells #[(.slice (some Ym) aD.length ap), (.slice ae aG.length a8)] 28 (0, 0))) ∧ Aside0 (Below w.heap.size w w'))
 case atStart => exact ⟨(([] : List Int)), (0), dM, H', ⟨Nat.le_refl _⟩, ⟨Cr⟩, ⟨Kd.bD (ci L4.out) (fun _ hk => (by simp [Value.ownBlock]))⟩, ⟨ct fY.out⟩, ⟨mb HB.out⟩⟩
 case round =>
  clear H'
  obtain ⟨bj, kA, rfl, HA, dP, pJ, lU, fY, HB⟩ := hrel
  cases gk with
  | zero => exact absurd HA.out (by simp [a_.l0])
  | succ k1 =>
   have H := HA.out
   clear HA
   simp only [a_.l0] at H
   by_cases rC : kA < (pI.length : Int)
   rotate_left
   ·rw [if_neg rC] at H
    have rI := decide_eq_false rC
    clear rC
    obtain rfl := Option.some.inj H
    go_wp2
    go_ret
    exact ⟨_, jC, Kd.bD (ci pJ.out) (fun _ hk => trivial), mb HB.out⟩
   rw [if_pos rC] at H
   have rI := decide_eq_true rC
   clear rC
   replace H := fW H; obtain ⟨Ee, H⟩ := H
   replace H := fW H; obtain ⟨we, H⟩ := H
   by_cases E3 : a1 = 2
   rotate_left
   ·rw [if_neg E3] at H
    have yv := iQ E3
    have YJ := iR E3
    replace H := bZ H; obtain ⟨VL, A25, H⟩ := H
    have H' := Aside0.mk H
    clear H
    have zZ : 0 ≤ (kA : Int) := bX
    have z_ : kA < (pI.length : Int) := bX
    obtain ⟨F0, RA, L5⟩ := Kd.bi (Kd.aq lU.out).2.2 kA zZ z_
    cases RA
    replace zZ := eq_true zZ
    replace z_ := eq_true z_
    obtain ⟨j8, jS, Ci⟩ := Kd.cH pJ.out
    subst Ci
    go_wp2_with (first | (go_at_call 120; (with_reducible refine (bq.calls k1 (fun k_ => some k_ = (.slice j8 bj.length jS : Value).ownBlock) (.slice j8 bj.length jS) bj (rd pI kA) VL w _ ?aT ?aU A25.out).mono ?_); (case aT => repeat (first | (with_reducible first | exact HB.out | apply eV | apply dN | apply bd | refine dj ?_ L3.out) | exact HB.out)); (case aU => exact Kd.jr rfl pJ.out); rintro e w27 ⟨v700, rfl, cC, hb, HV⟩; replace fY := am (rO (ct fY.out) HV (fun jT => (fun e_ => (Kd.sW pJ.out fY.out (by decide)) e_) jT)); have ajD := am (Kd.bD (ok' := fun k_ => some k_ ≠ (.slice (some F0) pI.length zV : Value).ownBlock) cC (fun k_ gH => Or.elim gH (fun jT => fun e_ => (((lU.out).1 k_ e_.symm)) jT) (fun nS => (Kd.dz (Kd.iH (ci lU.out)) k_ nS)))); replace lU := am (Kd.bD (ok' := fun k_ => some k_ ≠ (v700 : Value).ownBlock) (Kd.DM (lU.out) HV (fun k_ gH jT => (gH) jT)) (fun k_ gH => fun e_ => Or.elim (cC.1 k_ e_.symm) (fun jT => gH.2.1 jT) (fun nS => Nat.not_le.2 gH.2.2 nS))); replace HB := am (hb); clear pJ; (try clear hb HV cC)))
    go_roundg k1
    case measure => have := dP.out; omega
    case rel => exact ⟨(VL), (wrap64 (kA + 1)), dM, H', ⟨by have := dP.out; omega⟩, ⟨ci ajD.out⟩, ⟨ci lU.out⟩, ⟨ct fY.out⟩, ⟨mb HB.out⟩⟩
   rw [if_pos E3] at H
   have yv := il E3
   have YJ := im E3
   clear E3
   by_cases c18 : (wrap64 ((rd pI kA) + (aD.length : Int))) ≥ (wrap64 ((aD.length : Int) + ((aJ aD 0).length : Int)))
   rotate_left
   ·rw [if_neg c18] at H
    have BX : decide ((wrap64 ((aD.length : Int) + ((aJ aD 0).length : Int))) ≤ (wrap64 ((rd pI kA) + (aD.length : Int)))) = false := decide_eq_false c18
    clear c18
    replace H := bZ H; obtain ⟨VK, p8, H⟩ := H
    have H' := Aside0.mk H
    clear H
    have zZ : 0 ≤ (kA : Int) := bX
    have z_ : kA < (pI.length : Int) := bX
    obtain ⟨F0, RA, L5⟩ := Kd.bi (Kd.aq lU.out).2.2 kA zZ z_
    cases RA
    replace zZ := eq_true zZ
    replace z_ := eq_true z_
    obtain ⟨ajE, ajF, aq'⟩ := Kd.cH pJ.out
    subst aq'
    go_wp2_with (first | (go_at_call 120; (with_reducible refine (bq.calls k1 (fun k_ => some k_ = (.slice ajE bj.length ajF : Value).ownBlock) (.slice ajE bj.length ajF) bj (wrap64 ((rd pI kA) + (aD.length : Int))) VK w _ ?aT ?aU p8.out).mono ?_); (case aT => repeat (first | (with_reducible first | exact HB.out | apply eV | apply dN | apply bd | refine dj ?_ L3.out) | exact HB.out)); (case aU => exact Kd.jr rfl pJ.out); rintro e Pb ⟨v697, rfl, cC, hb, HV⟩; replace fY := am (rO (ct fY.out) HV (fun jT => (fun e_ => (Kd.sW pJ.out fY.out (by decide)) e_) jT)); have ajG := am (Kd.bD (ok' := fun k_ => some k_ ≠ (.slice (some F0) pI.length zV : Value).ownBlock) cC (fun k_ gH => Or.elim gH (fun jT => fun e_ => (((lU.out).1 k_ e_.symm)) jT) (fun nS => (Kd.dz (Kd.iH (ci lU.out)) k_ nS)))); replace lU := am (Kd.bD (ok' := fun k_ => some k_ ≠ (v697 : Value).ownBlock) (Kd.DM (lU.out) HV (fun k_ gH jT => (gH) jT)) (fun k_ gH => fun e_ => Or.elim (cC.1 k_ e_.symm) (fun jT => gH.2.1 jT) (fun nS => Nat.not_le.2 gH.2.2 nS))); replace HB := am (hb); clear pJ; (try clear hb HV cC)))
    go_roundg k1
    case measure => have := dP.out; omega
    case rel => exact ⟨(VK), (wrap64 (kA + 1)), dM, H', ⟨by have := dP.out; omega⟩, ⟨ci ajG.out⟩, ⟨ci lU.out⟩, ⟨ct fY.out⟩, ⟨mb HB.out⟩⟩
   rw [if_pos c18] at H
   have BX : decide ((wrap64 ((aD.length : Int) + ((aJ aD 0).length : Int))) ≤ (wrap64 ((rd pI kA) + (aD.length : Int)))) = true := decide_eq_true c18
   clear c18
   replace H := bZ H; obtain ⟨VJ, A19, H⟩ := H
   have H' := Aside0.mk H
   clear H
   have zZ : 0 ≤ (kA : Int) := bX
   have z_ : kA < (pI.length : Int) := bX
   obtain ⟨F0, RA, L5⟩ := Kd.bi (Kd.aq lU.out).2.2 kA zZ z_
   cases RA
   replace zZ := eq_true zZ
   replace z_ := eq_true z_
   obtain ⟨RB, RC, ac9⟩ := Kd.cH pJ.out
   subst ac9
   go_wp2_with (first | (go_at_call 120; (with_reducible refine (bq.calls k1 (fun k_ => some k_ = (.slice RB bj.length RC : Value).ownBlock) (.slice RB bj.length RC) bj (wrap64 ((wrap64 ((rd pI kA) + (aD.length : Int))) - (wrap64 ((aD.length : Int) + ((aJ aD 0).length : Int))))) VJ w _ ?aT ?aU A19.out).mono ?_); (case aT => repeat (first | (with_reducible first | exact HB.out | apply eV | apply dN | apply bd | refine dj ?_ L3.out) | exact HB.out)); (case aU => exact Kd.jr rfl pJ.out); rintro e Ty ⟨v694, rfl, cC, hb, HV⟩; replace fY := am (rO (ct fY.out) HV (fun jT => (fun e_ => (Kd.sW pJ.out fY.out (by decide)) e_) jT)); have ajH := am (Kd.bD (ok' := fun k_ => some k_ ≠ (.slice (some F0) pI.length zV : Value).ownBlock) cC (fun k_ gH => Or.elim gH (fun jT => fun e_ => (((lU.out).1 k_ e_.symm)) jT) (fun nS => (Kd.dz (Kd.iH (ci lU.out)) k_ nS)))); replace lU := am (Kd.bD (ok' := fun k_ => some k_ ≠ (v694 : Value).ownBlock) (Kd.DM (lU.out) HV (fun k_ gH jT => (gH) jT)) (fun k_ gH => fun e_ => Or.elim (cC.1 k_ e_.symm) (fun jT => gH.2.1 jT) (fun nS => Nat.not_le.2 gH.2.2 nS))); replace HB := am (hb); clear pJ; (try clear hb HV cC)))
   go_roundg k1
   case measure => have := dP.out; omega
   case rel => exact ⟨(VJ), (wrap64 (kA + 1)), dM, H', ⟨by have := dP.out; omega⟩, ⟨ci ajH.out⟩, ⟨ci lU.out⟩, ⟨ct fY.out⟩, ⟨mb HB.out⟩⟩
mutual
def ab.l0 : Nat → Int → List (List Int) → List (List Int) → Option (Bool)
 | 0, _, _, _ => none
 | k + 1, x3, sA, sB => if x3 ≤ 2 then ((aW.f k sA sB x3).bind fun RD => ((aE.f k RD).bind fun pK => (ab.l1 k x3 pK (pK.length : Int) 0 sA sB))) else (some true)
def ab.l1 : Nat → Int → List (List Int) → Int → Int → List (List Int) → List (List Int) → Option (Bool)
 | 0, _, _, _, _, _, _ => none
 | k + 1, x3, sb, x14, wD, sA, sB => if wD < x14 then (if 0 ≤ wD then (if wD < (sb.length : Int) then ((a_.f k sA sB x3 (aJ sb wD)).bind fun I8 => (if (I8.length : Int) > (wrap64 (((aJ sb wD).length : Int) - 1)) then (some false) else (ab.l1 k x3 sb x14 (wrap64 (wD + 1)) sA sB))) else (none)) else (none)) else (ab.l0 k (wrap64 (x3 + 1)) sA sB)
end
def ab.f (k : Nat) (aD : List (List Int)) (aG : List (List Int)) : Option (Bool) := ab.l0 k 1 aD aG
theorem ab.bG : ∀ k, (∀ y0 y1 y2, bB (ab.l0 k y0 y1 y2) (ab.l0 (k + 1) y0 y1 y2)) ∧ (∀ y0 y1 y2 y3 y4 y5, bB (ab.l1 k y0 y1 y2 y3 y4 y5) (ab.l1 (k + 1) y0 y1 y2 y3 y4 y5))
 | 0 => ⟨fun _ _ _ r h => by simp [ab.l0] at h, fun _ _ _ _ _ _ r h => by simp [ab.l1] at h⟩
 | k + 1 => by
  obtain ⟨eQ, kP⟩ := ab.bG k
  refine ⟨?_, ?_⟩ <;> intros <;> (first | unfold ab.l0 | unfold ab.l1)
  all_goals repeat' first
  | (with_reducible exact eQ ..)
  | (with_reducible exact kP ..)
  | (with_reducible exact aE.mono ..)
  | (with_reducible exact aW.mono ..)
  | (with_reducible exact a_.mono ..)
  | (with_reducible exact bB.refl _)
  | (with_reducible exact bB.none _)
  | (with_reducible refine bB.ite ?_ ?_)
  | (with_reducible refine bB.bind ?_ (fun _ => ?_))
theorem ab.mono : ∀ a0 a1 k, bB (ab.f k a0 a1) (ab.f (k + 1) a0 a1) := by
 intro a0 a1 k
 obtain ⟨eQ, kP⟩ := ab.bG k
 unfold ab.f
 repeat' first
   | (with_reducible exact eQ ..)
   | (with_reducible exact kP ..)
   | (with_reducible exact aE.mono ..)
   | (with_reducible exact aW.mono ..)
   | (with_reducible exact a_.mono ..)
   | (with_reducible exact bB.refl _)
   | (with_reducible exact bB.none _)
   | (with_reducible refine bB.ite ?_ ?_)
   | (with_reducible refine bB.bind ?_ (fun _ => ?_))
theorem ab.calls (k : Nat) (ay : Option Addr) (ap : Nat) (aD : List (List Int)) (ae : Option Addr) (a8 : Nat) (aG : List (List Int)) (r : Bool) (w : World) (db : Kd.C (Kd.slice 3 (Kd.int .i64)) w ay aD.length aD) (dc : aD.length ≤ ap) (dH : Kd.C (Kd.slice 3 (Kd.int .i64)) w ae aG.length aG) (dI : aG.length ≤ a8) (h : ab.f k aD aG = some r) :
  Calls Tryz.prog 55 #[.agg #[.slice ay aD.length ap, .slice ae aG.length a8]] w fun e w' => e = .returned (.bool r) ∧ Below w.heap.size w w' := by
 have rD := Tryz.underlying28
 have bl := Aside0.mk db
 have bz := Aside0.mk dc
 clear db dc
 have bx := Aside0.mk dH
 have cE := Aside0.mk dI
 clear dH dI
 have HB := Aside0.mk (Below.refl w.heap.size w)
 have H : (ab.l0 k 1 aD aG) = some r := h
 clear h
 have H' := Aside0.mk H
 clear H
 go_enter Tryz.func55, Tryz.ntmps55
 go_wp2_with (first | ((with_reducible refine ah (N := 1) rfl ?_); refine bE 1 #[.slice ay aD.length ap, .slice ae aG.length a8] 28 ?_; intro Bi hg w2 bO hb; have iO := am (bO); have ajI := gW HB hg; have auF := ajI; replace HB := bS HB hb; clear hb bO hg))
 go_loopg [3] k (fun kq v3 w' => ∃ (bg : Int), v3 = .int .i64 bg ∧ Aside0 (ab.l0 kq bg aD aG = some r) ∧ Aside0 (kq ≤ k) ∧ Aside0 (w'.heap[Bi]? = some (.cells #[(.slice ay aD.length ap), (.slice ae aG.length a8)] 28 (0, 0))) ∧ Aside0 (Below w.heap.size w w'))
 case atStart => exact ⟨(1), dM, H', ⟨Nat.le_refl _⟩, ⟨ct iO.out⟩, ⟨mb HB.out⟩⟩
 case round =>
  clear H'
  obtain ⟨bg, rfl, HA, dP, iO, HB⟩ := hrel
  cases gk with
  | zero => exact absurd HA.out (by simp [ab.l0])
  | succ k1 =>
   have H := HA.out
   clear HA
   simp only [ab.l0] at H
   by_cases c3 : bg ≤ 2
   rotate_left
   ·rw [if_neg c3] at H
    have gX := decide_eq_false c3
    clear c3
    obtain rfl := Option.some.inj H
    go_wp2
    go_ret
    exact ⟨jC, mb HB.out⟩
   rw [if_pos c3] at H
   have gX := decide_eq_true c3
   clear c3
   replace H := bZ H; obtain ⟨RD, A4, H⟩ := H
   replace H := bZ H; obtain ⟨pK, A5, H⟩ := H
   have H' := Aside0.mk H
   clear H
   have C0 := cG iO.out
   have C1 := cR iO.out
   have C2 := aH iO.out 0
   have C3 := aH iO.out 1
   go_wp2_with (first | ((with_reducible refine gC 57 rfl ?_); refine gL 12 Tryz.func57 #[.agg #[.slice ay aD.length ap, .slice ae aG.length a8], .int .i64 bg] ?_; (with_reducible refine (aW.calls k1 (fun k_ => k_ < w.heap.size) _ _ aD _ _ aG bg RD _ ?aT ?aU ?ao A4.out).mono ?_); (case aT => exact Kd.jo bz.out (Kd.mh (Kd.UK (Kd.nV 3 (Kd.ku .i64)) bl.out) (mb HB.out))); (case aU => exact cB bx HB); (case ao => exact cE.out); rintro e w7 ⟨v704, rfl, cC, hb⟩; refine ⟨_, rfl, ?_⟩; have L6 := am (Kd.gI (Kd.cJ (ok' := fun k_ => True) cC (fun _ gH => trivial)) (aC (mb HB.out))); replace iO := kS iO hb; replace HB := bS HB hb; (try clear hb cC); obtain ⟨Ao8, tm, eo8⟩ := Kd.gj L6.out; subst eo8) | ((with_reducible refine gC 56 rfl ?_); refine gL 13 Tryz.func56 #[.slice Ao8 RD.length tm] ?_; (with_reducible refine (aE.calls k1 (fun k_ => (True ∧ k_ ≠ Bi)) _ _ RD pK _ ?aT A5.out).mono ?_); (case aT => exact Kd.S_V (Kd.jF (L6.out) iO.out (by decide))); rintro e w9 ⟨v707, rfl, cC, hb⟩; refine ⟨_, rfl, ?_⟩; replace L6 := am (Kd.dm (gP L6.out) hb); have Yn := am (Kd.mi (Kd.af (ok' := fun k_ => k_ ≠ Bi) cC (fun k_ gH => Or.elim gH (fun jT => jT.2) (fun nS => (Kd.du (g := Bi) (o := .cells #[.slice ay aD.length ap, .slice ae aG.length a8] 28 (0, 0)) (ct iO.out) k_ nS)))) (aC (mb HB.out))); replace iO := kS iO hb; replace HB := bS HB hb; (try clear hb cC); obtain ⟨El, xX, xY⟩ := Kd.lh Yn.out; subst xY))
   go_loopg [15] k1 (fun kq v15 w' => ∃ (ib : Int), v15 = .int .i64 ib ∧ Aside0 (ab.l1 kq bg pK (pK.length : Int) ib aD aG = some r) ∧ Aside0 (kq ≤ k1) ∧ Aside0 (Kd.V (Kd.slice 3 (Kd.int .i64)) 40 w' w.heap.size (fun k_ => k_ ≠ Bi) (.slice El pK.length xX) pK) ∧ Aside0 (w'.heap[Bi]? = some (.cells #[(.slice ay aD.length ap), (.slice ae aG.length a8)] 28 (0, 0))) ∧ Aside0 (Below w.heap.size w w'))
   case atStart => exact ⟨(0), dM, H', ⟨Nat.le_refl _⟩, ⟨c_ Yn.out⟩, ⟨ct iO.out⟩, ⟨mb HB.out⟩⟩
   case round =>
    clear H'
    obtain ⟨ib, rfl, HA, ft, fI, iO, HB⟩ := hrel
    cases gk with
    | zero => exact absurd HA.out (by simp [ab.l1])
    | succ k2 =>
     have H := HA.out
     clear HA
     simp only [ab.l1] at H
     by_cases nN : ib < (pK.length : Int)
     rotate_left
     ·rw [if_neg nN] at H
      have nJ := decide_eq_false nN
      clear nN
      have H' := Aside0.mk H
      clear H
      go_wp2
      go_roundg k2
      case measure => have := dP.out; have := ft.out; omega
      case rel => exact ⟨(wrap64 (bg + 1)), dM, H', ⟨by have := dP.out; have := ft.out; omega⟩, ⟨ct iO.out⟩, ⟨mb HB.out⟩⟩
     rw [if_pos nN] at H
     have nJ := decide_eq_true nN
     clear nN
     replace H := fW H; obtain ⟨uG, H⟩ := H
     replace H := fW H; obtain ⟨zJ, H⟩ := H
     replace H := bZ H; obtain ⟨I8, A14, H⟩ := H
     by_cases c15 : (I8.length : Int) > (wrap64 (((aJ pK ib).length : Int) - 1))
     ·rw [if_pos c15] at H
      have Ee : decide ((wrap64 (((aJ pK ib).length : Int) - 1)) < (I8.length : Int)) = true := decide_eq_true c15
      clear c15
      obtain rfl := Option.some.inj H
      have DN : 0 ≤ (ib : Int) := bX
      have DO : ib < (pK.length : Int) := bX
      obtain ⟨ajJ, I9, I_, ac_, DP, uW, uX⟩ := eO (Kd.bN fI.out).2.2 ib DN DO
      cases ac_
      obtain ⟨ajK, Ia, Ib, za⟩ := Kd.ly fI.out [] ib DN (by first | exact DO | exact bX | (have e_ := (Kd.bN fI.out).1; omega))
      obtain ⟨VP, VQ, rfl, qQ, qR⟩ := Kd.dG Ib
      have mq := za 0 _ rfl
      rw [Nat.add_zero, show ((Kd.slice 3 (Kd.int .i64))).sz = 1 from rfl, Nat.mul_one] at mq
      replace mq := Option.some.inj (mq.symm.trans DP)
      injection mq with fN iW fO
      rw [fN] at qR
      rw [fO] at qQ
      have uZ := Aside0.mk (show Kd.V (Kd.int .i64) 3 _ w.heap.size _ _ (aJ pK ib) from Kd.jo qQ qR)
      clear fN iW fO qR qQ
      clear za Ia
      have qT := Aside0.mk uX
      have DQ := Aside0.mk uW
      clear uX uW
      replace DN := eq_true DN
      replace DO := eq_true DO
      have yQ := cG iO.out
      have yR := cR iO.out
      have yS := aH iO.out 0
      have yT := aH iO.out 1
      go_wp2_with (first | ((with_reducible refine gC 93 rfl ?_); refine gL 22 Tryz.func93 #[.agg #[.slice ay aD.length ap, .slice ae aG.length a8], .int .i64 bg, .slice I9 (aJ pK ib).length I_] ?_; (with_reducible refine (a_.calls k2 _ _ aD _ _ aG bg _ _ (aJ pK ib) I8 _ ?aT ?aU ?ao ?ar ?gy ?nW A14.out).mono ?_); (case aT => exact cB bl HB); (case aU => exact bz.out); (case ao => exact cB bx HB); (case ar => exact cE.out); (case gy => exact fy qT.out); (case nW => exact DQ.out); rintro e T6 ⟨v711, rfl, cC, hb⟩; refine ⟨_, rfl, ?_⟩; replace fI := am (Kd.cY (c_ fI.out) (Kd.bf cC) hb); replace uZ := am (Kd.cY (c_ uZ.out) (Kd.bf cC) hb); have RE := am (Kd.cO cC (aC (mb HB.out))); replace iO := kS iO hb; replace qT := am (Kd.bh (fy qT.out) hb); replace HB := bS HB hb; (try clear hb cC); obtain ⟨VR, VS, ac'⟩ := Kd.cH RE.out; subst ac'))
      go_ret
      exact ⟨jC, mb HB.out⟩
     rw [if_neg c15] at H
     have Ee : decide ((wrap64 (((aJ pK ib).length : Int) - 1)) < (I8.length : Int)) = false := decide_eq_false c15
     clear c15
     have H' := Aside0.mk H
     clear H
     have DN : 0 ≤ (ib : Int) := bX
     have DO : ib < (pK.length : Int) := bX
     obtain ⟨ajJ, I9, I_, ac_, DP, uW, uX⟩ := eO (Kd.bN fI.out).2.2 ib DN DO
     cases ac_
     obtain ⟨ajK, Ia, Ib, za⟩ := Kd.ly fI.out [] ib DN (by first | exact DO | exact bX | (have e_ := (Kd.bN fI.out).1; omega))
     obtain ⟨VP, VQ, rfl, qQ, qR⟩ := Kd.dG Ib
     have mq := za 0 _ rfl
     rw [Nat.add_zero, show ((Kd.slice 3 (Kd.int .i64))).sz = 1 from rfl, Nat.mul_one] at mq
     replace mq := Option.some.inj (mq.symm.trans DP)
     injection mq with fN iW fO
     rw [fN] at qR
     rw [fO] at qQ
     have uZ := Aside0.mk (show Kd.V (Kd.int .i64) 3 _ w.heap.size _ _ (aJ pK ib) from Kd.jo qQ qR)
     clear fN iW fO qR qQ
     clear za Ia
     have qT := Aside0.mk uX
     have DQ := Aside0.mk uW
     clear uX uW
     replace DN := eq_true DN
     replace DO := eq_true DO
     have aoA := cG iO.out
     have aoB := cR iO.out
     have aoC := aH iO.out 0
     have aoD := aH iO.out 1
     go_wp2_with (first | ((with_reducible refine gC 93 rfl ?_); refine gL 22 Tryz.func93 #[.agg #[.slice ay aD.length ap, .slice ae aG.length a8], .int .i64 bg, .slice I9 (aJ pK ib).length I_] ?_; (with_reducible refine (a_.calls k2 _ _ aD _ _ aG bg _ _ (aJ pK ib) I8 _ ?aT ?aU ?ao ?ar ?gy ?nW A14.out).mono ?_); (case aT => exact cB bl HB); (case aU => exact bz.out); (case ao => exact cB bx HB); (case ar => exact cE.out); (case gy => exact fy qT.out); (case nW => exact DQ.out); rintro e P4 ⟨v711, rfl, cC, hb⟩; refine ⟨_, rfl, ?_⟩; replace fI := am (Kd.cY (c_ fI.out) (Kd.bf cC) hb); replace uZ := am (Kd.cY (c_ uZ.out) (Kd.bf cC) hb); have RE := am (Kd.cO cC (aC (mb HB.out))); replace iO := kS iO hb; replace qT := am (Kd.bh (fy qT.out) hb); replace HB := bS HB hb; (try clear hb cC); obtain ⟨Qj, Qk, acQ⟩ := Kd.cH RE.out; subst acQ))
     go_roundg k2
     case measure => have := dP.out; have := ft.out; omega
     case rel => exact ⟨(wrap64 (ib + 1)), dM, H', ⟨by have := dP.out; have := ft.out; omega⟩, ⟨Kd.af (c_ fI.out) (fun _ hk => hk.1)⟩, ⟨ct iO.out⟩, ⟨mb HB.out⟩⟩
end Go.Proofs.YtggiicplcglalaaGreat.All
end
