/- Part of the proof that FnExactWalkSteps answers true. -/
import Derived.Test.YtggiicplcglalaaGreatQW9
import Derived.Test.YtggiicplcglalaaGreatQW6
section
namespace Go.Proofs.YtggiicplcglalaaGreat.All
open Go.RowKit YtggiicplcglalaaGreatW.PrintWords YtggiicplcglalaaGreatW.PrintLast YtggiicplcglalaaGreatW.PrintMore
attribute [local go_sem] max2_int min2_int max_two min_two max_three min_three max_four min_four
set_option linter.unusedVariables false
set_option linter.unusedSimpArgs false
set_option maxHeartbeats 8000000
set_option maxRecDepth 100000
mutual
def aM.l0 : Nat → List (List Int) → List (List Int) → Int → Int → Int → List (bm) → Option ((List (List Int)))
 | 0, _, _, _, _, _, _ => none
 | k + 1, x3, rB, qq, tc, rp, ko => if tc < qq then (if 0 ≤ tc then (if tc < (rB.length : Int) then (aM.l1 k x3 (([] : List (bm))) rB qq tc (aJ rB tc) ((aJ rB tc).length : Int) 0 rp ko) else (none)) else (none)) else (if x3 = [] then (none) else (if x3.length < 4611686018427387904 then (some (iV x3)) else (none)))
def aM.l1 : Nat → List (List Int) → List (bm) → List (List Int) → Int → Int → List Int → Int → Int → Int → List (bm) → Option ((List (List Int)))
 | 0, _, _, _, _, _, _, _, _, _, _ => none
 | k + 1, x3, x6, rB, qq, tc, H_, Tq, o8, rp, ko => if o8 < Tq then (if 0 ≤ o8 then (if o8 < (H_.length : Int) then (if 0 ≤ (rd H_ o8) then (if (rd H_ o8) < (ko.length : Int) then (if x6.length < 3518437208883 then (aM.l1 k x3 (x6 ++ [(⟨(au ko (rd H_ o8)).f0, (au ko (rd H_ o8)).f1, (au ko (rd H_ o8)).f2⟩ : bm)]) rB qq tc H_ Tq (wrap64 (o8 + 1)) rp ko) else (none)) else (none)) else (none)) else (none)) else (none)) else ((aY.f k x6).bind fun gR => (if gR = [] then (aM.l0 k x3 rB qq (wrap64 (tc + 1)) rp ko) else ((dv.f k ko gR).bind fun aax => (if aax = true then (aM.l0 k x3 rB qq (wrap64 (tc + 1)) rp ko) else ((bF.f k gR).bind fun Ap => (if x3.length < 5864062014805 then (aM.l0 k (x3 ++ [Ap]) rB qq (wrap64 (tc + 1)) rp ko) else (none)))))))
end
def aM.f (k : Nat) (eI : Int) (aG : List (bm)) : Option ((List (List Int))) := (bA.f k (aG.length : Int) eI 0).bind fun eJ => (aM.l0 k (([] : List (List Int))) eJ (eJ.length : Int) 0 eI aG)
theorem aM.bG : ∀ k, (∀ y0 y1 y2 y3 y4 y5, bB (aM.l0 k y0 y1 y2 y3 y4 y5) (aM.l0 (k + 1) y0 y1 y2 y3 y4 y5)) ∧ (∀ y0 y1 y2 y3 y4 y5 y6 y7 y8 y9, bB (aM.l1 k y0 y1 y2 y3 y4 y5 y6 y7 y8 y9) (aM.l1 (k + 1) y0 y1 y2 y3 y4 y5 y6 y7 y8 y9))
 | 0 => ⟨fun _ _ _ _ _ _ r h => by simp [aM.l0] at h, fun _ _ _ _ _ _ _ _ _ _ r h => by simp [aM.l1] at h⟩
 | k + 1 => by
  obtain ⟨eQ, kP⟩ := aM.bG k
  refine ⟨?_, ?_⟩ <;> intros <;> (first | unfold aM.l0 | unfold aM.l1)
  all_goals repeat' first
  | (with_reducible exact eQ ..)
  | (with_reducible exact kP ..)
  | (with_reducible exact bA.mono ..)
  | (with_reducible exact bF.mono ..)
  | (with_reducible exact aY.mono ..)
  | (with_reducible exact dv.mono ..)
  | (with_reducible exact bB.refl _)
  | (with_reducible exact bB.none _)
  | (with_reducible refine bB.ite ?_ ?_)
  | (with_reducible refine bB.bind ?_ (fun _ => ?_))
theorem aM.mono : ∀ a0 a1 k, bB (aM.f k a0 a1) (aM.f (k + 1) a0 a1) := by
 intro a0 a1 k
 obtain ⟨eQ, kP⟩ := aM.bG k
 unfold aM.f
 repeat' first
   | (with_reducible exact eQ ..)
   | (with_reducible exact kP ..)
   | (with_reducible exact bA.mono ..)
   | (with_reducible exact bF.mono ..)
   | (with_reducible exact aY.mono ..)
   | (with_reducible exact dv.mono ..)
   | (with_reducible exact bB.refl _)
   | (with_reducible exact bB.none _)
   | (with_reducible refine bB.ite ?_ ?_)
   | (with_reducible refine bB.bind ?_ (fun _ => ?_))
attribute [local go_sem] clone_neqS clone_eqlS in
theorem aM.PN (k : Nat) (eI : Int) (iL : Nat → Prop) (ae : Option Addr) (a8 : Nat) (aG : List (bm)) (r : List (List Int)) (w : World) (agT : Kd.V eB 113 w w.heap.size (fun k_ => iL k_) (.slice ae aG.length a8) aG) (h : aM.f k eI aG = some r) :
  Calls Tryz.prog 65 #[.agg #[.int .i64 eI, .slice ae aG.length a8]] w fun e w' => ∃ iE : Value, e = .returned (iE) ∧ Kd.S (Kd.slice 3 (Kd.int .i64)) 40 w' w.heap.size (fun k_ => (w.heap.size ≤ k_)) iE r ∧ Below w.heap.size w w' := by
 have Tr := Tryz.underlying77
 have KE := Tryz.underlying113
 have yu := Aside0.mk (show Kd.V eB 113 w w.heap.size (fun k_ => (iL k_ ∨ w.heap.size ≤ k_)) (.slice ae aG.length a8) aG from Kd.af agT (fun k_ hk => .inl hk))
 have HB := Aside0.mk (Below.refl w.heap.size w)
 have H : ((bA.f k (aG.length : Int) eI 0).bind fun eJ => (aM.l0 k (([] : List (List Int))) eJ (eJ.length : Int) 0 eI aG)) = some r := h
 clear h
 replace H := br (([] : List (List Int))) (fun aay => ((bA.f k (aG.length : Int) eI 0).bind fun eJ => (aM.l0 k aay eJ (eJ.length : Int) 0 eI aG)) = some r) H; obtain ⟨aay, Xp, H⟩ := H
 replace H := bZ H; obtain ⟨eJ, A2, H⟩ := H
 have H' := Aside0.mk H
 clear H
 go_enter Tryz.func65, Tryz.ntmps65
 go_wp2_with (first | ((with_reducible refine ah (N := 1) rfl ?_); refine bE 1 #[.int .i64 eI, .slice ae aG.length a8] 77 ?_; intro eY hg w3 bO hb; replace yu := am (Kd.cn (Kd.lx (c_ yu.out) eY (Nat.le_of_eq hg.symm)) hb); have dO := am (bO); have agU := gW HB hg; have atB := agU; replace HB := bS HB hb; clear hb bO hg) | ((with_reducible refine ah (N := 10) rfl ?_); refine Kd.Xq (Kd.slice 3 (Kd.int .i64)) _ 40 ?hg (N := 10) ?hd (xs := ([] : List (List Int))) (inner := []) (ok := fun _ => True) (okp := fun _ => True) ?hr ?hp (fun _ hk => hk) trivial (Below.refl _ _) (Nat.le_refl _) (by simp) ?_; (case hd => rfl); (case hg => rfl); (case hr => first | (go_simp; done) | (go_simp; rfl)); (case hp => exact (cV.none _ _)); intro v337 w4 xw hb jn dB; clear jn dB; (first | rw [← Xp.out] at xw | (simp only [Int.reduceToNat] at xw; rw [← Xp.out] at xw)); replace yu := am (Kd.cY (c_ yu.out) (Kd.kV xw) hb); have KF := am (Kd.gI (Kd.PO (M := fun k_ => (w.heap.size ≤ k_)) xw (aC (mb HB.out)) (fun k_ h_ => h_)) (aC (mb HB.out))); replace dO := kS dO hb; replace HB := bS HB hb; clear hb xw; have C0 := cG dO.out; have C1 := cR dO.out; have C2 := aH dO.out 0; have C3 := aH dO.out 1) | ((with_reducible refine gC 128 rfl ?_); refine gL 16 Tryz.func128 #[.int .i64 (aG.length : Int), .int .i64 eI, .int .i64 0] ?_; (with_reducible refine (bA.calls k (aG.length : Int) eI 0 eJ _ A2.out).mono ?_); rintro e w7 ⟨v340, rfl, cC, hb⟩; refine ⟨_, rfl, ?_⟩; replace yu := am (Kd.cY (c_ yu.out) (Kd.gv cC) hb); have Xr := am (Kd.fT (Kd.bK (ok' := fun k_ => (iL k_ ∨ w.heap.size ≤ k_) ∧ some k_ ≠ (v337 : Value).ownBlock ∧ k_ ≠ eY) cC (fun k_ gH => ⟨(.inr (Nat.le_trans (aC (mb HB.out)) gH)), (Kd.dz (Kd.sX (gP KF.out)) k_ gH), (Kd.du (g := eY) (o := .cells #[.int .i64 eI, .slice ae aG.length a8] 77 (0, 0)) (ct dO.out) k_ gH)⟩)) (aC (mb HB.out))); replace KF := am (Kd.jI (gP KF.out) (Kd.gv cC) hb); replace dO := kS dO hb; replace HB := bS HB hb; (try clear hb cC); obtain ⟨Ao8, tm, eo8⟩ := Kd.da Xr.out; subst eo8))
 go_loopg [3, 18] k (fun kq v3 v18 w' => ∃ (bg : List (List Int)) (eu : Int), v18 = .int .i64 eu ∧ Aside0 (aM.l0 kq bg eJ (eJ.length : Int) eu eI aG = some r) ∧ Aside0 (kq ≤ k) ∧ Aside0 (Kd.S (Kd.slice 3 (Kd.int .i64)) 40 w' w.heap.size (fun k_ => (w.heap.size ≤ k_) ∧ some k_ ≠ ((.slice Ao8 eJ.length tm) : Value).ownBlock) v3 bg) ∧ Aside0 (Kd.N (Kd.slice 3 (Kd.int .i64)) 40 w' w.heap.size (fun k_ => (iL k_ ∨ w.heap.size ≤ k_) ∧ some k_ ≠ (v3 : Value).ownBlock ∧ k_ ≠ eY) (.slice Ao8 eJ.length tm) eJ) ∧ Aside0 (Kd.V eB 113 w' w.heap.size (fun k_ => (iL k_ ∨ w.heap.size ≤ k_) ∧ some k_ ≠ (v3 : Value).ownBlock ∧ some k_ ≠ ((.slice Ao8 eJ.length tm) : Value).ownBlock ∧ k_ ≠ eY) (.slice ae aG.length a8) aG) ∧ Aside0 (w'.heap[eY]? = some (.cells #[.int .i64 eI, (.slice ae aG.length a8)] 77 (0, 0))) ∧ Aside0 (Below w.heap.size w w'))
 case atStart => exact ⟨(aay), (0), dM, H', ⟨Nat.le_refl _⟩, ⟨Kd.cJ (gP KF.out) (fun _ hk => ⟨hk.1.1, hk.2⟩)⟩, ⟨dX Xr.out⟩, ⟨Kd.af (c_ yu.out) (fun _ hk => ⟨hk.1.1.1, ⟨hk.1.2, ⟨hk.2, hk.1.1.2⟩⟩⟩)⟩, ⟨ct dO.out⟩, ⟨mb HB.out⟩⟩
 case round =>
  clear H'
  obtain ⟨bg, eu, rfl, HA, dP, cW, fa, cF, dO, HB⟩ := hrel
  cases gk with
  | zero => exact absurd HA.out (by simp [aM.l0])
  | succ k1 =>
   have H := HA.out
   clear HA
   simp only [aM.l0] at H
   by_cases c9 : eu < (eJ.length : Int)
   rotate_left
   ·rw [if_neg c9] at H
    have tF := decide_eq_false c9
    clear c9
    by_cases cN : bg = []
    ·rw [if_pos cN] at H
     exact absurd H (by simp)
    rw [if_neg cN] at H
    have CN := Aside0.mk cN
    clear cN
    by_cases cL : bg.length < 4611686018427387904
    rotate_left
    ·rw [if_neg cL] at H
     exact absurd H (by simp)
    rw [if_pos cL] at H
    have CL := Aside0.mk cL
    clear cL
    obtain rfl := Option.some.inj H
    clear H
    go_wp2_with (first | (go_at_call 134; (with_reducible refine (NM (mb HB.out) (gP cW.out) CN.out CL.out).mono ?_); rintro e wS ⟨rfl, ys_, agW, agX, hS_, hB_⟩; have PM_ := Aside0.mk agW; have SO_ := Aside0.mk agX; have HS_ := Aside0.mk hS_; clear HB cW; have HB := Aside0.mk hB_; clear agW agX hS_ hB_) | (go_at_call 136; (with_reducible refine (C4 (mb HB.out) (gP HS_.out) (fun e_ => absurd (by have h_ := PM_.out; rw [e_] at h_; exact h_.symm.eq_nil) CN.out) (by rw [PM_.out.length_eq]; exact CL.out) (by simpa only [Int.not_lt] using SO_.out)).mono ?_); rintro e wT ⟨vz_, zs_, rfl, agZ, ag0, hS_, hB_⟩; rw [Ec PM_.out agZ ag0] at hS_; clear HS_ HB; have ak := Aside0.mk hS_; have HB := Aside0.mk hB_; clear agZ ag0 hS_ hB_))
    go_ret
    exact ⟨_, rfl, Kd.cJ (gP ak.out) (fun _ hk => hk.1), mb HB.out⟩
   rw [if_pos c9] at H
   have tF := decide_eq_true c9
   clear c9
   replace H := fW H; obtain ⟨oC, H⟩ := H
   replace H := fW H; obtain ⟨nJ, H⟩ := H
   replace H := br (([] : List (bm))) (fun aaz => (aM.l1 k1 bg aaz eJ (eJ.length : Int) eu (aJ eJ eu) ((aJ eJ eu).length : Int) 0 eI aG) = some r) H; obtain ⟨aaz, Xs, H⟩ := H
   have H' := Aside0.mk H
   clear H
   have Ts : 0 ≤ (eu : Int) := bX
   have Tt : eu < (eJ.length : Int) := bX
   obtain ⟨jc, aaA, aaB, apO, Tu, KG, KH⟩ := eO (Kd.cZ fa.out).2.2 eu Ts Tt
   cases apO
   obtain ⟨atC, aaC, aaD, PQ⟩ := Kd.KI fa.out [] eu Ts (by first | exact Tt | exact bX | (have e_ := (Kd.cZ fa.out).1; omega))
   obtain ⟨anL, anM, rfl, C5, C6⟩ := Kd.dG aaD
   have xx := PQ 0 _ rfl
   rw [Nat.add_zero, show ((Kd.slice 3 (Kd.int .i64))).sz = 1 from rfl, Nat.mul_one] at xx
   replace xx := Option.some.inj (xx.symm.trans Tu)
   injection xx with fN iW fO
   rw [fN] at C6
   rw [fO] at C5
   have C7 := Aside0.mk (show Kd.V (Kd.int .i64) 3 _ w.heap.size _ _ (aJ eJ eu) from Kd.jo C5 C6)
   clear fN iW fO C6 C5
   clear PQ aaC
   have KJ := Aside0.mk KH
   have anN := Aside0.mk KG
   clear KH KG
   replace Ts := eq_true Ts
   replace Tt := eq_true Tt
   go_wp2_with (first | ((with_reducible refine ah (N := 22) rfl ?_); refine Kd.nK eB _ 113 ?hg (N' := 22) ?hd (xs := ([] : List (bm))) (inner := []) (ok := (fun k_ => (iL k_ ∨ w.heap.size ≤ k_) ∧ some k_ ≠ (u3 : Value).ownBlock ∧ some k_ ≠ (.slice (some jc) eJ.length tm : Value).ownBlock ∧ k_ ≠ eY)) (okp := (fun k_ => (iL k_ ∨ w.heap.size ≤ k_) ∧ some k_ ≠ (u3 : Value).ownBlock ∧ some k_ ≠ (.slice (some jc) eJ.length tm : Value).ownBlock ∧ k_ ≠ eY)) ?hr ?hp (fun _ hk => hk) ((show ∀ k_, wr.heap.size ≤ k_ → (fun k_ => (iL k_ ∨ w.heap.size ≤ k_) ∧ some k_ ≠ (u3 : Value).ownBlock ∧ some k_ ≠ (.slice (some jc) eJ.length tm : Value).ownBlock ∧ k_ ≠ eY) k_ from fun k_ hk => ⟨(.inr (Nat.le_trans (aC (mb HB.out)) hk)), Kd.dz (Kd.sX (gP cW.out)) k_ hk, Kd.dz (Kd.rH (dX fa.out)) k_ hk, Kd.du (g := eY) (o := .cells #[.int .i64 eI, .slice ae aG.length a8] 77 (0, 0)) (ct dO.out) k_ hk⟩) _ (Nat.le_refl _)) (Below.refl _ _) (Nat.le_refl _) (by simp) ?_; (case hd => rfl); (case hg => rfl); (case hr => first | (go_simp; done) | (go_simp; rfl)); (case hp => exact (cV.none _ _)); intro v344 Ou Ed hb jn dB; clear jn dB; (first | rw [← Xs.out] at Ed | (simp only [Int.reduceToNat] at Ed; rw [← Xs.out] at Ed)); replace cW := am (Kd.dm (gP cW.out) hb); replace fa := am (Kd.cw (dX fa.out) (Kd.gv Ed) hb); replace cF := am (Kd.cY (c_ cF.out) (Kd.gv Ed) hb); replace C7 := am (Kd.cY (c_ C7.out) (Kd.gv Ed) hb); have ag1 := am (Kd.fT Ed (aC (mb HB.out))); replace dO := kS dO hb; replace KJ := am (Kd.bh (fy KJ.out) hb); replace HB := bS HB hb; clear hb Ed))
   go_loopg [6, 25] k1 (fun kq v6 v25 w' => ∃ (cd : List (bm)) (eC : Int), v25 = .int .i64 eC ∧ Aside0 (aM.l1 kq bg cd eJ (eJ.length : Int) eu (aJ eJ eu) ((aJ eJ eu).length : Int) eC eI aG = some r) ∧ Aside0 (kq ≤ k1) ∧ Aside0 (Kd.S (Kd.slice 3 (Kd.int .i64)) 40 w' w.heap.size (fun k_ => (w.heap.size ≤ k_) ∧ some k_ ≠ ((.slice (some jc) eJ.length tm) : Value).ownBlock) u3 bg) ∧ Aside0 (Kd.N eB 113 w' w.heap.size (fun k_ => (iL k_ ∨ w.heap.size ≤ k_) ∧ some k_ ≠ (u3 : Value).ownBlock ∧ some k_ ≠ ((.slice (some jc) eJ.length tm) : Value).ownBlock ∧ k_ ≠ eY) v6 cd) ∧ Aside0 (Kd.N (Kd.slice 3 (Kd.int .i64)) 40 w' w.heap.size (fun k_ => (iL k_ ∨ w.heap.size ≤ k_) ∧ some k_ ≠ (u3 : Value).ownBlock ∧ some k_ ≠ (v6 : Value).ownBlock ∧ k_ ≠ eY) (.slice (some jc) eJ.length tm) eJ) ∧ Aside0 (Kd.V (Kd.int .i64) 3 w' w.heap.size (fun k_ => (iL k_ ∨ w.heap.size ≤ k_) ∧ some k_ ≠ (u3 : Value).ownBlock ∧ some k_ ≠ (v6 : Value).ownBlock ∧ k_ ≠ eY) (.slice aaA (aJ eJ eu).length aaB) (aJ eJ eu)) ∧ Aside0 (Kd.V eB 113 w' w.heap.size (fun k_ => (iL k_ ∨ w.heap.size ≤ k_) ∧ some k_ ≠ (u3 : Value).ownBlock ∧ some k_ ≠ (v6 : Value).ownBlock ∧ some k_ ≠ ((.slice (some jc) eJ.length tm) : Value).ownBlock ∧ k_ ≠ eY) (.slice ae aG.length a8) aG) ∧ Aside0 (w'.heap[eY]? = some (.cells #[.int .i64 eI, (.slice ae aG.length a8)] 77 (0, 0))) ∧ Aside0 (Below w.heap.size w w'))
   case atStart => exact ⟨(aaz), (0), dM, H', ⟨Nat.le_refl _⟩, ⟨gP cW.out⟩, ⟨dX ag1.out⟩, ⟨Kd.bK (dX fa.out) (fun _ hk => ⟨hk.1.1, ⟨hk.1.2.1, ⟨hk.2, hk.1.2.2⟩⟩⟩)⟩, ⟨Kd.af (c_ C7.out) (fun _ hk => ⟨hk.1.1.1, ⟨hk.1.1.2.1, ⟨hk.2, hk.1.1.2.2⟩⟩⟩)⟩, ⟨Kd.af (c_ cF.out) (fun _ hk => ⟨hk.1.1, ⟨hk.1.2.1, ⟨hk.2, ⟨hk.1.2.2.1, hk.1.2.2.2⟩⟩⟩⟩)⟩, ⟨ct dO.out⟩, ⟨mb HB.out⟩⟩
   case round =>
    clear H'
    obtain ⟨cd, eC, rfl, HA, ft, cW, cM, fa, NN, cF, dO, HB⟩ := hrel
    cases gk with
    | zero => exact absurd HA.out (by simp [aM.l1])
    | succ k2 =>
     have H := HA.out
     clear HA
     simp only [aM.l1] at H
     by_cases rC : eC < ((aJ eJ eu).length : Int)
     ·rw [if_pos rC] at H
      have rI := decide_eq_true rC
      clear rC
      replace H := fW H; obtain ⟨Ee, H⟩ := H
      replace H := fW H; obtain ⟨we, H⟩ := H
      replace H := fW H; obtain ⟨yv, H⟩ := H
      replace H := fW H; obtain ⟨BX, H⟩ := H
      replace H := np H; obtain ⟨yw, H⟩ := H
      replace H := br (cd ++ [(⟨(au aG (rd (aJ eJ eu) eC)).f0, (au aG (rd (aJ eJ eu) eC)).f1, (au aG (rd (aJ eJ eu) eC)).f2⟩ : bm)]) (fun aaE => (aM.l1 k2 bg aaE eJ (eJ.length : Int) eu (aJ eJ eu) ((aJ eJ eu).length : Int) (wrap64 (eC + 1)) eI aG) = some r) H; obtain ⟨aaE, ag2, H⟩ := H
      have H' := Aside0.mk H
      clear H
      have aaF : 0 ≤ (eC : Int) := bX
      have aaG : eC < ((aJ eJ eu).length : Int) := bX
      obtain ⟨atD, apP, anO⟩ := Kd.bi (Kd.bN NN.out).2.2 eC aaF aaG
      cases apP
      replace aaF := eq_true aaF
      replace aaG := eq_true aaG
      have KK := cG dO.out
      have KL := cR dO.out
      have KM := aH dO.out 0
      have KN := aH dO.out 1
      have Tv : 0 ≤ ((rd (aJ eJ eu) eC) : Int) := bX
      have Tw : (rd (aJ eJ eu) eC) < (aG.length : Int) := bX
      obtain ⟨ag3, aaH, aaI, apQ, Tx, anP, anQ, KO, KP⟩ := rq (Kd.bN cF.out).2.2 (rd (aJ eJ eu) eC) Tv Tw
      cases apQ
      obtain ⟨atE, aaJ, aaK, PR⟩ := Kd.ly cF.out Ha (rd (aJ eJ eu) eC) Tv (by first | exact Tw | exact bX | (have e_ := (Kd.bN cF.out).1; omega))
      obtain ⟨anR, anS, rfl, C8, C9⟩ := tG aaK
      have xy := PR 0 _ rfl
      rw [Nat.add_zero] at xy
      replace xy := Option.some.inj (xy.symm.trans Tx)
      injection xy with fN iW fO
      rw [fN] at C9
      rw [fO] at C8
      have xz := Aside0.mk (show Kd.V (Kd.int .i64) 3 _ w.heap.size _ _ ((au aG (rd (aJ eJ eu) eC)).f0) from Kd.jo C8 C9)
      clear fN iW fO C9 C8
      clear PR aaJ
      have anT := Aside0.mk KP
      have anU := Aside0.mk KO
      clear KP KO
      replace Tv := eq_true Tv
      replace Tw := eq_true Tw
      go_wp2_with (first | ((with_reducible refine bC (b := .append) (xs := #[.tmp 29, .tmp 35]) rfl ?_); at_builtin; refine Kd.iX eB (w0 := w) w.heap.size rfl (.tmp 29) (.tmp 35) 75 113 (.agg #[(.slice none 0 0), (.int .i64 0), (.bool false)]) 40 rfl Tryz.underlying75 pr rfl (by decide) (by omega) u6 cd (⟨(au aG (rd (aJ eJ eu) eC)).f0, (au aG (rd (aJ eJ eu) eC)).f1, (au aG (rd (aJ eJ eu) eC)).f2⟩ : bm) [.slice aaH ((au aG (rd (aJ eJ eu) eC)).f0).length aaI, .int .i64 ((au aG (rd (aJ eJ eu) eC)).f1), .bool ((au aG (rd (aJ eJ eu) eC)).f2)] (fun k_ => (iL k_ ∨ w.heap.size ≤ k_) ∧ some k_ ≠ (u3 : Value).ownBlock ∧ some k_ ≠ (.slice (some jc) eJ.length tm : Value).ownBlock ∧ k_ ≠ eY) (fun k_ => ((fun k_ => (iL k_ ∨ w.heap.size ≤ k_) ∧ some k_ ≠ (u3 : Value).ownBlock ∧ some k_ ≠ (.slice (some jc) eJ.length tm : Value).ownBlock ∧ k_ ≠ eY)) k_ ∧ some k_ ≠ (u6 : Value).ownBlock) rfl rfl ?aP (fun _ hk => hk) ?aF ?aO ?aB ?aS ?aL ?_; (case aP => exact (rJ _ _ (⟨(au aG (rd (aJ eJ eu) eC)).f0, (au aG (rd (aJ eJ eu) eC)).f1, (au aG (rd (aJ eJ eu) eC)).f2⟩ : bm) (Kd.bN (Kd.af (ok' := (fun k_ => ((fun k_ => (iL k_ ∨ w.heap.size ≤ k_) ∧ some k_ ≠ (u3 : Value).ownBlock ∧ some k_ ≠ (.slice (some jc) eJ.length tm : Value).ownBlock ∧ k_ ≠ eY)) k_ ∧ some k_ ≠ (u6 : Value).ownBlock)) (xz.out) (fun k_ hk => ⟨⟨hk.1, ⟨hk.2.1, ⟨hk.2.2.2.1, hk.2.2.2.2⟩⟩⟩, hk.2.2.1⟩))).2.1 (Kd.PS (Kd.af (ok' := (fun k_ => ((fun k_ => (iL k_ ∨ w.heap.size ≤ k_) ∧ some k_ ≠ (u3 : Value).ownBlock ∧ some k_ ≠ (.slice (some jc) eJ.length tm : Value).ownBlock ∧ k_ ≠ eY)) k_ ∧ some k_ ≠ (u6 : Value).ownBlock)) (xz.out) (fun k_ hk => ⟨⟨hk.1, ⟨hk.2.1, ⟨hk.2.2.2.1, hk.2.2.2.2⟩⟩⟩, hk.2.2.1⟩))))); (case aB => exact (mb HB.out)); (case aF => exact (fun k_ hk => ⟨(.inr (Nat.le_trans (aC (mb HB.out)) hk)), Kd.dz (Kd.sX (gP cW.out)) k_ hk, Kd.dz (Kd.rH (dX fa.out)) k_ hk, Kd.du (g := eY) (o := .cells #[.int .i64 eI, .slice (some ag3) aG.length a8] 77 (0, 0)) (ct dO.out) k_ hk⟩)); (case aO => exact (dX cM.out)); (case aS => exact (aC (mb HB.out))); (case aL => have := yw.out; omega); intro v349 Ty ho hb hg bk; rw [← ag2.out] at ho; replace cW := am (Kd.Tz (gP cW.out) (Kd.dy (dX cM.out)) (by decide) hg); replace fa := am (Kd.dJ (ok := (fun k_ => (iL k_ ∨ w.heap.size ≤ k_) ∧ some k_ ≠ (u3 : Value).ownBlock ∧ k_ ≠ eY)) (Kd.bK (dX fa.out) (fun _ hk => ⟨⟨hk.1, ⟨hk.2.1, hk.2.2.2⟩⟩, hk.2.2.1⟩)) hg bk); replace NN := am (Kd.bH (ok := (fun k_ => (iL k_ ∨ w.heap.size ≤ k_) ∧ some k_ ≠ (u3 : Value).ownBlock ∧ k_ ≠ eY)) (Kd.af (c_ NN.out) (fun _ hk => ⟨⟨hk.1, ⟨hk.2.1, hk.2.2.2⟩⟩, hk.2.2.1⟩)) hg bk); replace cF := am (Kd.bH (ok := (fun k_ => (iL k_ ∨ w.heap.size ≤ k_) ∧ some k_ ≠ (u3 : Value).ownBlock ∧ some k_ ≠ (.slice (some jc) eJ.length tm : Value).ownBlock ∧ k_ ≠ eY)) (Kd.af (c_ cF.out) (fun _ hk => ⟨⟨hk.1, ⟨hk.2.1, ⟨hk.2.2.2.1, hk.2.2.2.2⟩⟩⟩, hk.2.2.1⟩)) hg bk); replace dO := am (di (ct dO.out) hg (Kd.Aq cM.out dO.out (by decide))); replace xz := am (Kd.bH (ok := (fun k_ => (iL k_ ∨ w.heap.size ≤ k_) ∧ some k_ ≠ (u3 : Value).ownBlock ∧ some k_ ≠ (.slice (some jc) eJ.length tm : Value).ownBlock ∧ k_ ≠ eY)) (Kd.af (c_ xz.out) (fun _ hk => ⟨⟨hk.1, ⟨hk.2.1, ⟨hk.2.2.2.1, hk.2.2.2.2⟩⟩⟩, hk.2.2.1⟩)) hg bk); replace HB := am (hb); have ag4 := am (ho); clear cM; clear ho hb hg bk))
      go_roundg k2
      case measure => have := dP.out; have := ft.out; omega
      case rel => exact ⟨(aaE), (wrap64 (eC + 1)), dM, H', ⟨by have := dP.out; have := ft.out; omega⟩, ⟨gP cW.out⟩, ⟨dX ag4.out⟩, ⟨Kd.bK (dX fa.out) (fun _ hk => ⟨hk.1.1, ⟨hk.1.2.1, ⟨hk.2, hk.1.2.2⟩⟩⟩)⟩, ⟨Kd.af (c_ NN.out) (fun _ hk => ⟨hk.1.1, ⟨hk.1.2.1, ⟨hk.2, hk.1.2.2⟩⟩⟩)⟩, ⟨Kd.af (c_ cF.out) (fun _ hk => ⟨hk.1.1, ⟨hk.1.2.1, ⟨hk.2, ⟨hk.1.2.2.1, hk.1.2.2.2⟩⟩⟩⟩)⟩, ⟨ct dO.out⟩, ⟨mb HB.out⟩⟩
     rw [if_neg rC] at H
     have rI := decide_eq_false rC
     clear rC
     replace H := bZ H; obtain ⟨gR, p8, H⟩ := H
     by_cases lg : gR = []
     ·rw [if_pos lg] at H
      have PT : (gR == []) = true := beq_iff_eq.mpr lg
      have Xt : (gR != []) = false := bne_eq_false_iff_eq.mpr lg
      clear lg
      have H' := Aside0.mk H
      clear H
      obtain ⟨kp, kg, Hb⟩ := Kd.da cM.out
      subst Hb
      go_wp2_with (first | ((with_reducible refine gC 129 rfl ?_); refine gL 39 Tryz.func129 #[.slice kp cd.length kg] ?_; (with_reducible refine (aY.Hc k2 (fun k_ => ((iL k_ ∨ w.heap.size ≤ k_) ∧ (some k_ ≠ (u3 : Value).ownBlock ∧ (some k_ ≠ (.slice (some jc) eJ.length tm : Value).ownBlock ∧ k_ ≠ eY)))) _ _ cd gR _ ?aT p8.out).mono ?_); (case aT => exact Kd.PU (cM.out)); rintro e w25 ⟨v352, rfl, wh, cC, hb⟩; refine ⟨_, rfl, ?_⟩; have NT_ := Aside0.mk (tH wh cC); clear wh; replace cW := am (Kd.jI (gP cW.out) (Kd.bf cC) hb); replace cM := am (Kd.cw (dX cM.out) (Kd.bf cC) hb); replace fa := am (Kd.cw (dX fa.out) (Kd.bf cC) hb); replace cF := am (Kd.cY (c_ cF.out) (Kd.bf cC) hb); have iY := am (Kd.cO (Kd.jQ (M := fun k_ => (w.heap.size ≤ k_)) (Kd.bD (ok' := fun k_ => True) cC (fun _ gH => trivial)) (aC (mb HB.out)) (fun k_ h_ => h_)) (aC (mb HB.out))); replace dO := kS dO hb; replace HB := bS HB hb; (try clear hb cC)) | ((with_reducible refine ah (N := 9) rfl ?_); refine bE 9 #[.slice none 0 0] 40 ?_; intro dK hg w26 bO hb; replace cW := am (Kd.dm (Kd.tn (gP cW.out) dK (Nat.le_of_eq hg.symm)) hb); replace cM := am (Kd.eN (Kd.nL (dX cM.out) dK (Nat.le_of_eq hg.symm)) hb); replace fa := am (Kd.eN (Kd.nL (dX fa.out) dK (Nat.le_of_eq hg.symm)) hb); replace cF := am (Kd.cn (Kd.lx (c_ cF.out) dK (Nat.le_of_eq hg.symm)) hb); replace iY := am (Kd.b6 (ci iY.out) hb); have iZ := am (bO); have Ef := gW HB hg; have Xu := Ef; replace HB := bS HB hb; have k6 := am ((by rw [hg]; exact Nat.ne_of_lt (d_ (g := eY) (o := .cells #[.int .i64 eI, .slice ae aG.length a8] 77 (0, 0)) (ct dO.out)) : eY ≠ dK)); have ox := am ((by rw [hg]; exact Nat.ne_of_gt (d_ (g := eY) (o := .cells #[.int .i64 eI, .slice ae aG.length a8] 77 (0, 0)) (ct dO.out)) : dK ≠ eY)); replace dO := kS dO hb; clear hb bO hg; obtain ⟨oy, o9, aaL⟩ := Kd.cH iY.out; subst aaL; obtain ⟨ag7, ag8⟩ := NT_.out _ _ _ rfl; have ag9 := ox.out; have ag_ := k6.out; have UA := cG iZ.out; have UB := aH iZ.out 0))
      go_roundg k2
      case measure => have := dP.out; have := ft.out; omega
      case rel => exact ⟨(bg), (wrap64 (eu + 1)), dM, H', ⟨by have := dP.out; have := ft.out; omega⟩, ⟨by (with_reducible repeat (first | apply Kd.iS | apply Kd.iT | apply Kd.gw)); exact Kd.cJ (Kd.jJ (p := ⟨dK, 0, none⟩) (Kd.cJ cW.out (fun k_ hk => (⟨hk, hk.2⟩ : _ ∧ k_ ≠ dK))) (fun _ hk => hk.2) (.slice oy gR.length o9)) (fun _ hk => ⟨hk.1.1.1.1, hk.1.1.1.2⟩)⟩, ⟨by (with_reducible repeat (first | apply Kd.gJ | apply Kd.gK | apply Kd.iy)); exact Kd.bK (Kd.mW (p := ⟨dK, 0, none⟩) (Kd.bK fa.out (fun k_ hk => (⟨hk, hk.2⟩ : _ ∧ k_ ≠ dK))) (fun _ hk => hk.2) (.slice oy gR.length o9)) (fun _ hk => ⟨hk.1.1.1.1, ⟨hk.1.1.1.2.1, hk.1.1.1.2.2.2⟩⟩)⟩, ⟨by (with_reducible repeat (first | apply Kd.iz | apply Kd.jA | apply Kd.ee)); exact Kd.af (Kd.oD (p := ⟨dK, 0, none⟩) (Kd.af cF.out (fun k_ hk => (⟨hk, hk.2⟩ : _ ∧ k_ ≠ dK))) (fun _ hk => hk.2) (.slice oy gR.length o9)) (fun _ hk => ⟨hk.1.1.1.1, ⟨hk.1.1.1.2.1, ⟨hk.1.1.1.2.2.2.1, hk.1.1.1.2.2.2.2⟩⟩⟩)⟩, ⟨by (with_reducible repeat (first | refine ba ?_ _ | refine az ?_ | refine b_ ?_ _)); refine gi ?_ k6.out _; exact ct dO.out⟩, ⟨mb HB.out⟩⟩
     rw [if_neg lg] at H
     have PT : (gR == []) = false := beq_eq_false_iff_ne.mpr lg
     have Xt : (gR != []) = true := bne_iff_ne.mpr lg
     replace H := bZ H; obtain ⟨aax, A30, H⟩ := H
     by_cases Ov : aax = true
     ·subst Ov
      replace H := sY H
      have H' := Aside0.mk H
      clear H
      obtain ⟨pt, kr, aaM⟩ := Kd.da cM.out
      subst aaM
      go_wp2_with (first | ((with_reducible refine gC 129 rfl ?_); refine gL 39 Tryz.func129 #[.slice pt cd.length kr] ?_; (with_reducible refine (aY.Hc k2 (fun k_ => ((iL k_ ∨ w.heap.size ≤ k_) ∧ (some k_ ≠ (u3 : Value).ownBlock ∧ (some k_ ≠ (.slice (some jc) eJ.length tm : Value).ownBlock ∧ k_ ≠ eY)))) _ _ cd gR _ ?aT p8.out).mono ?_); (case aT => exact Kd.PU (cM.out)); rintro e w33 ⟨v352, rfl, wh, cC, hb⟩; refine ⟨_, rfl, ?_⟩; have NT_ := Aside0.mk (tH wh cC); clear wh; replace cW := am (Kd.jI (gP cW.out) (Kd.bf cC) hb); replace cM := am (Kd.cw (dX cM.out) (Kd.bf cC) hb); replace fa := am (Kd.cw (dX fa.out) (Kd.bf cC) hb); replace cF := am (Kd.cY (c_ cF.out) (Kd.bf cC) hb); have iY := am (Kd.cO (Kd.jQ (M := fun k_ => (w.heap.size ≤ k_)) (Kd.bD (ok' := fun k_ => True) cC (fun _ gH => trivial)) (aC (mb HB.out)) (fun k_ h_ => h_)) (aC (mb HB.out))); replace dO := kS dO hb; replace HB := bS HB hb; (try clear hb cC)) | ((with_reducible refine ah (N := 9) rfl ?_); refine bE 9 #[.slice none 0 0] 40 ?_; intro dK hg w34 bO hb; replace cW := am (Kd.dm (Kd.tn (gP cW.out) dK (Nat.le_of_eq hg.symm)) hb); replace cM := am (Kd.eN (Kd.nL (dX cM.out) dK (Nat.le_of_eq hg.symm)) hb); replace fa := am (Kd.eN (Kd.nL (dX fa.out) dK (Nat.le_of_eq hg.symm)) hb); replace cF := am (Kd.cn (Kd.lx (c_ cF.out) dK (Nat.le_of_eq hg.symm)) hb); replace iY := am (Kd.b6 (ci iY.out) hb); have iZ := am (bO); have Ef := gW HB hg; have Xu := Ef; replace HB := bS HB hb; have k6 := am ((by rw [hg]; exact Nat.ne_of_lt (d_ (g := eY) (o := .cells #[.int .i64 eI, .slice ae aG.length a8] 77 (0, 0)) (ct dO.out)) : eY ≠ dK)); have ox := am ((by rw [hg]; exact Nat.ne_of_gt (d_ (g := eY) (o := .cells #[.int .i64 eI, .slice ae aG.length a8] 77 (0, 0)) (ct dO.out)) : dK ≠ eY)); replace dO := kS dO hb; clear hb bO hg; obtain ⟨xW, vq, aaN⟩ := Kd.cH iY.out; subst aaN; obtain ⟨ag7, ag8⟩ := NT_.out _ _ _ rfl; have ahb := ox.out; have ahc := k6.out; have anV := cG iZ.out; have anW := aH iZ.out 0; have UC := cG dO.out; have anX := cR dO.out; have UD := aH dO.out 0; have anY := aH dO.out 1) | (go_at_call 130; (with_reducible refine (dv.calls k2 _ _ aG dK xW vq gR true _ ?aT ?aU ?ao ?ar ?gy A30.out).mono ?_); (case aT => refine (Kd.bN (e := 113) (base := w.heap.size) (ok := fun k_ => ((((iL k_ ∨ w.heap.size ≤ k_) ∧ (some k_ ≠ (u3 : Value).ownBlock ∧ (some k_ ≠ (.slice pt cd.length kr : Value).ownBlock ∧ (some k_ ≠ (.slice (some jc) eJ.length tm : Value).ownBlock ∧ k_ ≠ eY)))) ∧ some k_ ≠ (.slice xW gR.length vq : Value).ownBlock) ∧ k_ ≠ dK)) (n := aG.length) (c := a8) ?_).2.2; exact (by (with_reducible repeat (first | apply Kd.iz | apply Kd.jA | apply Kd.ee)); exact (Kd.af (Kd.oD (p := ⟨dK, 0, none⟩) (Kd.af cF.out (fun k_ hk => (⟨hk, hk.2⟩ : _ ∧ k_ ≠ dK))) (fun _ hk => hk.2) (.slice xW gR.length vq)) (fun _ h_ => h_.1)))); (case aU => exact (Kd.bN cF.out).2.1); (case ao => exact (aQ (g := dK) (cs := #[.slice xW gR.length vq]) (t := 40) (by (with_reducible repeat (first | refine ba ?_ _ | refine az ?_ | refine b_ ?_ _)); refine dS (cs := #[.slice none 0 0]) ?_ 0 _ rfl; exact ct iZ.out) 0).trans rfl); (case ar => refine (Kd.aq (e := 3) (base := w.heap.size) (ok := fun k_ => ((w.heap.size ≤ k_) ∧ True)) (n := gR.length) (c := vq) ?_).2.2; exact (by (with_reducible repeat (first | apply Kd.ff | apply Kd.fg | apply Kd.gu)); exact (Kd.bD (Kd.kI (p := ⟨dK, 0, none⟩) (Kd.dL iY.out iZ.out (by decide)) (fun _ hk => hk.2) (.slice xW gR.length vq)) (fun _ h_ => h_.1)))); (case gy => exact (Kd.aq iY.out).2.1); rintro e w39 ⟨rfl, hb⟩; replace cW := am (Kd.dm (by (with_reducible repeat (first | apply Kd.iS | apply Kd.iT | apply Kd.gw)); exact (Kd.cJ (Kd.jJ (p := ⟨dK, 0, none⟩) (Kd.cJ cW.out (fun k_ hk => (⟨hk, hk.2⟩ : _ ∧ k_ ≠ dK))) (fun _ hk => hk.2) (.slice xW gR.length vq)) (fun _ h_ => h_.1))) hb); replace cM := am (Kd.eN (by (with_reducible repeat (first | apply Kd.gJ | apply Kd.gK | apply Kd.iy)); exact (Kd.bK (Kd.mW (p := ⟨dK, 0, none⟩) (Kd.bK cM.out (fun k_ hk => (⟨hk, hk.2⟩ : _ ∧ k_ ≠ dK))) (fun _ hk => hk.2) (.slice xW gR.length vq)) (fun _ h_ => h_.1))) hb); replace fa := am (Kd.eN (by (with_reducible repeat (first | apply Kd.gJ | apply Kd.gK | apply Kd.iy)); exact (Kd.bK (Kd.mW (p := ⟨dK, 0, none⟩) (Kd.bK fa.out (fun k_ hk => (⟨hk, hk.2⟩ : _ ∧ k_ ≠ dK))) (fun _ hk => hk.2) (.slice xW gR.length vq)) (fun _ h_ => h_.1))) hb); replace cF := am (Kd.cn (by (with_reducible repeat (first | apply Kd.iz | apply Kd.jA | apply Kd.ee)); exact (Kd.af (Kd.oD (p := ⟨dK, 0, none⟩) (Kd.af cF.out (fun k_ hk => (⟨hk, hk.2⟩ : _ ∧ k_ ≠ dK))) (fun _ hk => hk.2) (.slice xW gR.length vq)) (fun _ h_ => h_.1))) hb); replace iY := am (Kd.b6 (by (with_reducible repeat (first | apply Kd.ff | apply Kd.fg | apply Kd.gu)); exact (Kd.bD (Kd.kI (p := ⟨dK, 0, none⟩) (Kd.dL iY.out iZ.out (by decide)) (fun _ hk => hk.2) (.slice xW gR.length vq)) (fun _ h_ => h_.1))) hb); replace dO := am (bR (g := eY) (o := .cells #[.int .i64 eI, .slice ae aG.length a8] 77 (0, 0)) (by (with_reducible repeat (first | refine ba ?_ _ | refine az ?_ | refine b_ ?_ _)); refine gi ?_ k6.out _; exact ct dO.out) hb); replace iZ := am (bR (g := dK) (o := .cells #[.slice xW gR.length vq] 40 (0, 0)) (by (with_reducible repeat (first | refine ba ?_ _ | refine az ?_ | refine b_ ?_ _)); refine dS (cs := #[.slice none 0 0]) ?_ 0 _ rfl; exact ct iZ.out) hb); replace HB := bS HB hb; (try clear hb)))
      go_roundg k2
      case measure => have := dP.out; have := ft.out; omega
      case rel => exact ⟨(bg), (wrap64 (eu + 1)), dM, H', ⟨by have := dP.out; have := ft.out; omega⟩, ⟨Kd.cJ (gP cW.out) (fun _ hk => ⟨hk.1.1.1, hk.1.1.2⟩)⟩, ⟨Kd.bK (dX fa.out) (fun _ hk => ⟨hk.1.1.1, ⟨hk.1.1.2.1, hk.1.1.2.2.2⟩⟩)⟩, ⟨Kd.af (c_ cF.out) (fun _ hk => ⟨hk.1.1.1, ⟨hk.1.1.2.1, ⟨hk.1.1.2.2.2.1, hk.1.1.2.2.2.2⟩⟩⟩)⟩, ⟨ct dO.out⟩, ⟨mb HB.out⟩⟩
     replace Ov := Bool.eq_false_iff.mpr Ov
     subst Ov
     replace H := sZ H
     replace H := bZ H; obtain ⟨Ap, A40, H⟩ := H
     replace H := np H; obtain ⟨ahd, H⟩ := H
     replace H := br (bg ++ [Ap]) (fun aaO => (aM.l0 k2 aaO eJ (eJ.length : Int) (wrap64 (eu + 1)) eI aG) = some r) H; obtain ⟨aaO, ahe, H⟩ := H
     have H' := Aside0.mk H
     clear H
     obtain ⟨Eg, kt, C_⟩ := Kd.da cM.out
     subst C_
     go_wp2_with (first | ((with_reducible refine gC 129 rfl ?_); refine gL 39 Tryz.func129 #[.slice Eg cd.length kt] ?_; (with_reducible refine (aY.Hc k2 (fun k_ => ((iL k_ ∨ w.heap.size ≤ k_) ∧ (some k_ ≠ (u3 : Value).ownBlock ∧ (some k_ ≠ (.slice (some jc) eJ.length tm : Value).ownBlock ∧ k_ ≠ eY)))) _ _ cd gR _ ?aT p8.out).mono ?_); (case aT => exact Kd.PU (cM.out)); rintro e w43 ⟨v352, rfl, wh, cC, hb⟩; refine ⟨_, rfl, ?_⟩; have NT_ := Aside0.mk (tH wh cC); clear wh; replace cW := am (Kd.jI (gP cW.out) (Kd.bf cC) hb); replace cM := am (Kd.cw (dX cM.out) (Kd.bf cC) hb); replace fa := am (Kd.cw (dX fa.out) (Kd.bf cC) hb); replace cF := am (Kd.cY (c_ cF.out) (Kd.bf cC) hb); have iY := am (Kd.cO (Kd.jQ (M := fun k_ => (w.heap.size ≤ k_)) (Kd.bD (ok' := fun k_ => True) cC (fun _ gH => trivial)) (aC (mb HB.out)) (fun k_ h_ => h_)) (aC (mb HB.out))); replace dO := kS dO hb; replace HB := bS HB hb; (try clear hb cC)) | ((with_reducible refine ah (N := 9) rfl ?_); refine bE 9 #[.slice none 0 0] 40 ?_; intro dK hg w44 bO hb; replace cW := am (Kd.dm (Kd.tn (gP cW.out) dK (Nat.le_of_eq hg.symm)) hb); replace cM := am (Kd.eN (Kd.nL (dX cM.out) dK (Nat.le_of_eq hg.symm)) hb); replace fa := am (Kd.eN (Kd.nL (dX fa.out) dK (Nat.le_of_eq hg.symm)) hb); replace cF := am (Kd.cn (Kd.lx (c_ cF.out) dK (Nat.le_of_eq hg.symm)) hb); replace iY := am (Kd.b6 (ci iY.out) hb); have iZ := am (bO); have Ef := gW HB hg; have Xu := Ef; replace HB := bS HB hb; have k6 := am ((by rw [hg]; exact Nat.ne_of_lt (d_ (g := eY) (o := .cells #[.int .i64 eI, .slice ae aG.length a8] 77 (0, 0)) (ct dO.out)) : eY ≠ dK)); have ox := am ((by rw [hg]; exact Nat.ne_of_gt (d_ (g := eY) (o := .cells #[.int .i64 eI, .slice ae aG.length a8] 77 (0, 0)) (ct dO.out)) : dK ≠ eY)); replace dO := kS dO hb; clear hb bO hg; obtain ⟨nM, jB, Hd⟩ := Kd.cH iY.out; subst Hd; obtain ⟨ag7, ag8⟩ := NT_.out _ _ _ rfl; have ahf := ox.out; have ahg := k6.out; have UE := cG iZ.out; have UF := aH iZ.out 0; have yA := cG dO.out; have yB := cR dO.out; have yC := aH dO.out 0; have yD := aH dO.out 1) | (go_at_call 130; (with_reducible refine (dv.calls k2 _ _ aG dK nM jB gR false _ ?aT ?aU ?ao ?ar ?gy A30.out).mono ?_); (case aT => refine (Kd.bN (e := 113) (base := w.heap.size) (ok := fun k_ => ((((iL k_ ∨ w.heap.size ≤ k_) ∧ (some k_ ≠ (u3 : Value).ownBlock ∧ (some k_ ≠ (.slice Eg cd.length kt : Value).ownBlock ∧ (some k_ ≠ (.slice (some jc) eJ.length tm : Value).ownBlock ∧ k_ ≠ eY)))) ∧ some k_ ≠ (.slice nM gR.length jB : Value).ownBlock) ∧ k_ ≠ dK)) (n := aG.length) (c := a8) ?_).2.2; exact (by (with_reducible repeat (first | apply Kd.iz | apply Kd.jA | apply Kd.ee)); exact (Kd.af (Kd.oD (p := ⟨dK, 0, none⟩) (Kd.af cF.out (fun k_ hk => (⟨hk, hk.2⟩ : _ ∧ k_ ≠ dK))) (fun _ hk => hk.2) (.slice nM gR.length jB)) (fun _ h_ => h_.1)))); (case aU => exact (Kd.bN cF.out).2.1); (case ao => exact (aQ (g := dK) (cs := #[.slice nM gR.length jB]) (t := 40) (by (with_reducible repeat (first | refine ba ?_ _ | refine az ?_ | refine b_ ?_ _)); refine dS (cs := #[.slice none 0 0]) ?_ 0 _ rfl; exact ct iZ.out) 0).trans rfl); (case ar => refine (Kd.aq (e := 3) (base := w.heap.size) (ok := fun k_ => ((w.heap.size ≤ k_) ∧ True)) (n := gR.length) (c := jB) ?_).2.2; exact (by (with_reducible repeat (first | apply Kd.ff | apply Kd.fg | apply Kd.gu)); exact (Kd.bD (Kd.kI (p := ⟨dK, 0, none⟩) (Kd.dL iY.out iZ.out (by decide)) (fun _ hk => hk.2) (.slice nM gR.length jB)) (fun _ h_ => h_.1)))); (case gy => exact (Kd.aq iY.out).2.1); rintro e w49 ⟨rfl, hb⟩; replace cW := am (Kd.dm (by (with_reducible repeat (first | apply Kd.iS | apply Kd.iT | apply Kd.gw)); exact (Kd.cJ (Kd.jJ (p := ⟨dK, 0, none⟩) (Kd.cJ cW.out (fun k_ hk => (⟨hk, hk.2⟩ : _ ∧ k_ ≠ dK))) (fun _ hk => hk.2) (.slice nM gR.length jB)) (fun _ h_ => h_.1))) hb); replace cM := am (Kd.eN (by (with_reducible repeat (first | apply Kd.gJ | apply Kd.gK | apply Kd.iy)); exact (Kd.bK (Kd.mW (p := ⟨dK, 0, none⟩) (Kd.bK cM.out (fun k_ hk => (⟨hk, hk.2⟩ : _ ∧ k_ ≠ dK))) (fun _ hk => hk.2) (.slice nM gR.length jB)) (fun _ h_ => h_.1))) hb); replace fa := am (Kd.eN (by (with_reducible repeat (first | apply Kd.gJ | apply Kd.gK | apply Kd.iy)); exact (Kd.bK (Kd.mW (p := ⟨dK, 0, none⟩) (Kd.bK fa.out (fun k_ hk => (⟨hk, hk.2⟩ : _ ∧ k_ ≠ dK))) (fun _ hk => hk.2) (.slice nM gR.length jB)) (fun _ h_ => h_.1))) hb); replace cF := am (Kd.cn (by (with_reducible repeat (first | apply Kd.iz | apply Kd.jA | apply Kd.ee)); exact (Kd.af (Kd.oD (p := ⟨dK, 0, none⟩) (Kd.af cF.out (fun k_ hk => (⟨hk, hk.2⟩ : _ ∧ k_ ≠ dK))) (fun _ hk => hk.2) (.slice nM gR.length jB)) (fun _ h_ => h_.1))) hb); replace iY := am (Kd.b6 (by (with_reducible repeat (first | apply Kd.ff | apply Kd.fg | apply Kd.gu)); exact (Kd.bD (Kd.kI (p := ⟨dK, 0, none⟩) (Kd.dL iY.out iZ.out (by decide)) (fun _ hk => hk.2) (.slice nM gR.length jB)) (fun _ h_ => h_.1))) hb); replace dO := am (bR (g := eY) (o := .cells #[.int .i64 eI, .slice ae aG.length a8] 77 (0, 0)) (by (with_reducible repeat (first | refine ba ?_ _ | refine az ?_ | refine b_ ?_ _)); refine gi ?_ k6.out _; exact ct dO.out) hb); replace iZ := am (bR (g := dK) (o := .cells #[.slice nM gR.length jB] 40 (0, 0)) (by (with_reducible repeat (first | refine ba ?_ _ | refine az ?_ | refine b_ ?_ _)); refine dS (cs := #[.slice none 0 0]) ?_ 0 _ rfl; exact ct iZ.out) hb); replace HB := bS HB hb; (try clear hb); have anZ := cG iZ.out; have an0 := aH iZ.out 0) | ((with_reducible refine gC 133 rfl ?_); refine gL 51 Tryz.func133 #[.slice nM gR.length jB] ?_; (with_reducible refine (bF.calls k2 _ _ gR Ap _ ?aT ?aU A40.out).mono ?_); (case aT => exact fy (Kd.aq iY.out).2.2); (case aU => exact (Kd.aq iY.out).2.1); rintro e w51 ⟨v357, rfl, cC, hb⟩; refine ⟨_, rfl, ?_⟩; replace cW := am (Kd.jI (gP cW.out) (Kd.bf cC) hb); replace cM := am (Kd.cw (dX cM.out) (Kd.bf cC) hb); replace fa := am (Kd.cw (dX fa.out) (Kd.bf cC) hb); replace cF := am (Kd.cY (c_ cF.out) (Kd.bf cC) hb); have KQ := am (Kd.cO (Kd.kT (Kd.jQ (M := fun k_ => (w.heap.size ≤ k_)) cC (aC (mb HB.out)) (fun k_ h_ => h_)) (Kd.iH (ci iY.out))) (aC (mb HB.out))); replace iY := am (Kd.gV (ci iY.out) (Kd.bf cC) hb); replace dO := kS dO hb; replace iZ := kS iZ hb; replace HB := bS HB hb; (try clear hb cC); obtain ⟨PV, PW, apR⟩ := Kd.cH KQ.out; subst apR) | ((with_reducible refine bC (b := .append) (xs := #[.tmp 49, .tmp 52]) rfl ?_); at_builtin; refine Kd.tp (Kd.slice 3 (Kd.int .i64)) (w0 := w) w.heap.size rfl (.tmp 49) (.tmp 52) 22 40 (.slice none 0 0) 24 rfl Tryz.underlying22 gM rfl (by decide) (by omega) u3 bg Ap [.slice PV Ap.length PW] (fun k_ => (w.heap.size ≤ k_) ∧ some k_ ≠ (.slice (some jc) eJ.length tm : Value).ownBlock ∧ some k_ ≠ (.slice nM gR.length jB : Value).ownBlock ∧ k_ ≠ dK) (fun k_ => some k_ = (.slice PV Ap.length PW : Value).ownBlock) rfl rfl ?aP (fun k_ gH => ((Kd.bD (ok' := fun k_ => ((fun k_ => (w.heap.size ≤ k_) ∧ some k_ ≠ (.slice (some jc) eJ.length tm : Value).ownBlock ∧ some k_ ≠ (.slice nM gR.length jB : Value).ownBlock ∧ k_ ≠ dK)) k_ ∧ some k_ ≠ (u3 : Value).ownBlock) (Kd.dL (Kd.cX (Kd.cX (KQ.out) (Kd.dy fa.out) (by decide)) (Kd.jq cW.out) (by decide)) iZ.out (by decide)) (fun k_ hk => ⟨⟨hk.1.1.1.1.1, ⟨hk.1.1.2, ⟨hk.1.1.1.2, hk.2⟩⟩⟩, hk.1.2⟩))).1 k_ gH.symm) ?aF ?aO ?aB ?aS ?aL ?_; (case aP => exact Kd.BT (Kd.bD (Kd.jr rfl (Kd.bD (ok' := fun k_ => ((fun k_ => (w.heap.size ≤ k_) ∧ some k_ ≠ (.slice (some jc) eJ.length tm : Value).ownBlock ∧ some k_ ≠ (.slice nM gR.length jB : Value).ownBlock ∧ k_ ≠ dK)) k_ ∧ some k_ ≠ (u3 : Value).ownBlock) (Kd.dL (Kd.cX (Kd.cX (KQ.out) (Kd.dy fa.out) (by decide)) (Kd.jq cW.out) (by decide)) iZ.out (by decide)) (fun k_ hk => ⟨⟨hk.1.1.1.1.1, ⟨hk.1.1.2, ⟨hk.1.1.1.2, hk.2⟩⟩⟩, hk.1.2⟩))) (fun _ h_ => h_))); (case aB => exact (mb HB.out)); (case aF => exact (fun k_ hk => ⟨(Nat.le_trans (aC (mb HB.out)) hk), Kd.dz (Kd.rH (dX fa.out)) k_ hk, Kd.dz (Kd.iH (ci iY.out)) k_ hk, Kd.du (g := dK) (o := .cells #[.slice nM gR.length jB] 40 (0, 0)) (ct iZ.out) k_ hk⟩)); (case aO => exact (Kd.cJ (gP cW.out) (fun k_ hk => ⟨⟨hk.1.1.1.1, ⟨hk.1.1.1.2, ⟨hk.1.1.2, hk.1.2⟩⟩⟩, fun e_ => hk.2 e_⟩))); (case aS => exact (aC (mb HB.out))); (case aL => have := ahd.out; omega); intro v360 w52 ho hb hg bk; rw [← ahe.out] at ho; replace cM := am (Kd.dJ (ok := (fun k_ => (iL k_ ∨ w.heap.size ≤ k_) ∧ some k_ ≠ (.slice (some jc) eJ.length tm : Value).ownBlock ∧ some k_ ≠ (.slice nM gR.length jB : Value).ownBlock ∧ some k_ ≠ (.slice PV Ap.length PW : Value).ownBlock ∧ k_ ≠ eY ∧ k_ ≠ dK)) (Kd.bK (dX cM.out) (fun _ hk => ⟨⟨hk.1.1.1.1, ⟨hk.1.1.1.2.2.1, ⟨hk.1.1.2, ⟨hk.2, ⟨hk.1.1.1.2.2.2, hk.1.2⟩⟩⟩⟩⟩, hk.1.1.1.2.1⟩)) hg bk); replace fa := am (Kd.dJ (ok := (fun k_ => (iL k_ ∨ w.heap.size ≤ k_) ∧ some k_ ≠ (.slice Eg cd.length kt : Value).ownBlock ∧ some k_ ≠ (.slice nM gR.length jB : Value).ownBlock ∧ some k_ ≠ (.slice PV Ap.length PW : Value).ownBlock ∧ k_ ≠ eY ∧ k_ ≠ dK)) (Kd.bK (dX fa.out) (fun _ hk => ⟨⟨hk.1.1.1.1, ⟨hk.1.1.1.2.2.1, ⟨hk.1.1.2, ⟨hk.2, ⟨hk.1.1.1.2.2.2, hk.1.2⟩⟩⟩⟩⟩, hk.1.1.1.2.1⟩)) hg bk); replace cF := am (Kd.bH (ok := (fun k_ => (iL k_ ∨ w.heap.size ≤ k_) ∧ some k_ ≠ (.slice Eg cd.length kt : Value).ownBlock ∧ some k_ ≠ (.slice (some jc) eJ.length tm : Value).ownBlock ∧ some k_ ≠ (.slice nM gR.length jB : Value).ownBlock ∧ some k_ ≠ (.slice PV Ap.length PW : Value).ownBlock ∧ k_ ≠ eY ∧ k_ ≠ dK)) (Kd.af (c_ cF.out) (fun _ hk => ⟨⟨hk.1.1.1.1, ⟨hk.1.1.1.2.2.1, ⟨hk.1.1.1.2.2.2.1, ⟨hk.1.1.2, ⟨hk.2, ⟨hk.1.1.1.2.2.2.2, hk.1.2⟩⟩⟩⟩⟩⟩, hk.1.1.1.2.1⟩)) hg bk); replace dO := am (di (ct dO.out) hg (Kd.ahh cW.out dO.out (by decide))); replace iY := am (Kd.ph (ci iY.out) (Kd.jq (gP cW.out)) (by decide) hg); replace iZ := am (di (ct iZ.out) hg (Kd.aaP cW.out (fun _ hk => hk.1.2))); replace HB := am (hb); have ahi := am (ho); clear cW; clear KQ; clear ho hb hg bk))
     go_roundg k2
     case measure => have := dP.out; have := ft.out; omega
     case rel => exact ⟨(aaO), (wrap64 (eu + 1)), dM, H', ⟨by have := dP.out; have := ft.out; omega⟩, ⟨Kd.cJ (gP ahi.out) (fun _ hk => ⟨hk.1, hk.2.1⟩)⟩, ⟨Kd.bK (dX fa.out) (fun _ hk => ⟨hk.1.1, ⟨hk.2, hk.1.2.2.2.2.1⟩⟩)⟩, ⟨Kd.af (c_ cF.out) (fun _ hk => ⟨hk.1.1, ⟨hk.2, ⟨hk.1.2.2.1, hk.1.2.2.2.2.2.1⟩⟩⟩)⟩, ⟨ct dO.out⟩, ⟨mb HB.out⟩⟩
end Go.Proofs.YtggiicplcglalaaGreat.All
end
section
namespace Go.Proofs.YtggiicplcglalaaGreat.All
open Go.RowKit YtggiicplcglalaaGreatW.PrintWords YtggiicplcglalaaGreatW.PrintLast YtggiicplcglalaaGreatW.PrintMore
attribute [local go_sem] max2_int min2_int max_two min_two max_three min_three max_four min_four
set_option linter.unusedVariables false
set_option linter.unusedSimpArgs false
set_option maxHeartbeats 8000000
set_option maxRecDepth 100000
def aV.l0 : Nat → List Int → List Int → List (bm) → Int → Int → Option (List Int)
 | 0, _, _, _, _, _ => none
 | k + 1, x1, x5, iM, jd, oE => if oE < jd then (if 0 ≤ oE then (if oE < (iM.length : Int) then ((b4.f k ((au iM oE).f0) ((au iM oE).f1) ((au iM oE).f2) x1).bind fun PX => (if PX = 0 then (if x5.length < 17592186044416 then (aV.l0 k x1 (x5 ++ [oE]) iM jd (wrap64 (oE + 1))) else (none)) else (aV.l0 k x1 x5 iM jd (wrap64 (oE + 1))))) else (none)) else (none)) else (some x5)
def aV.f (k : Nat) (eI : Int) (aG : List (bm)) (l1 : List Int) : Option (List Int) := aV.l0 k l1 (([] : List Int)) aG (aG.length : Int) 0
theorem aV.bG : ∀ k, (∀ y0 y1 y2 y3 y4, bB (aV.l0 k y0 y1 y2 y3 y4) (aV.l0 (k + 1) y0 y1 y2 y3 y4))
 | 0 => fun _ _ _ _ _ r h => by simp [aV.l0] at h
 | k + 1 => by
  have eQ := aV.bG k
  ·intro y0 y1 y2 y3 y4
   unfold aV.l0
   repeat' first
   | (with_reducible exact eQ ..)
   | (with_reducible exact b4.mono ..)
   | (with_reducible exact bB.refl _)
   | (with_reducible exact bB.none _)
   | (with_reducible refine bB.ite ?_ ?_)
   | (with_reducible refine bB.bind ?_ (fun _ => ?_))
theorem aV.mono : ∀ a0 a1 a2 k, bB (aV.f k a0 a1 a2) (aV.f (k + 1) a0 a1 a2) := by
 intro a0 a1 a2 k
 have eQ := aV.bG k
 unfold aV.f
 repeat' first
   | (with_reducible exact eQ ..)
   | (with_reducible exact b4.mono ..)
   | (with_reducible exact bB.refl _)
   | (with_reducible exact bB.none _)
   | (with_reducible refine bB.ite ?_ ?_)
   | (with_reducible refine bB.bind ?_ (fun _ => ?_))
theorem aV.calls (k : Nat) (eI : Int) (ae : Option Addr) (a8 : Nat) (aG : List (bm)) (A1 : Option Addr) (c1 : Nat) (l1 : List Int) (r : List Int) (w : World) (dH : Kd.C eB w ae aG.length aG) (dI : aG.length ≤ a8) (nn : Kd.C (Kd.int .i64) w A1 l1.length l1) (mN : l1.length ≤ c1) (h : aV.f k eI aG l1 = some r) :
  Calls Tryz.prog 66 #[.agg #[.int .i64 eI, .slice ae aG.length a8], .slice A1 l1.length c1] w fun e w' => ∃ iE : Value, e = .returned (iE) ∧ Kd.R (Kd.int .i64) 3 w' w.heap.size (fun _ => True) iE r ∧ Below w.heap.size w w' := by
 have Tr := Tryz.underlying77
 have KE := Tryz.underlying113
 have bx := Aside0.mk dH
 have cE := Aside0.mk dI
 clear dH dI
 have lz := Aside0.mk nn
 have Ag := Aside0.mk mN
 clear nn mN
 have HB := Aside0.mk (Below.refl w.heap.size w)
 have H : (aV.l0 k l1 (([] : List Int)) aG (aG.length : Int) 0) = some r := h
 clear h
 replace H := br (([] : List Int)) (fun aaQ => (aV.l0 k l1 aaQ aG (aG.length : Int) 0) = some r) H; obtain ⟨aaQ, Xv, H⟩ := H
 have H' := Aside0.mk H
 clear H
 go_enter Tryz.func66, Tryz.ntmps66
 go_wp2_with (first | ((with_reducible refine ah (N := 2) rfl ?_); refine bE 2 #[.int .i64 eI, .slice ae aG.length a8] 77 ?_; intro rK hg w3 bO hb; have jK := am (bO); have ahj := gW HB hg; have atF := ahj; replace HB := bS HB hb; clear hb bO hg) | ((with_reducible refine ah (N := 8) rfl ?_); refine Kd.ov (Kd.int .i64) _ 3 ?hg (N := 8) ?hd (xs := ([] : List Int)) (inner := []) (ok := fun _ => True) (okp := fun _ => True) ?hr ?hp (fun _ hk => hk) trivial (Below.refl _ _) (Nat.le_refl _) (by simp) ?_; (case hd => rfl); (case hg => rfl); (case hr => first | (go_simp; done) | (go_simp; rfl)); (case hp => exact (cV.none _ _)); intro v364 w4 xw hb jn dB; clear jn dB; (first | rw [← Xv.out] at xw | (simp only [Int.reduceToNat] at xw; rw [← Xv.out] at xw)); have ahk := am (Kd.cO xw (aC (mb HB.out))); replace jK := kS jK hb; replace HB := bS HB hb; clear hb xw; have C0 := cG jK.out; have C1 := cR jK.out; have C2 := aH jK.out 0; have C3 := aH jK.out 1))
 go_loopg [5, 12] k (fun kq v5 v12 w' => ∃ (aj : List Int) (dn : Int), v12 = .int .i64 dn ∧ Aside0 (aV.l0 kq l1 aj aG (aG.length : Int) dn = some r) ∧ Aside0 (kq ≤ k) ∧ Aside0 (Kd.R (Kd.int .i64) 3 w' w.heap.size (fun _ => True) v5 aj) ∧ Aside0 (w'.heap[rK]? = some (.cells #[.int .i64 eI, (.slice ae aG.length a8)] 77 (0, 0))) ∧ Aside0 (Below w.heap.size w w'))
 case atStart => exact ⟨(aaQ), (0), dM, H', ⟨Nat.le_refl _⟩, ⟨ci ahk.out⟩, ⟨ct jK.out⟩, ⟨mb HB.out⟩⟩
 case round =>
  clear H'
  obtain ⟨aj, dn, rfl, HA, dP, lN, jK, HB⟩ := hrel
  cases gk with
  | zero => exact absurd HA.out (by simp [aV.l0])
  | succ k1 =>
   have H := HA.out
   clear HA
   simp only [aV.l0] at H
   by_cases c7 : dn < (aG.length : Int)
   rotate_left
   ·rw [if_neg c7] at H
    have lO := decide_eq_false c7
    clear c7
    obtain rfl := Option.some.inj H
    go_wp2
    go_ret
    exact ⟨_, jC, ci lN.out, mb HB.out⟩
   rw [if_pos c7] at H
   have lO := decide_eq_true c7
   clear c7
   replace H := fW H; obtain ⟨oz, H⟩ := H
   replace H := fW H; obtain ⟨tF, H⟩ := H
   replace H := bZ H; obtain ⟨PX, A10, H⟩ := H
   by_cases nN : PX = 0
   rotate_left
   ·rw [if_neg nN] at H
    have nJ := iQ nN
    have Eh := iR nN
    have H' := Aside0.mk H
    clear H
    have He : 0 ≤ (dn : Int) := bX
    have Hf : dn < (aG.length : Int) := bX
    obtain ⟨yx, nO, nP, aaR, pu, pv, pw, tq, tt⟩ := rq bx.out dn He Hf
    cases aaR
    replace pu := (HB.out.cell (World.block_lt_of_cell? w _ pu)).trans pu
    replace pv := (HB.out.cell (World.block_lt_of_cell? w _ pv)).trans pv
    replace pw := (HB.out.cell (World.block_lt_of_cell? w _ pw)).trans pw
    have Ca := Aside0.mk tt
    have Cb := Aside0.mk tq
    clear tt tq
    replace He := eq_true He
    replace Hf := eq_true Hf
    go_wp2_with (first | ((with_reducible refine ah (N := 7) rfl ?_); refine bE 7 #[.slice none 0 0, .int .i64 0, .bool false] 113 ?_; intro pA hg Ow bO hb; replace lN := am (Kd.b6 (ci lN.out) hb); have jz := am (bO); have PY := gW HB hg; have ahl := PY; replace HB := bS HB hb; have js := am ((by rw [hg]; exact Nat.ne_of_lt (d_ (g := rK) (o := .cells #[.int .i64 eI, .slice (some yx) aG.length a8] 77 (0, 0)) (ct jK.out)) : rK ≠ pA)); have vr := am ((by rw [hg]; exact Nat.ne_of_gt (d_ (g := rK) (o := .cells #[.int .i64 eI, .slice (some yx) aG.length a8] 77 (0, 0)) (ct jK.out)) : pA ≠ rK)); replace jK := kS jK hb; clear hb bO hg; have ahm := vr.out; have ahn := js.out; have KK := cG jz.out; have KL := cR jz.out; have an1 := rL jz.out; have KM := aH jz.out 0; have KN := aH jz.out 1; have an2 := aH jz.out 2) | ((with_reducible refine gC 132 rfl ?_); refine gL 19 Tryz.func132 #[.agg #[.slice nO ((au aG dn).f0).length nP, .int .i64 ((au aG dn).f1), .bool ((au aG dn).f2)], .slice A1 l1.length c1] ?_; (with_reducible refine (b4.calls k1 _ _ ((au aG dn).f0) ((au aG dn).f1) ((au aG dn).f2) _ _ l1 PX _ ?aT ?aU ?ao ?ar A10.out).mono ?_); (case aT => exact Kd.bh Ca.out (mb HB.out)); (case aU => exact Cb.out); (case ao => exact Kd.bh lz.out (mb HB.out)); (case ar => exact Ag.out); rintro e Ty ⟨rfl, hb⟩; refine ⟨_, rfl, ?_⟩; replace lN := am (Kd.b6 (by (with_reducible repeat (first | apply Kd.ff | apply Kd.fg | apply Kd.gu)); exact (Kd.bD (Kd.kI (p := ⟨pA, 2, none⟩) (Kd.kI (p := ⟨pA, 1, none⟩) (Kd.kI (p := ⟨pA, 0, none⟩) (Kd.dL lN.out jz.out (by decide)) (fun _ hk => hk.2) (.slice nO ((au aG dn).f0).length nP)) (fun _ hk => hk.2) (.int .i64 ((au aG dn).f1))) (fun _ hk => hk.2) (.bool ((au aG dn).f2))) (fun _ h_ => h_.1))) hb); replace jK := am (bR (g := rK) (o := .cells #[.int .i64 eI, .slice (some yx) aG.length a8] 77 (0, 0)) (by (with_reducible repeat (first | refine ba ?_ _ | refine az ?_ | refine b_ ?_ _)); refine gi ?_ js.out _; (with_reducible repeat (first | refine ba ?_ _ | refine az ?_ | refine b_ ?_ _)); refine gi ?_ js.out _; (with_reducible repeat (first | refine ba ?_ _ | refine az ?_ | refine b_ ?_ _)); refine gi ?_ js.out _; exact ct jK.out) hb); replace jz := am (bR (g := pA) (o := .cells #[.slice nO ((au aG dn).f0).length nP, .int .i64 ((au aG dn).f1), .bool ((au aG dn).f2)] 113 (0, 0)) (by (with_reducible repeat (first | refine ba ?_ _ | refine az ?_ | refine b_ ?_ _)); refine dS (cs := #[.slice nO ((au aG dn).f0).length nP, .int .i64 ((au aG dn).f1), .bool false]) ?_ 2 _ rfl; (with_reducible repeat (first | refine ba ?_ _ | refine az ?_ | refine b_ ?_ _)); refine dS (cs := #[.slice nO ((au aG dn).f0).length nP, .int .i64 0, .bool false]) ?_ 1 _ rfl; (with_reducible repeat (first | refine ba ?_ _ | refine az ?_ | refine b_ ?_ _)); refine dS (cs := #[.slice none 0 0, .int .i64 0, .bool false]) ?_ 0 _ rfl; exact ct jz.out) hb); replace HB := bS HB hb; (try clear hb)))
    go_roundg k1
    case measure => have := dP.out; omega
    case rel => exact ⟨(aj), (wrap64 (dn + 1)), dM, H', ⟨by have := dP.out; omega⟩, ⟨ci lN.out⟩, ⟨ct jK.out⟩, ⟨mb HB.out⟩⟩
   rw [if_pos nN] at H
   have nJ := il nN
   have Eh := im nN
   clear nN
   replace H := np H; obtain ⟨Ei, H⟩ := H
   replace H := br (aj ++ [dn]) (fun aaS => (aV.l0 k1 l1 aaS aG (aG.length : Int) (wrap64 (dn + 1))) = some r) H; obtain ⟨aaS, aho, H⟩ := H
   have H' := Aside0.mk H
   clear H
   have He : 0 ≤ (dn : Int) := bX
   have Hf : dn < (aG.length : Int) := bX
   obtain ⟨yx, nO, nP, aaR, pu, pv, pw, tq, tt⟩ := rq bx.out dn He Hf
   cases aaR
   replace pu := (HB.out.cell (World.block_lt_of_cell? w _ pu)).trans pu
   replace pv := (HB.out.cell (World.block_lt_of_cell? w _ pv)).trans pv
   replace pw := (HB.out.cell (World.block_lt_of_cell? w _ pw)).trans pw
   have Ca := Aside0.mk tt
   have Cb := Aside0.mk tq
   clear tt tq
   replace He := eq_true He
   replace Hf := eq_true Hf
   go_wp2_with (first | ((with_reducible refine ah (N := 7) rfl ?_); refine bE 7 #[.slice none 0 0, .int .i64 0, .bool false] 113 ?_; intro pA hg E2 bO hb; replace lN := am (Kd.b6 (ci lN.out) hb); have jz := am (bO); have PY := gW HB hg; have ahl := PY; replace HB := bS HB hb; have js := am ((by rw [hg]; exact Nat.ne_of_lt (d_ (g := rK) (o := .cells #[.int .i64 eI, .slice (some yx) aG.length a8] 77 (0, 0)) (ct jK.out)) : rK ≠ pA)); have vr := am ((by rw [hg]; exact Nat.ne_of_gt (d_ (g := rK) (o := .cells #[.int .i64 eI, .slice (some yx) aG.length a8] 77 (0, 0)) (ct jK.out)) : pA ≠ rK)); replace jK := kS jK hb; clear hb bO hg; have ahp := vr.out; have ahq := js.out; have UG := cG jz.out; have UH := cR jz.out; have an3 := rL jz.out; have UI := aH jz.out 0; have UJ := aH jz.out 1; have an4 := aH jz.out 2) | ((with_reducible refine gC 132 rfl ?_); refine gL 19 Tryz.func132 #[.agg #[.slice nO ((au aG dn).f0).length nP, .int .i64 ((au aG dn).f1), .bool ((au aG dn).f2)], .slice A1 l1.length c1] ?_; (with_reducible refine (b4.calls k1 _ _ ((au aG dn).f0) ((au aG dn).f1) ((au aG dn).f2) _ _ l1 PX _ ?aT ?aU ?ao ?ar A10.out).mono ?_); (case aT => exact Kd.bh Ca.out (mb HB.out)); (case aU => exact Cb.out); (case ao => exact Kd.bh lz.out (mb HB.out)); (case ar => exact Ag.out); rintro e NO ⟨rfl, hb⟩; refine ⟨_, rfl, ?_⟩; replace lN := am (Kd.b6 (by (with_reducible repeat (first | apply Kd.ff | apply Kd.fg | apply Kd.gu)); exact (Kd.bD (Kd.kI (p := ⟨pA, 2, none⟩) (Kd.kI (p := ⟨pA, 1, none⟩) (Kd.kI (p := ⟨pA, 0, none⟩) (Kd.dL lN.out jz.out (by decide)) (fun _ hk => hk.2) (.slice nO ((au aG dn).f0).length nP)) (fun _ hk => hk.2) (.int .i64 ((au aG dn).f1))) (fun _ hk => hk.2) (.bool ((au aG dn).f2))) (fun _ h_ => h_.1))) hb); replace jK := am (bR (g := rK) (o := .cells #[.int .i64 eI, .slice (some yx) aG.length a8] 77 (0, 0)) (by (with_reducible repeat (first | refine ba ?_ _ | refine az ?_ | refine b_ ?_ _)); refine gi ?_ js.out _; (with_reducible repeat (first | refine ba ?_ _ | refine az ?_ | refine b_ ?_ _)); refine gi ?_ js.out _; (with_reducible repeat (first | refine ba ?_ _ | refine az ?_ | refine b_ ?_ _)); refine gi ?_ js.out _; exact ct jK.out) hb); replace jz := am (bR (g := pA) (o := .cells #[.slice nO ((au aG dn).f0).length nP, .int .i64 ((au aG dn).f1), .bool ((au aG dn).f2)] 113 (0, 0)) (by (with_reducible repeat (first | refine ba ?_ _ | refine az ?_ | refine b_ ?_ _)); refine dS (cs := #[.slice nO ((au aG dn).f0).length nP, .int .i64 ((au aG dn).f1), .bool false]) ?_ 2 _ rfl; (with_reducible repeat (first | refine ba ?_ _ | refine az ?_ | refine b_ ?_ _)); refine dS (cs := #[.slice nO ((au aG dn).f0).length nP, .int .i64 0, .bool false]) ?_ 1 _ rfl; (with_reducible repeat (first | refine ba ?_ _ | refine az ?_ | refine b_ ?_ _)); refine dS (cs := #[.slice none 0 0, .int .i64 0, .bool false]) ?_ 0 _ rfl; exact ct jz.out) hb); replace HB := bS HB hb; (try clear hb)) | ((with_reducible refine bC (b := .append) (xs := #[.tmp 21, .tmp 23]) rfl ?_); at_builtin; refine Kd.fV (Kd.int .i64) (w0 := w) w.heap.size rfl (.tmp 21) (.tmp 23) 40 3 (.int .i64 0) 8 rfl Tryz.underlying40 eT rfl (by decide) (by omega) u5 aj dn [.int .i64 dn] (fun _ => True) (fun _ => False) rfl rfl ?aP (fun _ hk => hk.elim) ?aF ?aO ?aB ?aS ?aL ?_; (case aP => exact rfl); (case aB => exact (mb HB.out)); (case aF => exact (fun _ _ => trivial)); (case aO => exact (ci lN.out)); (case aS => exact (aC (mb HB.out))); (case aL => have := Ei.out; omega); intro v370 T6 ho hb hg bk; rw [← aho.out] at ho; replace jK := am (di (ct jK.out) hg (Kd.sW lN.out jK.out (by decide))); replace jz := am (di (ct jz.out) hg (Kd.sW lN.out jz.out (by decide))); replace HB := am (hb); have ahr := am (ho); clear lN; clear ho hb hg bk))
   go_roundg k1
   case measure => have := dP.out; omega
   case rel => exact ⟨(aaS), (wrap64 (dn + 1)), dM, H', ⟨by have := dP.out; omega⟩, ⟨ci ahr.out⟩, ⟨ct jK.out⟩, ⟨mb HB.out⟩⟩
def px (k : Nat) (n : Int) (l : List bm) (cs : List (List Int)) (j : Nat) : Option (List Int) := aV.f k n l (cs.getD j [])
def bY.f (k : Nat) (n : Int) (l : List bm) : Option Bool := (aM.f k n l).bind fun cs => if ((List.range' 0 cs.length).all fun j => (px k n l cs j).isSome) = true then some (!((List.range' 0 cs.length).any fun j => decide (n < (((px k n l cs j).getD []).length : Int)))) else none
theorem sg (t : List Int → Bool) (F G : Nat → Option (List Int)) : ∀ L : List Nat, (∀ j ∈ L, (F j).isSome = true → G j = F j) → (L.all fun j => (F j).isSome) = true → (L.all fun j => (G j).isSome) = true ∧ (L.any fun j => t ((G j).getD [])) = (L.any fun j => t ((F j).getD []))
 | [], _, _ => ⟨rfl, rfl⟩
 | a :: L, h, ha => by
  simp only [List.all_cons, Bool.and_eq_true] at ha ⊢
  have e := h a (by simp) ha.1
  have ih := sg t F G L (fun j hj => h j (by simp [hj])) ha.2
  simp only [List.any_cons, e, ih.2]
  exact ⟨⟨ha.1, ih.1⟩, trivial⟩
theorem bY.mono : ∀ n l k, bB (bY.f k n l) (bY.f (k + 1) n l) := by
 intro n l k r h
 unfold bY.f at h ⊢
 obtain ⟨cs, E0, h⟩ := Option.bind_eq_some_iff.mp h
 rw [aM.mono _ _ k _ E0, Option.bind_some]
 by_cases c : ((List.range' 0 cs.length).all fun j => (px k n l cs j).isSome) = true
 rotate_left
 ·rw [if_neg c] at h
  cases h
 rw [if_pos c] at h
 obtain ⟨a, b⟩ := sg (fun z => decide (n < (z.length : Int))) (px k n l cs) (px (k + 1) n l cs) _ (fun j _ hs => by
  obtain ⟨v, hv⟩ := Option.isSome_iff_exists.mp hs
  rw [hv]
  exact aV.mono _ _ _ k _ hv) c
 rw [if_pos a, b]
 exact h
def rM.T : Bool × List (List Nat × List Nat) := (true, [([], []), ([], []), ([0, 1], [0, 1]), ([2], [2]), ([], []), ([4], [4]), ([3, 5], [3, 5]), ([6, 2, 0, 1, 2, 3, 4, 5, 6], [6])])
def rM.B : List Nat := [0, 0, 3, 7, 0, 16, 63, 127]
theorem rM.tab : fh .any (opsOf Tryz.f156 1) = rM.T := by kernel_rfl
theorem rM.bits : fG rM.T.2 rM.B = true := by kernel_rfl
theorem Cc (k : Nat) (A : Option Addr) (c : Nat) (x : List Int) (G : Nat) (n : Int) (A1 : Option Addr) (c1 : Nat) (l : List bm) (v : List Int) (w W : World) (hb : Below w.heap.size w W) (hG : w.heap[G]? = some (.cells #[.int .i64 n, .slice A1 l.length c1] 77 (0, 0))) (hC : Kd.C eB w A1 l.length l) (hl : l.length ≤ c1) (hx : Kd.C (Kd.int .i64) w A x.length x) (hc : x.length ≤ c) (h : aV.f k n l x = some v) :
  Calls Tryz.prog 156 #[.slice A x.length c, .pointer (some ⟨G, 0, none⟩)] W fun e w' => e = .returned (.bool (decide (n < (v.length : Int)))) ∧ Below w.heap.size w w' := by
 have hu := Tryz.underlying77
 have BK := Aside0.mk (bR hG hb)
 have HB := Aside0.mk hb
 have lP := fun (W1 : World) (NJ : Below w.heap.size w W1) => aV.calls k n A1 c1 l A c x v W1 (Kd.bh hC NJ) hl (Kd.bh hx NJ) hc h
 have HK := Aside0.mk lP
 clear hG hC hl hx hc h hb lP
 have Af := cG BK.out
 have kH := cR BK.out
 have hf0 := aH BK.out 0
 have hf1 := aH BK.out 1
 go_enter Tryz.func156, Tryz.ntmps156
 go_wp2
 refine fA (n := 8) (S := fun w' => w'.cell? ⟨G, 0, none⟩ = some (.int .i64 n) ∧ w'.cell? ⟨G, 1, none⟩ = some (.slice A1 l.length c1)) (ds := []) (Array.replicate 8 false) (by kernel_rfl) rfl rfl ⟨Af, kH⟩ (fun ai => ?_); refine cv rM.tab rM.bits (fun ak fz => ?_)
 have HB1 := Aside0.mk (lY HB.out)
 have BK1 := Aside0.mk (az BK.out)
 clear HB BK Af kH hf0 hf1
 generalize W.drew = W1 at HB1 BK1 ai ⊢
 refine tY 0 4 ak fz ai ?_
 refine pY 1 5 ak ?_
 refine pY 4 8 ak ?_
 refine tY 5 9 ak fz ai ?_
 refine oY 2 6 ak (fun K hK => ?_)
 refine gY Tryz.func66 #[.agg #[.int .i64 n, .slice A1 l.length c1], .slice A x.length c] ?_
 refine (HK.out _ HB1.out).mono ?_
 rintro e w' ⟨v0, rfl, ho, sh⟩
 refine ⟨_, rfl, ?_⟩
 have BK2 := Aside0.mk (bR BK1.out sh)
 have HB2 := Aside0.mk (HB1.out.trans (sh.mono HB1.out.size))
 obtain ⟨Ao, co, eo⟩ := Kd.cH ho
 subst eo
 clear ho sh
 refine hK.out _ _ ⟨(aQ BK2.out 0).trans rfl, (aQ BK2.out 1).trans rfl⟩ (fun ai => ?_)
 clear hK K
 refine nY 6 ?_
 refine pY 3 7 ak ?_
 refine pY 6 10 ak ?_
 refine pY 7 3 ak ?_
 refine dY ak ?_
 try go_wp2
 go_ret
 exact ⟨rfl, HB2.out⟩
theorem bY.calls (k : Nat) (eI : Int) (ae : Option Addr) (a8 : Nat) (aG : List bm) (r : Bool) (w : World) (dH : Kd.C eB w ae aG.length aG) (dI : aG.length ≤ a8) (h : bY.f k eI aG = some r) :
  Calls Tryz.prog 122 #[.agg #[.int .i64 eI, .slice ae aG.length a8]] w fun e w' => e = .returned (.bool r) ∧ Below w.heap.size w w' := by
 have hu := Tryz.underlying77
 unfold bY.f at h
 obtain ⟨cs, E0, h⟩ := Option.bind_eq_some_iff.mp h
 by_cases ca : ((List.range' 0 cs.length).all fun j => (px k eI aG cs j).isSome) = true
 rotate_left
 ·rw [if_neg ca] at h
  cases h
 rw [if_pos ca] at h
 obtain rfl := Option.some.inj h
 have HCS := Aside0.mk E0
 have HR := Aside0.mk dH
 have HCL := Aside0.mk dI
 have HB0 := Aside0.mk (Below.refl w.heap.size w)
 have key : ∀ (G : Nat) (W : World) (A : Option Addr) (c : Nat), Below w.heap.size w W → W.heap[G]? = some (.cells #[.int .i64 eI, .slice ae aG.length a8] 77 (0, 0)) → Kd.C (Kd.slice 3 (Kd.int .i64)) W A cs.length cs →
   Calls Tryz.prog 86 #[.slice A cs.length c, .func (.func 156) #[] #[.pointer (some ⟨G, 0, none⟩)]] W fun e w' => e = .returned (.bool ((List.range' 0 cs.length).any fun j => decide (eI < (((px k eI aG cs j).getD []).length : Int)))) ∧ Below W.heap.size W w' := by
  intro G W A c hbW hG hcW
  obtain ⟨q1, q2⟩ := py hcW
  refine si 156 #[.pointer (some ⟨G, 0, none⟩)] (enters_of Tryz.func156 (by kernel_rfl) rfl) _ _ A cs.length c W ?_ hcW.2.1 q1
  intro j hj W2 sj
  obtain ⟨A', c', e1, l1, r1⟩ := q2 j hj
  have hs : (px k eI aG cs j).isSome = true := List.all_eq_true.mp ca j (by rw [List.mem_range']; exact ⟨j, hj, by omega⟩)
  obtain ⟨v, hv⟩ := Option.isSome_iff_exists.mp hs
  have := Cc k A' c' (cs.getD j []) G eI ae a8 aG v W W2 sj hG (Kd.bh HR.out hbW) HCL.out r1 l1 hv
  rw [e1]
  refine this.mono ?_
  rintro e w' ⟨rfl, sh⟩
  exact ⟨by simp only [hv, Option.getD_some], sh⟩
 have KEY := Aside0.mk key
 clear key E0 dH dI h ca
 go_enter Tryz.func122, Tryz.ntmps122
 go_wp2_with (first
  | ((with_reducible refine ah (N := 1) rfl ?_); refine bE 1 #[.int .i64 eI, .slice ae aG.length a8] 77 ?_; intro gb hg w8 bO hb; have BK := Aside0.mk bO; have HB := Aside0.mk (HB0.out.trans hb); have Af := cG BK.out; have kH := cR BK.out; have hf0 := aH BK.out 0; have hf1 := aH BK.out 1; clear hb bO hg)
  | (go_at_call 65; refine (aM.PN k eI (fun k_ => True) ae a8 aG cs _ ?hv HCS.out).mono ?_; (case hv => exact Kd.jo HCL.out (Kd.rN (Kd.UK BY (Kd.bh HR.out (mb HB.out))) (fun _ _ => trivial))); rintro e w9 ⟨vc, rfl, hs, hb⟩; have BK9 := Aside0.mk (bR (ct BK.out) hb); have HB9 := Aside0.mk (pq (mb HB.out) hb); obtain ⟨Ac, cc, ec⟩ := Kd.gj hs; subst ec; have HS := Aside0.mk (Kd.cj hs).2.2; clear hs hb)
  | (go_at_call 86; refine (KEY.out gb _ Ac cc (mb HB9.out) (ct BK9.out) (by repeat (first | exact HS.out | (with_reducible refine Kd.xv ?_ _) | (with_reducible refine Kd.CX ?_)))).mono ?_; rintro e BZ ⟨rfl, hb⟩; have apS := Aside0.mk (pq (mb HB9.out) hb); clear hb))
 go_ret
 exact ⟨rfl, mb apS.out⟩
def cU.f (k : Nat) (aD : List (List Int)) (aG : List (List Int)) : Option (Bool) := (aA.f k aD aG 1).bind fun Ej => ((bY.f k Ej.1 Ej.2).bind fun PZ => (if PZ = true then ((aA.f k aD aG 2).bind fun Ek => ((bY.f k Ek.1 Ek.2).bind fun P0 => (some P0))) else (some false)))
theorem cU.mono : ∀ a0 a1 k, bB (cU.f k a0 a1) (cU.f (k + 1) a0 a1) := by
 intro a0 a1 k
 unfold cU.f
 repeat' first
   | (with_reducible exact aA.mono ..)
   | (with_reducible exact bY.mono ..)
   | (with_reducible exact bB.refl _)
   | (with_reducible exact bB.none _)
   | (with_reducible refine bB.ite ?_ ?_)
   | (with_reducible refine bB.bind ?_ (fun _ => ?_))
theorem cU.calls (k : Nat) (ay : Option Addr) (ap : Nat) (aD : List (List Int)) (ae : Option Addr) (a8 : Nat) (aG : List (List Int)) (r : Bool) (w : World) (db : Kd.C (Kd.slice 3 (Kd.int .i64)) w ay aD.length aD) (dc : aD.length ≤ ap) (dH : Kd.C (Kd.slice 3 (Kd.int .i64)) w ae aG.length aG) (dI : aG.length ≤ a8) (h : cU.f k aD aG = some r) :
  Calls Tryz.prog 63 #[.agg #[.slice ay aD.length ap, .slice ae aG.length a8]] w fun e w' => e = .returned (.bool r) ∧ Below w.heap.size w w' := by
 have rD := Tryz.underlying28
 have bl := Aside0.mk db
 have bz := Aside0.mk dc
 clear db dc
 have bx := Aside0.mk dH
 have cE := Aside0.mk dI
 clear dH dI
 have HB := Aside0.mk (Below.refl w.heap.size w)
 have H : ((aA.f k aD aG 1).bind fun Ej => ((bY.f k Ej.1 Ej.2).bind fun PZ => (if PZ = true then ((aA.f k aD aG 2).bind fun Ek => ((bY.f k Ek.1 Ek.2).bind fun P0 => (some P0))) else (some false)))) = some r := h
 clear h
 replace H := bZ H; obtain ⟨⟨NP, Hg⟩, A2, H⟩ := H; dsimp only at H
 replace H := bZ H; obtain ⟨PZ, A3, H⟩ := H
 by_cases c4 : PZ = true
 rotate_left
 ·replace c4 := Bool.eq_false_iff.mpr c4
  subst c4
  replace H := sZ H
  obtain rfl := Option.some.inj H
  go_enter Tryz.func63, Tryz.ntmps63
  go_wp2_with (first | ((with_reducible refine ah (N := 1) rfl ?_); refine bE 1 #[.slice ay aD.length ap, .slice ae aG.length a8] 28 ?_; intro yy hg NO bO hb; have iN := am (bO); have P1 := gW HB hg; have ahs := P1; replace HB := bS HB hb; clear hb bO hg; have UL := cG iN.out; have UM := cR iN.out; have UN := aH iN.out 0; have UO := aH iN.out 1) | ((with_reducible refine gC 64 rfl ?_); refine gL 4 Tryz.func64 #[.agg #[.slice ay aD.length ap, .slice ae aG.length a8], .int .i64 1] ?_; (with_reducible refine (aA.calls k _ _ aD _ _ aG 1 NP Hg _ ?aT ?aU ?ao ?ar A2.out).mono ?_); (case aT => exact cB bl HB); (case aU => exact bz.out); (case ao => exact cB bx HB); (case ar => exact cE.out); rintro e Ow ⟨v375, rfl, cC, hb⟩; refine ⟨_, rfl, ?_⟩; have mX := am (Kd.fT (Kd.bK (ok' := fun k_ => k_ ≠ yy) cC (fun k_ gH => (Kd.du (g := yy) (o := .cells #[.slice ay aD.length ap, .slice ae aG.length a8] 28 (0, 0)) (ct iN.out) k_ gH))) (aC (mb HB.out))); replace iN := kS iN hb; replace HB := bS HB hb; (try clear hb cC); obtain ⟨P2, P3, aaT⟩ := Kd.da mX.out; subst aaT) | ((with_reducible refine gC 122 rfl ?_); refine gL 5 Tryz.func122 #[.agg #[.int .i64 NP, .slice P2 Hg.length P3]] ?_; (with_reducible refine (bY.calls k NP _ _ Hg false _ ?aT ?aU A3.out).mono ?_); (case aT => exact fy (Kd.cZ mX.out).2.2); (case aU => exact (Kd.cZ mX.out).2.1); rintro e P4 ⟨rfl, hb⟩; refine ⟨_, rfl, ?_⟩; replace mX := am (Kd.eN (dX mX.out) hb); replace iN := kS iN hb; replace HB := bS HB hb; (try clear hb)))
  go_ret
  exact ⟨jC, mb HB.out⟩
 subst c4
 replace H := sY H
 replace H := bZ H; obtain ⟨⟨aht, ahu⟩, A5, H⟩ := H; dsimp only at H
 replace H := bZ H; obtain ⟨P0, A6, H⟩ := H
 obtain rfl := Option.some.inj H
 go_enter Tryz.func63, Tryz.ntmps63
 go_wp2_with (first | ((with_reducible refine ah (N := 1) rfl ?_); refine bE 1 #[.slice ay aD.length ap, .slice ae aG.length a8] 28 ?_; intro yy hg w7 bO hb; have iN := am (bO); have P1 := gW HB hg; have ahs := P1; replace HB := bS HB hb; clear hb bO hg; have Hh := cG iN.out; have Hi := cR iN.out; have Hj := aH iN.out 0; have Hk := aH iN.out 1) | ((with_reducible refine gC 64 rfl ?_); refine gL 4 Tryz.func64 #[.agg #[.slice ay aD.length ap, .slice ae aG.length a8], .int .i64 1] ?_; (with_reducible refine (aA.calls k _ _ aD _ _ aG 1 NP Hg _ ?aT ?aU ?ao ?ar A2.out).mono ?_); (case aT => exact cB bl HB); (case aU => exact bz.out); (case ao => exact cB bx HB); (case ar => exact cE.out); rintro e w9 ⟨v375, rfl, cC, hb⟩; refine ⟨_, rfl, ?_⟩; have mX := am (Kd.fT (Kd.bK (ok' := fun k_ => k_ ≠ yy) cC (fun k_ gH => (Kd.du (g := yy) (o := .cells #[.slice ay aD.length ap, .slice ae aG.length a8] 28 (0, 0)) (ct iN.out) k_ gH))) (aC (mb HB.out))); replace iN := kS iN hb; replace HB := bS HB hb; (try clear hb cC); obtain ⟨El, xX, xY⟩ := Kd.da mX.out; subst xY) | ((with_reducible refine gC 122 rfl ?_); refine gL 5 Tryz.func122 #[.agg #[.int .i64 NP, .slice El Hg.length xX]] ?_; (with_reducible refine (bY.calls k NP _ _ Hg true _ ?aT ?aU A3.out).mono ?_); (case aT => exact fy (Kd.cZ mX.out).2.2); (case aU => exact (Kd.cZ mX.out).2.1); rintro e tu ⟨rfl, hb⟩; refine ⟨_, rfl, ?_⟩; replace mX := am (Kd.eN (dX mX.out) hb); replace iN := kS iN hb; replace HB := bS HB hb; (try clear hb); have tv := cG iN.out; have tw := cR iN.out; have tx := aH iN.out 0; have tz := aH iN.out 1) | (go_at_call 64; (with_reducible refine (aA.calls k _ _ aD _ _ aG 2 aht ahu _ ?aT ?aU ?ao ?ar A5.out).mono ?_); (case aT => exact cB bl HB); (case aU => exact bz.out); (case ao => exact cB bx HB); (case ar => exact cE.out); rintro e E2 ⟨v380, rfl, cC, hb⟩; have Em := am (Kd.fT (Kd.bK (ok' := fun k_ => some k_ ≠ (.slice El Hg.length xX : Value).ownBlock ∧ k_ ≠ yy) cC (fun k_ gH => ⟨(Kd.dz (Kd.rH (dX mX.out)) k_ gH), (Kd.du (g := yy) (o := .cells #[.slice ay aD.length ap, .slice ae aG.length a8] 28 (0, 0)) (ct iN.out) k_ gH)⟩)) (aC (mb HB.out))); replace mX := am (Kd.cw (dX mX.out) (Kd.gv cC) hb); replace iN := kS iN hb; replace HB := bS HB hb; (try clear hb cC); obtain ⟨avM, avN, apT⟩ := Kd.da Em.out; subst apT) | (go_at_call 122; (with_reducible refine (bY.calls k aht _ _ ahu P0 _ ?aT ?aU A6.out).mono ?_); (case aT => exact fy (Kd.cZ Em.out).2.2); (case aU => exact (Kd.cZ Em.out).2.1); rintro e NQ ⟨rfl, hb⟩; replace mX := am (Kd.eN (dX mX.out) hb); replace Em := am (Kd.eN (dX Em.out) hb); replace iN := kS iN hb; replace HB := bS HB hb; (try clear hb)))
 go_ret
 exact ⟨jC, mb HB.out⟩
end Go.Proofs.YtggiicplcglalaaGreat.All
end
