/- Part of the proof that FnExactWalkSteps answers true. -/
import Derived.Test.YtggiicplcglalaaGreatQW14
section
namespace Go.Proofs.YtggiicplcglalaaGreat.All
open Go.RowKit YtggiicplcglalaaGreatW.PrintWords YtggiicplcglalaaGreatW.PrintLast YtggiicplcglalaaGreatW.PrintMore
attribute [local go_sem] max2_int min2_int max_two min_two max_three min_three max_four min_four
set_option linter.unusedVariables false
set_option linter.unusedSimpArgs false
set_option maxHeartbeats 8000000
set_option maxRecDepth 100000
mutual
def aE.l0 : Nat → List (List Int) → Int → List (List Int) → Int → Option ((List (List Int)))
 | 0, _, _, _, _ => none
 | k + 1, x0, x3, x4, x5 => if 0 ≤ (wrap64 (x3 + (x0.length : Int))) then (if x5 < (shl .i64 1 (wrap64 (x3 + (x0.length : Int)))) then (aE.l1 k x0 x3 x4 x5 ([] : List (List Int)) ([] : List Int) 0) else (some x4)) else (none)
def aE.l1 : Nat → List (List Int) → Int → List (List Int) → Int → List (List Int) → List Int → Int → Option ((List (List Int)))
 | 0, _, _, _, _, _, _, _ => none
 | k + 1, x0, x3, x4, x5, x6, x7, x8 => if x8 < (wrap64 (x3 + (x0.length : Int))) then (if 0 ≤ x8 then (if (Int.tmod (shr .i64 x5 x8) 2) = 0 then (aE.l1 k x0 x3 x4 x5 x6 x7 (wrap64 (x8 + 1))) else (if x8 < x3 then ((je.f x3 x8).bind fun BC => (if x6.length < 5864062014805 then (if x7.length < 17592186044416 then (aE.l1 k x0 x3 x4 x5 (x6 ++ [BC]) (x7 ++ [0]) (wrap64 (x8 + 1))) else (none)) else (none))) else (if 0 ≤ (wrap64 (x8 - x3)) then (if (wrap64 (x8 - x3)) < (x0.length : Int) then (if x6.length < 5864062014805 then (if x7.length < 17592186044416 then (aE.l1 k x0 x3 x4 x5 (x6 ++ [aJ x0 (wrap64 (x8 - x3))]) (x7 ++ [1]) (wrap64 (x8 + 1))) else (none)) else (none)) else (none)) else (none)))) else (none)) else (if (x6.length : Int) = x3 then ((aI.f k x6).bind fun rF => (if rF = 0 then (aE.l0 k x0 x3 x4 (wrap64 (x5 + 1))) else ((eW.f rF).bind fun Uh => (aE.l2 k x0 x3 x4 x5 x6 x7 rF ([] : List Int) Uh 0)))) else (aE.l0 k x0 x3 x4 (wrap64 (x5 + 1))))
def aE.l2 : Nat → List (List Int) → Int → List (List Int) → Int → List (List Int) → List Int → Int → List Int → Int → Int → Option ((List (List Int)))
 | 0, _, _, _, _, _, _, _, _, _, _ => none
 | k + 1, x0, x3, x4, x5, x6, x7, x9, iM, jd, oE => if oE < x3 then (aE.l3 k x0 x3 x4 x5 x6 x7 x9 iM jd oE ([] : List (List Int)) (x6.length : Int) 0) else ((eW.f x9).bind fun N8 => (if iM.length < 17592186044416 then ((some (iM ++ [N8] : List Int)).bind fun wE => (aE.l4 k x0 x3 x4 x5 wE jd (wE.length : Int) 0)) else (none)))
def aE.l3 : Nat → List (List Int) → Int → List (List Int) → Int → List (List Int) → List Int → Int → List Int → Int → Int → List (List Int) → Int → Int → Option ((List (List Int)))
 | 0, _, _, _, _, _, _, _, _, _, _, _, _, _ => none
 | k + 1, x0, x3, x4, x5, x6, x7, x9, iM, jd, oE, sb, x87, x88 => if x88 < x87 then (if 0 ≤ x88 then (if x88 < (x6.length : Int) then ((jD.f (aJ x6 x88)).bind fun mB => (if x88 < (x7.length : Int) then (if 0 ≤ oE then (if oE < (mB.length : Int) then (if sb.length < 5864062014805 then (aE.l3 k x0 x3 x4 x5 x6 x7 x9 iM jd oE (sb ++ [(mB.set (oE : Int).toNat (rd x7 x88))]) x87 (wrap64 (x88 + 1))) else (none)) else (none)) else (none)) else (none))) else (none)) else (none)) else ((aI.f k sb).bind fun qL => (if x9 < 0 then (if iM.length < 17592186044416 then ((eW.f (wrap64 (-qL))).bind fun IY => ((bs.f k jd IY).bind fun N9 => (aE.l2 k x0 x3 x4 x5 x6 x7 x9 (iM ++ [wrap64 (-qL)]) N9 (wrap64 (oE + 1))))) else (none)) else (if iM.length < 17592186044416 then ((eW.f qL).bind fun IZ => ((bs.f k jd IZ).bind fun N_ => (aE.l2 k x0 x3 x4 x5 x6 x7 x9 (iM ++ [qL]) N_ (wrap64 (oE + 1))))) else (none))))
def aE.l4 : Nat → List (List Int) → Int → List (List Int) → Int → List Int → Int → Int → Int → Option ((List (List Int)))
 | 0, _, _, _, _, _, _, _, _ => none
 | k + 1, x0, x3, x4, x5, iM, jd, aiw, Na => if Na < aiw then (if 0 ≤ Na then (if Na < (iM.length : Int) then (if jd = 0 then (none) else (aE.l4 k x0 x3 x4 x5 (iM.set (Na : Int).toNat (wrap64 (Int.tdiv (rd iM Na) jd))) jd aiw (wrap64 (Na + 1)))) else (none)) else (none)) else ((aa.f k x0 iM).bind fun aix => (if aix.2 = true then ((cS.f k x4 iM).bind fun Ui => (aE.l0 k x0 x3 Ui (wrap64 (x5 + 1)))) else (aE.l0 k x0 x3 x4 (wrap64 (x5 + 1)))))
end
def aE.f (k : Nat) (l0 : List (List Int)) : Option ((List (List Int))) := if 0 < (l0.length : Int) then (aE.l0 k l0 ((aJ l0 0).length : Int) ([] : List (List Int)) 0) else (none)
theorem aE.bG : ∀ k, (∀ y0 y1 y2 y3, bB (aE.l0 k y0 y1 y2 y3) (aE.l0 (k + 1) y0 y1 y2 y3)) ∧ (∀ y0 y1 y2 y3 y4 y5 y6, bB (aE.l1 k y0 y1 y2 y3 y4 y5 y6) (aE.l1 (k + 1) y0 y1 y2 y3 y4 y5 y6)) ∧ (∀ y0 y1 y2 y3 y4 y5 y6 y7 y8 y9, bB (aE.l2 k y0 y1 y2 y3 y4 y5 y6 y7 y8 y9) (aE.l2 (k + 1) y0 y1 y2 y3 y4 y5 y6 y7 y8 y9)) ∧ (∀ y0 y1 y2 y3 y4 y5 y6 y7 y8 y9 zB YH y12, bB (aE.l3 k y0 y1 y2 y3 y4 y5 y6 y7 y8 y9 zB YH y12) (aE.l3 (k + 1) y0 y1 y2 y3 y4 y5 y6 y7 y8 y9 zB YH y12)) ∧ (∀ y0 y1 y2 y3 y4 y5 y6 y7, bB (aE.l4 k y0 y1 y2 y3 y4 y5 y6 y7) (aE.l4 (k + 1) y0 y1 y2 y3 y4 y5 y6 y7))
 | 0 => ⟨fun _ _ _ _ r h => by simp [aE.l0] at h, fun _ _ _ _ _ _ _ r h => by simp [aE.l1] at h, fun _ _ _ _ _ _ _ _ _ _ r h => by simp [aE.l2] at h, fun _ _ _ _ _ _ _ _ _ _ _ _ _ r h => by simp [aE.l3] at h, fun _ _ _ _ _ _ _ _ r h => by simp [aE.l4] at h⟩
 | k + 1 => by
  obtain ⟨eQ, kP, sn, Q6, ih4⟩ := aE.bG k
  refine ⟨?_, ?_, ?_, ?_, ?_⟩ <;> intros <;> (first | unfold aE.l0 | unfold aE.l1 | unfold aE.l2 | unfold aE.l3 | unfold aE.l4)
  all_goals repeat' first
  | (with_reducible exact eQ ..)
  | (with_reducible exact kP ..)
  | (with_reducible exact sn ..)
  | (with_reducible exact Q6 ..)
  | (with_reducible exact ih4 ..)
  | (with_reducible exact aI.mono ..)
  | (with_reducible exact bs.mono ..)
  | (with_reducible exact aa.mono ..)
  | (with_reducible exact cS.mono ..)
  | (with_reducible exact bB.refl _)
  | (with_reducible exact bB.none _)
  | (with_reducible refine bB.ite ?_ ?_)
  | (with_reducible refine bB.bind ?_ (fun _ => ?_))
theorem aE.mono : ∀ a0 k, bB (aE.f k a0) (aE.f (k + 1) a0) := by
 intro a0 k
 obtain ⟨eQ, kP, sn, Q6, ih4⟩ := aE.bG k
 unfold aE.f
 repeat' first
   | (with_reducible exact eQ ..)
   | (with_reducible exact kP ..)
   | (with_reducible exact sn ..)
   | (with_reducible exact Q6 ..)
   | (with_reducible exact ih4 ..)
   | (with_reducible exact aI.mono ..)
   | (with_reducible exact bs.mono ..)
   | (with_reducible exact aa.mono ..)
   | (with_reducible exact cS.mono ..)
   | (with_reducible exact bB.refl _)
   | (with_reducible exact bB.none _)
   | (with_reducible refine bB.ite ?_ ?_)
   | (with_reducible refine bB.bind ?_ (fun _ => ?_))
theorem aE.calls (k : Nat) (cT : Nat → Prop) (A0 : Option Addr) (c0 : Nat) (l0 : List (List Int)) (r : List (List Int)) (w : World) (nE : Kd.V (Kd.slice 3 (Kd.int .i64)) 40 w w.heap.size (fun k_ => cT k_) (.slice A0 l0.length c0) l0) (h : aE.f k l0 = some r) :
  Calls Tryz.prog 56 #[.slice A0 l0.length c0] w fun e w' => ∃ iE : Value, e = .returned (iE) ∧ Kd.V (Kd.slice 3 (Kd.int .i64)) 40 w' w.heap.size (fun k_ => (cT k_ ∨ w.heap.size ≤ k_)) iE r ∧ Below w.heap.size w w' := by
 have HM := Aside0.mk (show Kd.V (Kd.slice 3 (Kd.int .i64)) 40 w w.heap.size (fun k_ => (cT k_ ∨ w.heap.size ≤ k_)) (.slice A0 l0.length c0) l0 from Kd.af nE (fun k_ hk => .inl hk))
 have HB := Aside0.mk (Below.refl w.heap.size w)
 have H : (if 0 < (l0.length : Int) then (aE.l0 k l0 ((aJ l0 0).length : Int) ([] : List (List Int)) 0) else (none)) = some r := h
 clear h
 by_cases c2 : 0 < (l0.length : Int)
 rotate_left
 ·rw [if_neg c2] at H
  exact absurd H (by simp)
 rw [if_pos c2] at H
 have uE := decide_eq_true c2
 have FD : decide (0 < l0.length) = true := decide_eq_true (by omega)
 clear c2
 have H' := Aside0.mk H
 clear H
 have Uj : 0 ≤ (0 : Int) := (by omega)
 have Uk : 0 < (l0.length : Int) := bX
 obtain ⟨wx, aqs, aqt, aqu, Cy, LF, LG⟩ := eO (Kd.bN HM.out).2.2 0 Uj Uk
 cases aqu
 obtain ⟨aub, acb, acd, Q7⟩ := Kd.ly HM.out [] 0 Uj (by first | exact Uk | exact bX | (have e_ := (Kd.bN HM.out).1; omega))
 obtain ⟨aog, aoh, rfl, Cz, DA⟩ := Kd.dG acd
 have yM := Q7 0 _ rfl
 rw [Nat.add_zero, show ((Kd.slice 3 (Kd.int .i64))).sz = 1 from rfl, Nat.mul_one] at yM
 replace yM := Option.some.inj (yM.symm.trans Cy)
 injection yM with fN iW fO
 rw [fN] at DA
 rw [fO] at Cz
 have aoi := Aside0.mk (show Kd.V (Kd.int .i64) 3 _ w.heap.size _ _ (aJ l0 0) from Kd.jo Cz DA)
 clear fN iW fO DA Cz
 clear Q7 acb
 have auc : (0 < l0.length) = True := eq_true (by omega)
 (try rw [show ((0 : Int)).toNat = 0 from rfl] at Cy)
 (try rw [Addr.add_zero'] at Cy)
 have aoj := Aside0.mk LG
 have aok := Aside0.mk LF
 clear LG LF
 replace Uj := eq_true Uj
 replace Uk := eq_true Uk
 go_enter Tryz.func56, Tryz.ntmps56
 go_wp2
 go_loopg [4, 5] k (fun kq v4 v5 w' => ∃ (dT : List (List Int)) (aj : Int), v5 = .int .i64 aj ∧ Aside0 (aE.l0 kq l0 ((aJ l0 0).length : Int) dT aj = some r) ∧ Aside0 (kq ≤ k) ∧ Aside0 (Kd.V (Kd.slice 3 (Kd.int .i64)) 40 w' w.heap.size (fun k_ => (cT k_ ∨ w.heap.size ≤ k_)) (.slice (some wx) l0.length c0) l0) ∧ Aside0 (Kd.V (Kd.slice 3 (Kd.int .i64)) 40 w' w.heap.size (fun k_ => (cT k_ ∨ w.heap.size ≤ k_)) v4 dT) ∧ Aside0 (Below w.heap.size w w'))
 case atStart => exact ⟨(([] : List (List Int))), (0), dM, H', ⟨Nat.le_refl _⟩, ⟨c_ HM.out⟩, ⟨Kd.zI _ _ _ _ _⟩, ⟨mb HB.out⟩⟩
 case round =>
  clear H'
  obtain ⟨dT, aj, rfl, HA, dP, bQ, eh, HB⟩ := hrel
  cases gk with
  | zero => exact absurd HA.out (by simp [aE.l0])
  | succ k1 =>
   have H := HA.out
   clear HA
   simp only [aE.l0] at H
   obtain ⟨Nb, Nc⟩ : ∃ j_ : Int, (wrap64 (((aJ l0 0).length : Int) + (l0.length : Int))) = j_ := ⟨_, rfl⟩
   replace H : (if 0 ≤ (Nb) then (if aj < (shl .i64 1 (Nb)) then (aE.l1 k1 l0 ((aJ l0 0).length : Int) dT aj ([] : List (List Int)) ([] : List Int) 0) else (some dT)) else (none)) = some r := by first | (rw [Nc] at H; exact H) | (simp only [Nc] at H ⊢; exact H)
   have aud : (IntKind.i64.wrap (((aJ l0 0).length : Int) + (l0.length : Int))) = Nb := (gn _).trans Nc
   replace H := oo H; obtain ⟨c4, H⟩ := H
   have iI := eq_true c4
   have N5 := decide_eq_true c4
   clear c4
   obtain ⟨Y7, Q8⟩ : ∃ j_ : Int, (shl .i64 1 (Nb)) = j_ := ⟨_, rfl⟩
   replace H : (if aj < (Y7) then (aE.l1 k1 l0 ((aJ l0 0).length : Int) dT aj ([] : List (List Int)) ([] : List Int) 0) else (some dT)) = some r := by first | (rw [Q8] at H; exact H) | (simp only [Q8] at H ⊢; exact H)
   have Y8 : (IntKind.i64.wrap (1 * 2 ^ min (Nb).toNat 64)) = Y7 := Q8
   have Y9 : (Nb) ≤ 64 → (IntKind.i64.wrap (1 * 2 ^ (Nb).toNat)) = Y7 := Nd Q8
   have aue : (IntKind.i64.wrap (2 ^ min (Nb).toNat 64)) = Y7 := by have h_ := Y8; rw [Int.one_mul] at h_; exact h_
   have auf : (Nb) ≤ 64 → (IntKind.i64.wrap (2 ^ (Nb).toNat)) = Y7 := fun aqv => by have h_ := Y9 aqv; rw [Int.one_mul] at h_; exact h_
   have aug : (wrap64 (1 * 2 ^ min (Nb).toNat 64)) = Y7 := (gn _).symm.trans Y8
   have auh : (Nb) ≤ 64 → (wrap64 (1 * 2 ^ (Nb).toNat)) = Y7 := fun h_ => (gn _).symm.trans (Y9 h_)
   by_cases c6 : aj < (Y7)
   rotate_left
   ·rw [if_neg c6] at H
    have hU := decide_eq_false c6
    (try rw [kG] at hU)
    clear c6
    obtain rfl := Option.some.inj H
    go_wp2
    go_ret
    exact ⟨_, by first | rfl | (simp [fp, fq] <;> rfl) | (simp only [← Nc, ← Q8]; first | rfl | (simp [fp, fq] <;> rfl)) | (simp [*, fp, fq] <;> rfl), c_ eh.out, mb HB.out⟩
   rw [if_pos c6] at H
   have hU := decide_eq_true c6
   clear c6
   have H' := Aside0.mk H
   clear H
   go_wp2
   go_loopg [6, 7, 8] k1 (fun kq v6 v7 v8 w' => ∃ (cd : List (List Int)) (fb : List Int) (lE : Int), v8 = .int .i64 lE ∧ Aside0 (aE.l1 kq l0 ((aJ l0 0).length : Int) dT aj cd fb lE = some r) ∧ Aside0 (kq ≤ k1) ∧ Aside0 (Kd.V (Kd.slice 3 (Kd.int .i64)) 40 w' w.heap.size (fun k_ => (cT k_ ∨ w.heap.size ≤ k_) ∧ some k_ ≠ (v6 : Value).ownBlock ∧ some k_ ≠ (v7 : Value).ownBlock) (.slice (some wx) l0.length c0) l0) ∧ Aside0 (Kd.V (Kd.slice 3 (Kd.int .i64)) 40 w' w.heap.size (fun k_ => (cT k_ ∨ w.heap.size ≤ k_) ∧ some k_ ≠ (v6 : Value).ownBlock ∧ some k_ ≠ (v7 : Value).ownBlock) u4 dT) ∧ Aside0 (Kd.N (Kd.slice 3 (Kd.int .i64)) 40 w' w.heap.size (fun k_ => (cT k_ ∨ w.heap.size ≤ k_) ∧ some k_ ≠ (v7 : Value).ownBlock) v6 cd) ∧ Aside0 (Kd.R (Kd.int .i64) 3 w' w.heap.size (fun k_ => (w.heap.size ≤ k_)) v7 fb) ∧ Aside0 (Below w.heap.size w w'))
   case atStart => exact ⟨(([] : List (List Int))), (([] : List Int)), (0), dM, H', ⟨Nat.le_refl _⟩, ⟨Kd.af (c_ bQ.out) (fun _ hk => ⟨hk, ⟨(by simp [Value.ownBlock]), (by simp [Value.ownBlock])⟩⟩)⟩, ⟨Kd.af (c_ eh.out) (fun _ hk => ⟨hk, ⟨(by simp [Value.ownBlock]), (by simp [Value.ownBlock])⟩⟩)⟩, ⟨by first | exact Kd.Bc _ _ _ _ _ | exact Kd.Bd _ _ _ _ _ | exact Kd.zI _ _ _ _ _ | exact Kd.BV _ _ _ _ _ | exact Kd.mV _ _ _ _ _⟩, ⟨Cr⟩, ⟨mb HB.out⟩⟩
   case round =>
    clear H'
    obtain ⟨cd, fb, lE, rfl, HA, ft, bQ, eh, cM, cf, HB⟩ := hrel
    cases gk with
    | zero => exact absurd HA.out (by simp [aE.l1])
    | succ k2 =>
     have H := HA.out
     clear HA
     simp only [aE.l1] at H
     by_cases c7 : lE < (wrap64 (((aJ l0 0).length : Int) + (l0.length : Int)))
     ·rw [if_pos c7] at H
      have lO := decide_eq_true c7
      (try rw [Nc] at lO)
      clear c7
      replace H := oo H; obtain ⟨c8, H⟩ := H
      have oz := eq_true c8
      have Hy := decide_eq_true c8
      clear c8
      obtain ⟨ji9, Ul⟩ : ∃ j_ : Int, (shr .i64 aj lE) = j_ := ⟨_, rfl⟩
      replace H : (if (Int.tmod (ji9) 2) = 0 then (aE.l1 k2 l0 ((aJ l0 0).length : Int) dT aj cd fb (wrap64 (lE + 1))) else (if lE < ((aJ l0 0).length : Int) then ((je.f ((aJ l0 0).length : Int) lE).bind fun BC => (if cd.length < 5864062014805 then (if fb.length < 17592186044416 then (aE.l1 k2 l0 ((aJ l0 0).length : Int) dT aj (cd ++ [BC]) (fb ++ [0]) (wrap64 (lE + 1))) else (none)) else (none))) else (if 0 ≤ (wrap64 (lE - ((aJ l0 0).length : Int))) then (if (wrap64 (lE - ((aJ l0 0).length : Int))) < (l0.length : Int) then (if cd.length < 5864062014805 then (if fb.length < 17592186044416 then (aE.l1 k2 l0 ((aJ l0 0).length : Int) dT aj (cd ++ [aJ l0 (wrap64 (lE - ((aJ l0 0).length : Int)))]) (fb ++ [1]) (wrap64 (lE + 1))) else (none)) else (none)) else (none)) else (none)))) = some r := by first | (rw [Ul] at H; exact H) | (simp only [Ul] at H ⊢; exact H)
      have aui : (aj / 2 ^ min lE.toNat 64) = ji9 := Ul
      have auj : lE ≤ 64 → (aj / 2 ^ lE.toNat) = ji9 := Nf Ul
      by_cases ot : (Int.tmod (ji9) 2) = 0
      ·rw [if_pos ot] at H
       have oC := il ot
       have Bf := im ot
       clear ot
       have H' := Aside0.mk H
       clear H
       go_wp2
       go_roundg k2
       case measure => have := dP.out; have := ft.out; omega
       case rel => exact ⟨(cd), (fb), (wrap64 (lE + 1)), dM, H', ⟨by have := dP.out; have := ft.out; omega⟩, ⟨c_ bQ.out⟩, ⟨c_ eh.out⟩, ⟨dX cM.out⟩, ⟨ci cf.out⟩, ⟨mb HB.out⟩⟩
      rw [if_neg ot] at H
      have oC := iQ ot
      have Bf := iR ot
      by_cases nN : lE < ((aJ l0 0).length : Int)
      ·rw [if_pos nN] at H
       have nJ := decide_eq_true nN
       clear nN
       replace H := bZ H; obtain ⟨BC, A12, H⟩ := H
       replace H := np H; obtain ⟨Q9, H⟩ := H
       replace H := br (cd ++ [BC]) (fun Um => (if fb.length < 17592186044416 then (aE.l1 k2 l0 ((aJ l0 0).length : Int) dT aj Um (fb ++ [0]) (wrap64 (lE + 1))) else (none)) = some r) H; obtain ⟨Um, aiy, H⟩ := H
       replace H := np H; obtain ⟨aiz, H⟩ := H
       replace H := br (fb ++ [0]) (fun ace => (aE.l1 k2 l0 ((aJ l0 0).length : Int) dT aj Um ace (wrap64 (lE + 1))) = some r) H; obtain ⟨ace, aiA, H⟩ := H
       have H' := Aside0.mk H
       clear H
       go_wp2_with (first | ((with_reducible refine gC 113 rfl ?_); refine gL 53 Tryz.func113 #[.int .i64 ((aJ l0 0).length : Int), .int .i64 lE] ?_; (with_reducible refine (je.calls ((aJ l0 0).length : Int) lE BC _ A12.out).mono ?_); rintro e NQ ⟨v570, rfl, cC, hb⟩; refine ⟨_, rfl, ?_⟩; replace bQ := am (Kd.cY (c_ bQ.out) (Kd.bf cC) hb); replace eh := am (Kd.cY (c_ eh.out) (Kd.bf cC) hb); replace cM := am (Kd.cw (dX cM.out) (Kd.bf cC) hb); have Q_ := am (Kd.cO (Kd.kT (Kd.jQ (M := fun k_ => (w.heap.size ≤ k_)) cC (aC (mb HB.out)) (fun k_ h_ => h_)) (Kd.iH (ci cf.out))) (aC (mb HB.out))); replace cf := am (Kd.gV (ci cf.out) (Kd.bf cC) hb); replace HB := bS HB hb; (try clear hb cC); obtain ⟨mO, iJ, Qa⟩ := Kd.cH Q_.out; subst Qa) | ((with_reducible refine bC (b := .append) (xs := #[.tmp 50, .tmp 54]) rfl ?_); at_builtin; refine Kd.iX (Kd.slice 3 (Kd.int .i64)) (w0 := w) w.heap.size rfl (.tmp 50) (.tmp 54) 22 40 (.slice none 0 0) 24 rfl Tryz.underlying22 gM rfl (by decide) (by omega) u6 cd BC [.slice mO BC.length iJ] (fun k_ => (cT k_ ∨ w.heap.size ≤ k_) ∧ some k_ ≠ (u7 : Value).ownBlock) (fun k_ => ((fun k_ => (cT k_ ∨ w.heap.size ≤ k_) ∧ some k_ ≠ (u7 : Value).ownBlock)) k_ ∧ some k_ ≠ (u6 : Value).ownBlock) rfl rfl ?aP (fun _ hk => hk) ?aF ?aO ?aB ?aS ?aL ?_; (case aP => exact (FKR (Kd.bD (ok' := (fun k_ => ((fun k_ => (cT k_ ∨ w.heap.size ≤ k_) ∧ some k_ ≠ (u7 : Value).ownBlock)) k_ ∧ some k_ ≠ (u6 : Value).ownBlock)) (Kd.cX (Q_.out) (Kd.dy cM.out) (by decide)) (fun k_ hk => ⟨⟨(.inr (hk.1.1.1)), hk.1.2⟩, hk.2⟩)))); (case aB => exact (mb HB.out)); (case aF => exact (fun k_ hk => ⟨(.inr (Nat.le_trans (aC (mb HB.out)) hk)), Kd.dz (Kd.iH (ci cf.out)) k_ hk⟩)); (case aO => exact (Kd.bK (dX cM.out) (fun _ hk => ⟨hk.1.1, hk.1.2⟩))); (case aS => exact (aC (mb HB.out))); (case aL => have := Q9.out; omega); intro v573 NO ho hb hg bk; rw [← aiy.out] at ho; replace bQ := am (Kd.bH (ok := (fun k_ => (cT k_ ∨ w.heap.size ≤ k_) ∧ some k_ ≠ (u7 : Value).ownBlock ∧ some k_ ≠ (.slice mO BC.length iJ : Value).ownBlock)) (Kd.af (c_ bQ.out) (fun _ hk => ⟨⟨hk.1.1, ⟨hk.1.2.2, hk.2⟩⟩, hk.1.2.1⟩)) hg bk); replace eh := am (Kd.bH (ok := (fun k_ => (cT k_ ∨ w.heap.size ≤ k_) ∧ some k_ ≠ (u7 : Value).ownBlock ∧ some k_ ≠ (.slice mO BC.length iJ : Value).ownBlock)) (Kd.af (c_ eh.out) (fun _ hk => ⟨⟨hk.1.1, ⟨hk.1.2.2, hk.2⟩⟩, hk.1.2.1⟩)) hg bk); replace cf := am (Kd.ph (ci cf.out) (Kd.dy (dX cM.out)) (by decide) hg); replace HB := am (hb); have Qb := am (ho); clear cM; clear Q_; clear ho hb hg bk) | ((with_reducible refine bC (b := .append) (xs := #[.tmp 56, .tmp 57]) rfl ?_); at_builtin; refine Kd.fV (Kd.int .i64) (w0 := w) w.heap.size rfl (.tmp 56) (.tmp 57) 40 3 (.int .i64 0) 8 rfl Tryz.underlying40 eT rfl (by decide) (by omega) u7 fb 0 [.int .i64 0] (fun k_ => (w.heap.size ≤ k_)) (fun _ => False) rfl rfl ?aP (fun _ hk => hk.elim) ?aF ?aO ?aB ?aS ?aL ?_; (case aP => exact rfl); (case aB => exact (mb HB.out)); (case aF => exact (fun k_ hk => (Nat.le_trans (aC (mb HB.out)) hk))); (case aO => exact (Kd.bD (ci cf.out) (fun _ hk => hk.1))); (case aS => exact (aC (mb HB.out))); (case aL => have := aiz.out; omega); intro v576 Ow ho hb hg bk; rw [← aiA.out] at ho; replace bQ := am (Kd.bH (ok := (fun k_ => (cT k_ ∨ w.heap.size ≤ k_) ∧ some k_ ≠ (v573 : Value).ownBlock)) (Kd.af (c_ bQ.out) (fun _ hk => ⟨⟨hk.1.1, hk.2⟩, hk.1.2.1⟩)) hg bk); replace eh := am (Kd.bH (ok := (fun k_ => (cT k_ ∨ w.heap.size ≤ k_) ∧ some k_ ≠ (v573 : Value).ownBlock)) (Kd.af (c_ eh.out) (fun _ hk => ⟨⟨hk.1.1, hk.2⟩, hk.1.2.1⟩)) hg bk); replace Qb := am (Kd.dJ (ok := (fun k_ => (cT k_ ∨ w.heap.size ≤ k_))) (dX Qb.out) hg bk); replace HB := am (hb); have aiB := am (ho); clear cf; clear ho hb hg bk))
       go_roundg k2
       case measure => have := dP.out; have := ft.out; omega
       case rel => exact ⟨(Um), (ace), (wrap64 (lE + 1)), dM, H', ⟨by have := dP.out; have := ft.out; omega⟩, ⟨Kd.af (c_ bQ.out) (fun _ hk => ⟨hk.1.1, ⟨hk.1.2, hk.2⟩⟩)⟩, ⟨Kd.af (c_ eh.out) (fun _ hk => ⟨hk.1.1, ⟨hk.1.2, hk.2⟩⟩)⟩, ⟨dX Qb.out⟩, ⟨ci aiB.out⟩, ⟨mb HB.out⟩⟩
      rw [if_neg nN] at H
      have nJ := decide_eq_false nN
      clear nN
      obtain ⟨xj, Qc⟩ : ∃ j_ : Int, (wrap64 (lE - ((aJ l0 0).length : Int))) = j_ := ⟨_, rfl⟩
      replace H : (if 0 ≤ (xj) then (if (xj) < (l0.length : Int) then (if cd.length < 5864062014805 then (if fb.length < 17592186044416 then (aE.l1 k2 l0 ((aJ l0 0).length : Int) dT aj (cd ++ [aJ l0 (xj)]) (fb ++ [1]) (wrap64 (lE + 1))) else (none)) else (none)) else (none)) else (none)) = some r := by first | (rw [Qc] at H; exact H) | (simp only [Qc] at H ⊢; exact H)
      have aqw : (IntKind.i64.wrap (lE - ((aJ l0 0).length : Int))) = xj := (gn _).trans Qc
      replace H := fW H; obtain ⟨uH, H⟩ := H
      replace H := fW H; obtain ⟨FN, H⟩ := H
      replace H := np H; obtain ⟨FO, H⟩ := H
      replace H := br (cd ++ [aJ l0 (xj)]) (fun Un => (if fb.length < 17592186044416 then (aE.l1 k2 l0 ((aJ l0 0).length : Int) dT aj Un (fb ++ [1]) (wrap64 (lE + 1))) else (none)) = some r) H; obtain ⟨Un, aiC, H⟩ := H
      replace H := np H; obtain ⟨aiD, H⟩ := H
      replace H := br (fb ++ [1]) (fun acf => (aE.l1 k2 l0 ((aJ l0 0).length : Int) dT aj Un acf (wrap64 (lE + 1))) = some r) H; obtain ⟨acf, aiE, H⟩ := H
      have H' := Aside0.mk H
      clear H
      have Uo : 0 ≤ ((xj) : Int) := bX
      have Up : (xj) < (l0.length : Int) := bX
      obtain ⟨aiF, acg, ach, aqx, Uq, LI, LJ⟩ := eO (Kd.bN bQ.out).2.2 (xj) Uo Up
      obtain rfl : wx = aiF := (by injection aqx)
      obtain ⟨auk, aci, acj, Qd⟩ := Kd.ly bQ.out [] (xj) Uo (by first | exact Up | exact bX | (have e_ := (Kd.bN bQ.out).1; omega))
      obtain ⟨aol, aom, rfl, DB, DC⟩ := Kd.dG acj
      have yN := Qd 0 _ rfl
      rw [Nat.add_zero, show ((Kd.slice 3 (Kd.int .i64))).sz = 1 from rfl, Nat.mul_one] at yN
      replace yN := Option.some.inj (yN.symm.trans Uq)
      injection yN with fN iW fO
      rw [fN] at DC
      rw [fO] at DB
      have ry := Aside0.mk (show Kd.V (Kd.int .i64) 3 _ w.heap.size _ _ (aJ l0 (xj)) from Kd.jo DB DC)
      clear fN iW fO DC DB
      clear Qd aci
      have aon := Aside0.mk LJ
      have aoo := Aside0.mk LI
      clear LJ LI
      replace Uo := eq_true Uo
      replace Up := eq_true Up
      go_wp2_with (first | ((with_reducible refine bC (b := .append) (xs := #[.tmp 59, .tmp 66]) rfl ?_); at_builtin; refine Kd.iX (Kd.slice 3 (Kd.int .i64)) (w0 := w) w.heap.size rfl (.tmp 59) (.tmp 66) 22 40 (.slice none 0 0) 24 rfl Tryz.underlying22 gM rfl (by decide) (by omega) u6 cd (aJ l0 (xj)) [.slice acg (aJ l0 (xj)).length ach] (fun k_ => (cT k_ ∨ w.heap.size ≤ k_) ∧ some k_ ≠ (u7 : Value).ownBlock) (fun k_ => ((fun k_ => (cT k_ ∨ w.heap.size ≤ k_) ∧ some k_ ≠ (u7 : Value).ownBlock)) k_ ∧ some k_ ≠ (u6 : Value).ownBlock) rfl rfl ?aP (fun _ hk => hk) ?aF ?aO ?aB ?aS ?aL ?_; (case aP => exact (Kd.fP (Kd.bN (Kd.af (ok' := (fun k_ => ((fun k_ => (cT k_ ∨ w.heap.size ≤ k_) ∧ some k_ ≠ (u7 : Value).ownBlock)) k_ ∧ some k_ ≠ (u6 : Value).ownBlock)) (ry.out) (fun k_ hk => ⟨⟨hk.1, hk.2.2⟩, hk.2.1⟩))).2.1 (Kd.PS (Kd.af (ok' := (fun k_ => ((fun k_ => (cT k_ ∨ w.heap.size ≤ k_) ∧ some k_ ≠ (u7 : Value).ownBlock)) k_ ∧ some k_ ≠ (u6 : Value).ownBlock)) (ry.out) (fun k_ hk => ⟨⟨hk.1, hk.2.2⟩, hk.2.1⟩))))); (case aB => exact (mb HB.out)); (case aF => exact (fun k_ hk => ⟨(.inr (Nat.le_trans (aC (mb HB.out)) hk)), Kd.dz (Kd.iH (ci cf.out)) k_ hk⟩)); (case aO => exact (dX cM.out)); (case aS => exact (aC (mb HB.out))); (case aL => have := FO.out; omega); intro v580 Pb ho hb hg bk; rw [← aiC.out] at ho; replace bQ := am (Kd.bH (ok := (fun k_ => (cT k_ ∨ w.heap.size ≤ k_) ∧ some k_ ≠ (u7 : Value).ownBlock)) (Kd.af (c_ bQ.out) (fun _ hk => ⟨⟨hk.1, hk.2.2⟩, hk.2.1⟩)) hg bk); replace eh := am (Kd.bH (ok := (fun k_ => (cT k_ ∨ w.heap.size ≤ k_) ∧ some k_ ≠ (u7 : Value).ownBlock)) (Kd.af (c_ eh.out) (fun _ hk => ⟨⟨hk.1, hk.2.2⟩, hk.2.1⟩)) hg bk); replace cf := am (Kd.ph (ci cf.out) (Kd.dy (dX cM.out)) (by decide) hg); replace ry := am (Kd.bH (ok := (fun k_ => (cT k_ ∨ w.heap.size ≤ k_) ∧ some k_ ≠ (u7 : Value).ownBlock)) (Kd.af (c_ ry.out) (fun _ hk => ⟨⟨hk.1, hk.2.2⟩, hk.2.1⟩)) hg bk); replace HB := am (hb); have Qe := am (ho); clear cM; clear ho hb hg bk) | ((with_reducible refine bC (b := .append) (xs := #[.tmp 68, .tmp 69]) rfl ?_); at_builtin; refine Kd.fV (Kd.int .i64) (w0 := w) w.heap.size rfl (.tmp 68) (.tmp 69) 40 3 (.int .i64 0) 8 rfl Tryz.underlying40 eT rfl (by decide) (by omega) u7 fb 1 [.int .i64 1] (fun k_ => (w.heap.size ≤ k_)) (fun _ => False) rfl rfl ?aP (fun _ hk => hk.elim) ?aF ?aO ?aB ?aS ?aL ?_; (case aP => exact rfl); (case aB => exact (mb HB.out)); (case aF => exact (fun k_ hk => (Nat.le_trans (aC (mb HB.out)) hk))); (case aO => exact (ci cf.out)); (case aS => exact (aC (mb HB.out))); (case aL => have := aiD.out; omega); intro v583 w25 ho hb hg bk; rw [← aiE.out] at ho; replace bQ := am (Kd.bH (ok := (fun k_ => (cT k_ ∨ w.heap.size ≤ k_) ∧ some k_ ≠ (v580 : Value).ownBlock)) (Kd.af (c_ bQ.out) (fun _ hk => ⟨⟨hk.1.1, hk.2⟩, hk.1.2⟩)) hg bk); replace eh := am (Kd.bH (ok := (fun k_ => (cT k_ ∨ w.heap.size ≤ k_) ∧ some k_ ≠ (v580 : Value).ownBlock)) (Kd.af (c_ eh.out) (fun _ hk => ⟨⟨hk.1.1, hk.2⟩, hk.1.2⟩)) hg bk); replace ry := am (Kd.bH (ok := (fun k_ => (cT k_ ∨ w.heap.size ≤ k_) ∧ some k_ ≠ (v580 : Value).ownBlock)) (Kd.af (c_ ry.out) (fun _ hk => ⟨⟨hk.1.1, hk.2⟩, hk.1.2⟩)) hg bk); replace Qe := am (Kd.dJ (ok := (fun k_ => (cT k_ ∨ w.heap.size ≤ k_))) (dX Qe.out) hg bk); replace HB := am (hb); have aiG := am (ho); clear cf; clear ho hb hg bk))
      go_roundg k2
      case measure => have := dP.out; have := ft.out; omega
      case rel => exact ⟨(Un), (acf), (wrap64 (lE + 1)), dM, H', ⟨by have := dP.out; have := ft.out; omega⟩, ⟨Kd.af (c_ bQ.out) (fun _ hk => ⟨hk.1.1, ⟨hk.1.2, hk.2⟩⟩)⟩, ⟨Kd.af (c_ eh.out) (fun _ hk => ⟨hk.1.1, ⟨hk.1.2, hk.2⟩⟩)⟩, ⟨dX Qe.out⟩, ⟨ci aiG.out⟩, ⟨mb HB.out⟩⟩
     rw [if_neg c7] at H
     have lO := decide_eq_false c7
     (try rw [Nc] at lO)
     clear c7
     by_cases Ah : (cd.length : Int) = ((aJ l0 0).length : Int)
     rotate_left
     ·rw [if_neg Ah] at H
      have sq := iQ Ah
      have aiH := iR Ah
      have aiI : (cd.length == (aJ l0 0).length) = false := by first | simpa using Ah | (simp at Ah ⊢; omega)
      have H' := Aside0.mk H
      clear H
      obtain ⟨av0, aqy, Ur⟩ := Kd.da cM.out
      subst Ur
      go_wp2
      go_roundg k2
      case measure => have := dP.out; have := ft.out; omega
      case rel => exact ⟨(dT), (wrap64 (aj + 1)), dM, H', ⟨by have := dP.out; have := ft.out; omega⟩, ⟨Kd.af (c_ bQ.out) (fun _ hk => hk.1)⟩, ⟨Kd.af (c_ eh.out) (fun _ hk => hk.1)⟩, ⟨mb HB.out⟩⟩
     rw [if_pos Ah] at H
     have sq := il Ah
     have aiH := im Ah
     have aiI : (cd.length == (aJ l0 0).length) = true := by first | simpa using Ah | (simp at Ah ⊢; omega)
     clear Ah
     replace H := bZ H; obtain ⟨rF, pa, H⟩ := H
     by_cases nR : rF = 0
     ·rw [if_pos nR] at H
      have Kz := il nR
      have aiJ := im nR
      clear nR
      have H' := Aside0.mk H
      clear H
      obtain ⟨I0, xk, ack⟩ := Kd.da cM.out
      subst ack
      go_wp2_with (first | ((with_reducible refine gC 114 rfl ?_); refine gL 76 Tryz.func114 #[.slice I0 cd.length xk] ?_; (with_reducible refine (aI.calls k2 _ _ cd rF _ ?aT ?aU pa.out).mono ?_); (case aT => exact fy (Kd.cZ cM.out).2.2); (case aU => exact (Kd.cZ cM.out).2.1); rintro e w30 ⟨rfl, hb⟩; refine ⟨_, rfl, ?_⟩; replace bQ := am (Kd.cn (c_ bQ.out) hb); replace eh := am (Kd.cn (c_ eh.out) hb); replace cM := am (Kd.eN (dX cM.out) hb); replace cf := am (Kd.b6 (ci cf.out) hb); replace HB := bS HB hb; (try clear hb)))
      go_roundg k2
      case measure => have := dP.out; have := ft.out; omega
      case rel => exact ⟨(dT), (wrap64 (aj + 1)), dM, H', ⟨by have := dP.out; have := ft.out; omega⟩, ⟨Kd.af (c_ bQ.out) (fun _ hk => hk.1)⟩, ⟨Kd.af (c_ eh.out) (fun _ hk => hk.1)⟩, ⟨mb HB.out⟩⟩
     rw [if_neg nR] at H
     have Kz := iQ nR
     have aiJ := iR nR
     replace H := bZ H; obtain ⟨Uh, A31, H⟩ := H
     have H' := Aside0.mk H
     clear H
     obtain ⟨pt, kr, aaM⟩ := Kd.da cM.out
     subst aaM
     go_wp2_with (first | ((with_reducible refine gC 114 rfl ?_); refine gL 76 Tryz.func114 #[.slice pt cd.length kr] ?_; (with_reducible refine (aI.calls k2 _ _ cd rF _ ?aT ?aU pa.out).mono ?_); (case aT => exact fy (Kd.cZ cM.out).2.2); (case aU => exact (Kd.cZ cM.out).2.1); rintro e w33 ⟨rfl, hb⟩; refine ⟨_, rfl, ?_⟩; replace bQ := am (Kd.cn (c_ bQ.out) hb); replace eh := am (Kd.cn (c_ eh.out) hb); replace cM := am (Kd.eN (dX cM.out) hb); replace cf := am (Kd.b6 (ci cf.out) hb); replace HB := bS HB hb; (try clear hb)) | ((with_reducible refine gC 115 rfl ?_); refine gL 80 Tryz.func115 #[.int .i64 rF] ?_; (with_reducible refine (eW.calls rF Uh _ A31.out).mono ?_); rintro e w' ⟨rfl, ⟨nd, rfl⟩⟩; refine ⟨_, rfl, ?_⟩))
     go_loopg [10, 11, 12] k2 (fun kq v10 v11 v12 w' => ∃ (l7 : List Int) (Bg : List Int) (hY : Int) (dh : Int), v11 = .int .i64 hY ∧ v12 = .int .i64 dh ∧ Aside0 (aE.l2 kq l0 ((aJ l0 0).length : Int) dT aj cd l7 rF Bg hY dh = some r) ∧ Aside0 (kq ≤ k2) ∧ Aside0 (Kd.V (Kd.slice 3 (Kd.int .i64)) 40 w' w.heap.size (fun k_ => (cT k_ ∨ w.heap.size ≤ k_) ∧ some k_ ≠ ((.slice pt cd.length kr) : Value).ownBlock ∧ some k_ ≠ (u7 : Value).ownBlock ∧ some k_ ≠ (v10 : Value).ownBlock) (.slice (some wx) l0.length c0) l0) ∧ Aside0 (Kd.V (Kd.slice 3 (Kd.int .i64)) 40 w' w.heap.size (fun k_ => (cT k_ ∨ w.heap.size ≤ k_) ∧ some k_ ≠ ((.slice pt cd.length kr) : Value).ownBlock ∧ some k_ ≠ (u7 : Value).ownBlock ∧ some k_ ≠ (v10 : Value).ownBlock) u4 dT) ∧ Aside0 (Kd.N (Kd.slice 3 (Kd.int .i64)) 40 w' w.heap.size (fun k_ => (cT k_ ∨ w.heap.size ≤ k_) ∧ some k_ ≠ (u7 : Value).ownBlock ∧ some k_ ≠ (v10 : Value).ownBlock) (.slice pt cd.length kr) cd) ∧ Aside0 (Kd.R (Kd.int .i64) 3 w' w.heap.size (fun k_ => (w.heap.size ≤ k_) ∧ some k_ ≠ (v10 : Value).ownBlock) u7 l7) ∧ Aside0 (Kd.R (Kd.int .i64) 3 w' w.heap.size (fun k_ => (w.heap.size ≤ k_) ∧ some k_ ≠ (u7 : Value).ownBlock) v10 Bg) ∧ Aside0 (Below w.heap.size w w'))
     case atStart => exact ⟨(fb), (([] : List Int)), (Uh), (0), dM, dM, H', ⟨Nat.le_refl _⟩, ⟨Kd.af (c_ bQ.out) (fun _ hk => ⟨hk.1, ⟨hk.2.1, ⟨hk.2.2, (by simp [Value.ownBlock])⟩⟩⟩)⟩, ⟨Kd.af (c_ eh.out) (fun _ hk => ⟨hk.1, ⟨hk.2.1, ⟨hk.2.2, (by simp [Value.ownBlock])⟩⟩⟩)⟩, ⟨Kd.bK (dX cM.out) (fun _ hk => ⟨hk.1, ⟨hk.2, (by simp [Value.ownBlock])⟩⟩)⟩, ⟨Kd.bD (ci cf.out) (fun _ hk => ⟨hk, (by simp [Value.ownBlock])⟩)⟩, ⟨Cr⟩, ⟨mb HB.out⟩⟩
     case round =>
      clear H'
      obtain ⟨l7, Bg, hY, dh, rfl, rfl, HA, nQ, bQ, eh, cM, cf, cI, HB⟩ := hrel
      cases gk with
      | zero => exact absurd HA.out (by simp [aE.l2])
      | succ k3 =>
       have H := HA.out
       clear HA
       simp only [aE.l2] at H
       by_cases Qf : dh < ((aJ l0 0).length : Int)
       rotate_left
       ·rw [if_neg Qf] at H
        have aiK := decide_eq_false Qf
        clear Qf
        replace H := bZ H; obtain ⟨N8, A63, H⟩ := H
        replace H := np H; obtain ⟨aiL, H⟩ := H
        replace H := br (Bg ++ [N8]) (fun wE => (aE.l4 k3 l0 ((aJ l0 0).length : Int) dT aj wE hY (wE.length : Int) 0) = some r) H; obtain ⟨wE, aiM, H⟩ := H
        have H' := Aside0.mk H
        clear H
        go_wp2_with (first | ((with_reducible refine gC 115 rfl ?_); refine gL 123 Tryz.func115 #[.int .i64 rF] ?_; (with_reducible refine (eW.calls rF N8 _ A63.out).mono ?_); rintro e w' ⟨rfl, ⟨nd, rfl⟩⟩; refine ⟨_, rfl, ?_⟩) | ((with_reducible refine bC (b := .append) (xs := #[.tmp 121, .tmp 124]) rfl ?_); at_builtin; refine Kd.fV (Kd.int .i64) (w0 := w) w.heap.size rfl (.tmp 121) (.tmp 124) 40 3 (.int .i64 0) 8 rfl Tryz.underlying40 eT rfl (by decide) (by omega) u10 Bg N8 [.int .i64 N8] (fun k_ => (w.heap.size ≤ k_) ∧ some k_ ≠ (u7 : Value).ownBlock) (fun _ => False) rfl rfl ?aP (fun _ hk => hk.elim) ?aF ?aO ?aB ?aS ?aL ?_; (case aP => exact rfl); (case aB => exact (mb HB.out)); (case aF => exact (fun k_ hk => ⟨(Nat.le_trans (aC (mb HB.out)) hk), Kd.dz (Kd.iH (ci cf.out)) k_ hk⟩)); (case aO => exact (ci cI.out)); (case aS => exact (aC (mb HB.out))); (case aL => have := aiL.out; omega); intro v609 w65 ho hb hg bk; rw [← aiM.out] at ho; replace bQ := am (Kd.bH (ok := (fun k_ => (cT k_ ∨ w.heap.size ≤ k_) ∧ some k_ ≠ (.slice pt cd.length kr : Value).ownBlock ∧ some k_ ≠ (u7 : Value).ownBlock)) (Kd.af (c_ bQ.out) (fun _ hk => ⟨⟨hk.1, ⟨hk.2.1, hk.2.2.1⟩⟩, hk.2.2.2⟩)) hg bk); replace eh := am (Kd.bH (ok := (fun k_ => (cT k_ ∨ w.heap.size ≤ k_) ∧ some k_ ≠ (.slice pt cd.length kr : Value).ownBlock ∧ some k_ ≠ (u7 : Value).ownBlock)) (Kd.af (c_ eh.out) (fun _ hk => ⟨⟨hk.1, ⟨hk.2.1, hk.2.2.1⟩⟩, hk.2.2.2⟩)) hg bk); replace cM := am (Kd.dJ (ok := (fun k_ => (cT k_ ∨ w.heap.size ≤ k_) ∧ some k_ ≠ (u7 : Value).ownBlock)) (Kd.bK (dX cM.out) (fun _ hk => ⟨⟨hk.1, hk.2.1⟩, hk.2.2⟩)) hg bk); replace cf := am (Kd.fF (ok := (fun k_ => (w.heap.size ≤ k_))) (ci cf.out) hg bk); replace HB := am (hb); have Y_ := am (ho); clear cI; clear ho hb hg bk; obtain ⟨FT, wF, aqz⟩ := Kd.cH Y_.out; subst aqz))
        go_loopg [128] k3 (fun kq v128 w' => ∃ (gE : List Int) (jU : Int), v128 = .int .i64 jU ∧ Aside0 (aE.l4 kq l0 ((aJ l0 0).length : Int) dT aj gE hY (wE.length : Int) jU = some r) ∧ Aside0 (kq ≤ k3) ∧ Aside0 (Kd.V (Kd.slice 3 (Kd.int .i64)) 40 w' w.heap.size (fun k_ => (cT k_ ∨ w.heap.size ≤ k_) ∧ some k_ ≠ ((.slice FT wE.length wF) : Value).ownBlock) (.slice (some wx) l0.length c0) l0) ∧ Aside0 (Kd.V (Kd.slice 3 (Kd.int .i64)) 40 w' w.heap.size (fun k_ => (cT k_ ∨ w.heap.size ≤ k_) ∧ some k_ ≠ ((.slice FT wE.length wF) : Value).ownBlock) u4 dT) ∧ Aside0 (Kd.R (Kd.int .i64) 3 w' w.heap.size (fun k_ => (w.heap.size ≤ k_)) (.slice FT wE.length wF) gE) ∧ Aside0 (Below w.heap.size w w'))
        case atStart => exact ⟨(wE), (0), dM, H', ⟨Nat.le_refl _⟩, ⟨Kd.af (c_ bQ.out) (fun _ hk => ⟨hk.1.1, hk.2⟩)⟩, ⟨Kd.af (c_ eh.out) (fun _ hk => ⟨hk.1.1, hk.2⟩)⟩, ⟨Kd.bD (ci Y_.out) (fun _ hk => hk.1)⟩, ⟨mb HB.out⟩⟩
        case round =>
         clear H'
         obtain ⟨gE, jU, rfl, HA, Ng, bQ, eh, cI, HB⟩ := hrel
         have kG := (Kd.aq cI.out).1
         rw [kG] at cI
         (try simp only [kG])
         (try simp only [kG] at bQ)
         (try simp only [kG] at eh)
         cases gk with
         | zero => exact absurd HA.out (by simp [aE.l4])
         | succ k4 =>
          have H := HA.out
          clear HA
          simp only [aE.l4] at H
          by_cases c67 : jU < (wE.length : Int)
          ·rw [if_pos c67] at H
           have Ya := decide_eq_true c67
           clear c67
           replace H := fW H; obtain ⟨FU, H⟩ := H
           replace H := fW H; obtain ⟨aul, H⟩ := H
           replace H := ifN H; obtain ⟨c70, H⟩ := H
           have aum := iQ c70
           have aun := iR c70
           replace H := br (gE.set (jU : Int).toNat (wrap64 (Int.tdiv (rd gE jU) hY))) (fun Us => (aE.l4 k4 l0 ((aJ l0 0).length : Int) dT aj Us hY (wE.length : Int) (wrap64 (jU + 1))) = some r) H; obtain ⟨Us, aiN, H⟩ := H
           have H' := Aside0.mk H
           clear H
           have acn : 0 ≤ (jU : Int) := bX
           have aco : jU < (gE.length : Int) := bX
           obtain ⟨auo, aqA, Ut⟩ := Kd.bi (Kd.aq cI.out).2.2 jU acn aco
           cases aqA
           replace acn := eq_true acn
           replace aco := eq_true aco
           have p71 : 0 ≤ (jU : Int) := bX
           have q71 : (jU : Int) < ((gE.length : Int) : Int) := bX
           obtain ⟨I1, av1, aiO, aiP, aqB, av2, aiQ⟩ := Kd.lZ cI.out (by omega)
           (first | cases aiO | (injection aiO with kF wB wC; (first | subst kF | (injection kF with kF; subst kF)); subst wC; clear wB))
           have aqC := Aside0.mk aiP
           have av3 := Aside0.mk aiQ
           clear aiP aqB aiQ
           (first | simp only [add_plain] at Ut | skip)
           obtain ⟨aqD, aqE⟩ := Kd.gx 0 cI.out (jU : Int) p71 q71
           replace p71 := eq_true p71
           replace q71 := eq_true q71
           have acp := Kd.nI cI.out (jU : Int) (wrap64 (Int.tdiv (rd gE jU) hY))
           go_wp2_with (first | ((with_reducible refine fo (t := 3) (p := 137) rfl ?_); refine fM (t := 3) (p := 137) (v := ?aqF) (w1 := (wr.setCell ⟨I1, (jU : Int).toNat, none⟩ (.int .i64 (wrap64 (Int.tdiv (rd gE jU) hY))))) ?hg ?ho ?hn ?hr ?_; (case ho => rfl); (case hg => rfl); (case hn => rfl); (case hr => first | (go_simp; done) | (go_simp; rfl)); intro w73 hw; have hg : wr.grownBy w73 (some I1) := (by rw [hw]; exact acp.2); have rR : Kd.R (Kd.int .i64) 3 w73 w.heap.size (fun k_ => (w.heap.size ≤ k_)) (.slice (some ⟨I1, 0, none⟩) gE.length wF) Us := (by rw [hw, aiN.out]; exact acp.1); clear acp; replace bQ := am (Kd.bH (v := (.slice (some ⟨I1, 0, none⟩) gE.length wF)) (v1 := (.slice (some ⟨I1, 0, none⟩) gE.length wF)) (ok := (fun k_ => (cT k_ ∨ w.heap.size ≤ k_))) (c_ bQ.out) hg (.inl rfl)); replace eh := am (Kd.bH (v := (.slice (some ⟨I1, 0, none⟩) gE.length wF)) (v1 := (.slice (some ⟨I1, 0, none⟩) gE.length wF)) (ok := (fun k_ => (cT k_ ∨ w.heap.size ≤ k_))) (c_ eh.out) hg (.inl rfl)); replace cI := am (rR); replace HB := am ((by rw [hw]; exact dj (HB.out) aqC.out : Below w.heap.size w w73)); clear hg hw rR))
           (try simp only [← kG])
           go_roundg k4
           case measure => have := dP.out; have := ft.out; have := nQ.out; have := Ng.out; omega
           case rel => exact ⟨(Us), (wrap64 (jU + 1)), dM, H', ⟨by have := dP.out; have := ft.out; have := nQ.out; have := Ng.out; omega⟩, ⟨by (try simp only [kG]); (with_reducible repeat (first | apply Kd.iz | apply Kd.jA | apply Kd.ee)); exact bQ.out⟩, ⟨by (try simp only [kG]); (with_reducible repeat (first | apply Kd.iz | apply Kd.jA | apply Kd.ee)); exact eh.out⟩, ⟨by (try simp only [kG]); (with_reducible repeat (first | apply Kd.ff | apply Kd.fg | apply Kd.gu)); exact cI.out⟩, ⟨mb HB.out⟩⟩
          rw [if_neg c67] at H
          have Ya := decide_eq_false c67
          (try rw [kG] at Ya)
          clear c67
          replace H := bZ H; obtain ⟨⟨aiR, aqG⟩, A74, H⟩ := H; dsimp only at H
          by_cases c75 : aqG = true
          rotate_left
          ·replace c75 := Bool.eq_false_iff.mpr c75
           subst c75
           replace H := sZ H
           have H' := Aside0.mk H
           clear H
           go_wp2_with (first | ((with_reducible refine gC 118 rfl ?_); refine gL 142 Tryz.func118 #[.slice (some wx) l0.length c0, .slice FT gE.length wF] ?_; (with_reducible refine (aa.calls k4 _ _ l0 _ _ gE aiR false _ ?aT ?aU ?ao ?ar A74.out).mono ?_); (case aT => exact fy (Kd.bN bQ.out).2.2); (case aU => exact (Kd.bN bQ.out).2.1); (case ao => exact fy (Kd.aq cI.out).2.2); (case ar => exact (Kd.aq cI.out).2.1); rintro e w80 ⟨v615, rfl, cC, hb⟩; refine ⟨_, rfl, ?_⟩; replace bQ := am (Kd.cY (c_ bQ.out) (Kd.bf cC) hb); replace eh := am (Kd.cY (c_ eh.out) (Kd.bf cC) hb); have LK := am (Kd.cO (Kd.kT (Kd.jQ (M := fun k_ => (w.heap.size ≤ k_)) cC (aC (mb HB.out)) (fun k_ h_ => h_)) (Kd.iH (ci cI.out))) (aC (mb HB.out))); replace cI := am (Kd.gV (ci cI.out) (Kd.bf cC) hb); replace HB := bS HB hb; (try clear hb cC)))
           (try simp only [← kG])
           go_roundg k4
           case measure => have := dP.out; have := ft.out; have := nQ.out; have := Ng.out; omega
           case rel => exact ⟨(dT), (wrap64 (aj + 1)), dM, H', ⟨by have := dP.out; have := ft.out; have := nQ.out; have := Ng.out; omega⟩, ⟨by (try simp only [kG]); (with_reducible repeat (first | apply Kd.iz | apply Kd.jA | apply Kd.ee)); exact Kd.af bQ.out (fun _ hk => hk.1.1)⟩, ⟨by (try simp only [kG]); (with_reducible repeat (first | apply Kd.iz | apply Kd.jA | apply Kd.ee)); exact Kd.af eh.out (fun _ hk => hk.1.1)⟩, ⟨mb HB.out⟩⟩
          subst c75
          replace H := sY H
          replace H := bZ H; obtain ⟨Ui, A76, H⟩ := H
          have H' := Aside0.mk H
          clear H
          go_wp2_with (first | ((with_reducible refine gC 118 rfl ?_); refine gL 142 Tryz.func118 #[.slice (some wx) l0.length c0, .slice FT gE.length wF] ?_; (with_reducible refine (aa.calls k4 _ _ l0 _ _ gE aiR true _ ?aT ?aU ?ao ?ar A74.out).mono ?_); (case aT => exact fy (Kd.bN bQ.out).2.2); (case aU => exact (Kd.bN bQ.out).2.1); (case ao => exact fy (Kd.aq cI.out).2.2); (case ar => exact (Kd.aq cI.out).2.1); rintro e w77 ⟨v615, rfl, cC, hb⟩; refine ⟨_, rfl, ?_⟩; replace bQ := am (Kd.cY (c_ bQ.out) (Kd.bf cC) hb); replace eh := am (Kd.cY (c_ eh.out) (Kd.bf cC) hb); have LK := am (Kd.cO (Kd.kT (Kd.jQ (M := fun k_ => (w.heap.size ≤ k_)) cC (aC (mb HB.out)) (fun k_ h_ => h_)) (Kd.iH (ci cI.out))) (aC (mb HB.out))); replace cI := am (Kd.gV (ci cI.out) (Kd.bf cC) hb); replace HB := bS HB hb; (try clear hb cC); obtain ⟨aqH, aqI, aqJ⟩ := Kd.lh eh.out; subst aqJ) | ((with_reducible refine gC 119 rfl ?_); refine gL 148 Tryz.func119 #[.slice aqH dT.length aqI, .slice FT gE.length wF] ?_; (with_reducible refine (cS.calls k4 (fun k_ => (((cT k_ ∨ w.heap.size ≤ k_) ∧ some k_ ≠ (.slice FT gE.length wF : Value).ownBlock) ∧ some k_ ≠ (v615 : Value).ownBlock)) _ _ dT (fun k_ => some k_ = (.slice FT gE.length wF : Value).ownBlock) _ _ gE Ui _ ?aT ?aU A76.out).mono ?_); (case aT => exact eh.out); (case aU => exact Kd.R_V (Kd.jr rfl (cI.out))); rintro e w79 ⟨v618, rfl, cC, hb⟩; refine ⟨_, rfl, ?_⟩; replace bQ := am (Kd.cn (c_ bQ.out) hb); replace eh := am (Kd.cn (c_ eh.out) hb); have aiS := am (Kd.mi (Kd.af (ok' := fun k_ => (cT k_ ∨ w.heap.size ≤ k_) ∧ some k_ ≠ (v615 : Value).ownBlock) cC (fun k_ gH => ⟨Or.elim gH (fun jT => Or.elim jT (fun jT => jT.1.1) (fun jT => (.inr (((cI.out).1 k_ jT.symm).1)))) (fun nS => (.inr (Nat.le_trans (aC (mb HB.out)) nS))), Or.elim gH (fun jT => Or.elim jT (fun jT => jT.2) (fun jT => ((cI.out).1 k_ jT.symm).2)) (fun nS => (Kd.dz (Kd.iH (ci LK.out)) k_ nS))⟩)) (aC (mb HB.out))); replace cI := am (Kd.b6 (ci cI.out) hb); replace LK := am (Kd.b6 (ci LK.out) hb); replace HB := bS HB hb; (try clear hb cC)))
          (try simp only [← kG])
          go_roundg k4
          case measure => have := dP.out; have := ft.out; have := nQ.out; have := Ng.out; omega
          case rel => exact ⟨(Ui), (wrap64 (aj + 1)), dM, H', ⟨by have := dP.out; have := ft.out; have := nQ.out; have := Ng.out; omega⟩, ⟨by (try simp only [kG]); (with_reducible repeat (first | apply Kd.iz | apply Kd.jA | apply Kd.ee)); exact Kd.af bQ.out (fun _ hk => hk.1.1)⟩, ⟨by (try simp only [kG]); (with_reducible repeat (first | apply Kd.iz | apply Kd.jA | apply Kd.ee)); exact Kd.af aiS.out (fun _ hk => hk.1)⟩, ⟨mb HB.out⟩⟩
       rw [if_pos Qf] at H
       have aiK := decide_eq_true Qf
       clear Qf
       have H' := Aside0.mk H
       clear H
       go_wp2
       go_loopg [13, 88] k3 (fun kq v13 v88 w' => ∃ (lF : List Int) (gE : List Int) (mC : List (List Int)) (k9 : Int), v88 = .int .i64 k9 ∧ Aside0 (aE.l3 kq l0 ((aJ l0 0).length : Int) dT aj cd lF rF gE hY dh mC (cd.length : Int) k9 = some r) ∧ Aside0 (kq ≤ k3) ∧ Aside0 (Kd.V (Kd.slice 3 (Kd.int .i64)) 40 w' w.heap.size (fun k_ => (cT k_ ∨ w.heap.size ≤ k_) ∧ some k_ ≠ ((.slice pt cd.length kr) : Value).ownBlock ∧ some k_ ≠ (u7 : Value).ownBlock ∧ some k_ ≠ (u10 : Value).ownBlock ∧ some k_ ≠ (v13 : Value).ownBlock) (.slice (some wx) l0.length c0) l0) ∧ Aside0 (Kd.V (Kd.slice 3 (Kd.int .i64)) 40 w' w.heap.size (fun k_ => (cT k_ ∨ w.heap.size ≤ k_) ∧ some k_ ≠ ((.slice pt cd.length kr) : Value).ownBlock ∧ some k_ ≠ (u7 : Value).ownBlock ∧ some k_ ≠ (u10 : Value).ownBlock ∧ some k_ ≠ (v13 : Value).ownBlock) u4 dT) ∧ Aside0 (Kd.N (Kd.slice 3 (Kd.int .i64)) 40 w' w.heap.size (fun k_ => (cT k_ ∨ w.heap.size ≤ k_) ∧ some k_ ≠ (u7 : Value).ownBlock ∧ some k_ ≠ (u10 : Value).ownBlock ∧ some k_ ≠ (v13 : Value).ownBlock) (.slice pt cd.length kr) cd) ∧ Aside0 (Kd.R (Kd.int .i64) 3 w' w.heap.size (fun k_ => (w.heap.size ≤ k_) ∧ some k_ ≠ (u10 : Value).ownBlock) u7 lF) ∧ Aside0 (Kd.R (Kd.int .i64) 3 w' w.heap.size (fun k_ => (w.heap.size ≤ k_) ∧ some k_ ≠ (u7 : Value).ownBlock) u10 gE) ∧ Aside0 (Kd.N (Kd.slice 3 (Kd.int .i64)) 40 w' w.heap.size (fun k_ => (cT k_ ∨ w.heap.size ≤ k_) ∧ some k_ ≠ ((.slice pt cd.length kr) : Value).ownBlock ∧ some k_ ≠ (u7 : Value).ownBlock ∧ some k_ ≠ (u10 : Value).ownBlock) v13 mC) ∧ Aside0 (Below w.heap.size w w'))
       case atStart => exact ⟨(l7), (Bg), (([] : List (List Int))), (0), dM, H', ⟨Nat.le_refl _⟩, ⟨Kd.af (c_ bQ.out) (fun _ hk => ⟨hk.1, ⟨hk.2.1, ⟨hk.2.2.1, ⟨hk.2.2.2, (by simp [Value.ownBlock])⟩⟩⟩⟩)⟩, ⟨Kd.af (c_ eh.out) (fun _ hk => ⟨hk.1, ⟨hk.2.1, ⟨hk.2.2.1, ⟨hk.2.2.2, (by simp [Value.ownBlock])⟩⟩⟩⟩)⟩, ⟨Kd.bK (dX cM.out) (fun _ hk => ⟨hk.1, ⟨hk.2.1, ⟨hk.2.2, (by simp [Value.ownBlock])⟩⟩⟩)⟩, ⟨ci cf.out⟩, ⟨ci cI.out⟩, ⟨by first | exact Kd.Bc _ _ _ _ _ | exact Kd.Bd _ _ _ _ _ | exact Kd.zI _ _ _ _ _ | exact Kd.BV _ _ _ _ _ | exact Kd.mV _ _ _ _ _⟩, ⟨mb HB.out⟩⟩
       case round =>
        clear H'
        obtain ⟨lF, gE, mC, k9, rfl, HA, Ng, bQ, eh, cM, cf, cI, fI, HB⟩ := hrel
        cases gk with
        | zero => exact absurd HA.out (by simp [aE.l3])
        | succ k4 =>
         have H := HA.out
         clear HA
         simp only [aE.l3] at H
         by_cases K6 : k9 < (cd.length : Int)
         rotate_left
         ·rw [if_neg K6] at H
          have aiT := decide_eq_false K6
          clear K6
          replace H := bZ H; obtain ⟨qL, A49, H⟩ := H
          by_cases c50 : rF < 0
          rotate_left
          ·rw [if_neg c50] at H
           have aiU := decide_eq_false c50
           clear c50
           replace H := np H; obtain ⟨aiV, H⟩ := H
           replace H := br (gE ++ [qL]) (fun acq => ((eW.f qL).bind fun IZ => ((bs.f k4 hY IZ).bind fun N_ => (aE.l2 k4 l0 ((aJ l0 0).length : Int) dT aj cd lF rF acq N_ (wrap64 (dh + 1))))) = some r) H; obtain ⟨acq, aiW, H⟩ := H
           replace H := bZ H; obtain ⟨IZ, A58, H⟩ := H
           replace H := bZ H; obtain ⟨N_, A59, H⟩ := H
           have H' := Aside0.mk H
           clear H
           obtain ⟨Uu, Uv, aqK⟩ := Kd.da fI.out
           subst aqK
           go_wp2_with (first | ((with_reducible refine gC 114 rfl ?_); refine gL 108 Tryz.func114 #[.slice Uu mC.length Uv] ?_; (with_reducible refine (aI.calls k4 _ _ mC qL _ ?aT ?aU A49.out).mono ?_); (case aT => exact fy (Kd.cZ fI.out).2.2); (case aU => exact (Kd.cZ fI.out).2.1); rintro e w61 ⟨rfl, hb⟩; refine ⟨_, rfl, ?_⟩; replace bQ := am (Kd.cn (c_ bQ.out) hb); replace eh := am (Kd.cn (c_ eh.out) hb); replace cM := am (Kd.eN (dX cM.out) hb); replace cf := am (Kd.b6 (ci cf.out) hb); replace cI := am (Kd.b6 (ci cI.out) hb); replace fI := am (Kd.eN (dX fI.out) hb); replace HB := bS HB hb; (try clear hb)) | ((with_reducible refine bC (b := .append) (xs := #[.tmp 113, .tmp 115]) rfl ?_); at_builtin; refine Kd.fV (Kd.int .i64) (w0 := w) w.heap.size rfl (.tmp 113) (.tmp 115) 40 3 (.int .i64 0) 8 rfl Tryz.underlying40 eT rfl (by decide) (by omega) u10 gE qL [.int .i64 qL] (fun k_ => (w.heap.size ≤ k_) ∧ some k_ ≠ (u7 : Value).ownBlock) (fun _ => False) rfl rfl ?aP (fun _ hk => hk.elim) ?aF ?aO ?aB ?aS ?aL ?_; (case aP => exact rfl); (case aB => exact (mb HB.out)); (case aF => exact (fun k_ hk => ⟨(Nat.le_trans (aC (mb HB.out)) hk), Kd.dz (Kd.iH (ci cf.out)) k_ hk⟩)); (case aO => exact (ci cI.out)); (case aS => exact (aC (mb HB.out))); (case aL => have := aiV.out; omega); intro v603 w62 ho hb hg bk; rw [← aiW.out] at ho; replace bQ := am (Kd.bH (ok := (fun k_ => (cT k_ ∨ w.heap.size ≤ k_) ∧ some k_ ≠ (.slice pt cd.length kr : Value).ownBlock ∧ some k_ ≠ (u7 : Value).ownBlock ∧ some k_ ≠ (.slice Uu mC.length Uv : Value).ownBlock)) (Kd.af (c_ bQ.out) (fun _ hk => ⟨⟨hk.1, ⟨hk.2.1, ⟨hk.2.2.1, hk.2.2.2.2⟩⟩⟩, hk.2.2.2.1⟩)) hg bk); replace eh := am (Kd.bH (ok := (fun k_ => (cT k_ ∨ w.heap.size ≤ k_) ∧ some k_ ≠ (.slice pt cd.length kr : Value).ownBlock ∧ some k_ ≠ (u7 : Value).ownBlock ∧ some k_ ≠ (.slice Uu mC.length Uv : Value).ownBlock)) (Kd.af (c_ eh.out) (fun _ hk => ⟨⟨hk.1, ⟨hk.2.1, ⟨hk.2.2.1, hk.2.2.2.2⟩⟩⟩, hk.2.2.2.1⟩)) hg bk); replace cM := am (Kd.dJ (ok := (fun k_ => (cT k_ ∨ w.heap.size ≤ k_) ∧ some k_ ≠ (u7 : Value).ownBlock ∧ some k_ ≠ (.slice Uu mC.length Uv : Value).ownBlock)) (Kd.bK (dX cM.out) (fun _ hk => ⟨⟨hk.1, ⟨hk.2.1, hk.2.2.2⟩⟩, hk.2.2.1⟩)) hg bk); replace cf := am (Kd.fF (ok := (fun k_ => (w.heap.size ≤ k_))) (ci cf.out) hg bk); replace fI := am (Kd.dJ (ok := (fun k_ => (cT k_ ∨ w.heap.size ≤ k_) ∧ some k_ ≠ (.slice pt cd.length kr : Value).ownBlock ∧ some k_ ≠ (u7 : Value).ownBlock)) (Kd.bK (dX fI.out) (fun _ hk => ⟨⟨hk.1, ⟨hk.2.1, hk.2.2.1⟩⟩, hk.2.2.2⟩)) hg bk); replace HB := am (hb); have aiX := am (ho); clear cI; clear ho hb hg bk) | ((with_reducible refine gC 115 rfl ?_); refine gL 119 Tryz.func115 #[.int .i64 qL] ?_; (with_reducible refine (eW.calls qL IZ _ A58.out).mono ?_); rintro e w' ⟨rfl, ⟨nd, rfl⟩⟩; refine ⟨_, rfl, ?_⟩) | ((with_reducible refine gC 117 rfl ?_); refine gL 120 Tryz.func117 #[.int .i64 hY, .int .i64 IZ] ?_; (with_reducible refine (bs.calls k4 hY IZ N_ _ A59.out).mono ?_); rintro e w' ⟨rfl, ⟨nd, rfl⟩⟩; refine ⟨_, rfl, ?_⟩))
           go_roundg k4
           case measure => have := dP.out; have := ft.out; have := nQ.out; have := Ng.out; omega
           case rel => exact ⟨(lF), (acq), (N_), (wrap64 (dh + 1)), dM, dM, H', ⟨by have := dP.out; have := ft.out; have := nQ.out; have := Ng.out; omega⟩, ⟨Kd.af (c_ bQ.out) (fun _ hk => ⟨hk.1.1, ⟨hk.1.2.1, ⟨hk.1.2.2.1, hk.2⟩⟩⟩)⟩, ⟨Kd.af (c_ eh.out) (fun _ hk => ⟨hk.1.1, ⟨hk.1.2.1, ⟨hk.1.2.2.1, hk.2⟩⟩⟩)⟩, ⟨Kd.bK (dX cM.out) (fun _ hk => ⟨hk.1.1, ⟨hk.1.2.1, hk.2⟩⟩)⟩, ⟨ci cf.out⟩, ⟨ci aiX.out⟩, ⟨mb HB.out⟩⟩
          rw [if_pos c50] at H
          have aiU := decide_eq_true c50
          clear c50
          replace H := np H; obtain ⟨aiY, H⟩ := H
          replace H := br (gE ++ [wrap64 (-qL)]) (fun acr => ((eW.f (wrap64 (-qL))).bind fun IY => ((bs.f k4 hY IY).bind fun N9 => (aE.l2 k4 l0 ((aJ l0 0).length : Int) dT aj cd lF rF acr N9 (wrap64 (dh + 1))))) = some r) H; obtain ⟨acr, aiZ, H⟩ := H
          replace H := bZ H; obtain ⟨IY, A52, H⟩ := H
          replace H := bZ H; obtain ⟨N9, A53, H⟩ := H
          have H' := Aside0.mk H
          clear H
          obtain ⟨Nh, Nk, acs⟩ := Kd.da fI.out
          subst acs
          go_wp2_with (first | ((with_reducible refine gC 114 rfl ?_); refine gL 108 Tryz.func114 #[.slice Nh mC.length Nk] ?_; (with_reducible refine (aI.calls k4 _ _ mC qL _ ?aT ?aU A49.out).mono ?_); (case aT => exact fy (Kd.cZ fI.out).2.2); (case aU => exact (Kd.cZ fI.out).2.1); rintro e w55 ⟨rfl, hb⟩; refine ⟨_, rfl, ?_⟩; replace bQ := am (Kd.cn (c_ bQ.out) hb); replace eh := am (Kd.cn (c_ eh.out) hb); replace cM := am (Kd.eN (dX cM.out) hb); replace cf := am (Kd.b6 (ci cf.out) hb); replace cI := am (Kd.b6 (ci cI.out) hb); replace fI := am (Kd.eN (dX fI.out) hb); replace HB := bS HB hb; (try clear hb)) | ((with_reducible refine bC (b := .append) (xs := #[.tmp 113, .tmp 115]) rfl ?_); at_builtin; refine Kd.fV (Kd.int .i64) (w0 := w) w.heap.size rfl (.tmp 113) (.tmp 115) 40 3 (.int .i64 0) 8 rfl Tryz.underlying40 eT rfl (by decide) (by omega) u10 gE (wrap64 (-qL)) [.int .i64 (wrap64 (-qL))] (fun k_ => (w.heap.size ≤ k_) ∧ some k_ ≠ (u7 : Value).ownBlock) (fun _ => False) rfl rfl ?aP (fun _ hk => hk.elim) ?aF ?aO ?aB ?aS ?aL ?_; (case aP => exact rfl); (case aB => exact (mb HB.out)); (case aF => exact (fun k_ hk => ⟨(Nat.le_trans (aC (mb HB.out)) hk), Kd.dz (Kd.iH (ci cf.out)) k_ hk⟩)); (case aO => exact (ci cI.out)); (case aS => exact (aC (mb HB.out))); (case aL => have := aiY.out; omega); intro v598 w56 ho hb hg bk; rw [← aiZ.out] at ho; replace bQ := am (Kd.bH (ok := (fun k_ => (cT k_ ∨ w.heap.size ≤ k_) ∧ some k_ ≠ (.slice pt cd.length kr : Value).ownBlock ∧ some k_ ≠ (u7 : Value).ownBlock ∧ some k_ ≠ (.slice Nh mC.length Nk : Value).ownBlock)) (Kd.af (c_ bQ.out) (fun _ hk => ⟨⟨hk.1, ⟨hk.2.1, ⟨hk.2.2.1, hk.2.2.2.2⟩⟩⟩, hk.2.2.2.1⟩)) hg bk); replace eh := am (Kd.bH (ok := (fun k_ => (cT k_ ∨ w.heap.size ≤ k_) ∧ some k_ ≠ (.slice pt cd.length kr : Value).ownBlock ∧ some k_ ≠ (u7 : Value).ownBlock ∧ some k_ ≠ (.slice Nh mC.length Nk : Value).ownBlock)) (Kd.af (c_ eh.out) (fun _ hk => ⟨⟨hk.1, ⟨hk.2.1, ⟨hk.2.2.1, hk.2.2.2.2⟩⟩⟩, hk.2.2.2.1⟩)) hg bk); replace cM := am (Kd.dJ (ok := (fun k_ => (cT k_ ∨ w.heap.size ≤ k_) ∧ some k_ ≠ (u7 : Value).ownBlock ∧ some k_ ≠ (.slice Nh mC.length Nk : Value).ownBlock)) (Kd.bK (dX cM.out) (fun _ hk => ⟨⟨hk.1, ⟨hk.2.1, hk.2.2.2⟩⟩, hk.2.2.1⟩)) hg bk); replace cf := am (Kd.fF (ok := (fun k_ => (w.heap.size ≤ k_))) (ci cf.out) hg bk); replace fI := am (Kd.dJ (ok := (fun k_ => (cT k_ ∨ w.heap.size ≤ k_) ∧ some k_ ≠ (.slice pt cd.length kr : Value).ownBlock ∧ some k_ ≠ (u7 : Value).ownBlock)) (Kd.bK (dX fI.out) (fun _ hk => ⟨⟨hk.1, ⟨hk.2.1, hk.2.2.1⟩⟩, hk.2.2.2⟩)) hg bk); replace HB := am (hb); have ai0 := am (ho); clear cI; clear ho hb hg bk) | ((with_reducible refine gC 115 rfl ?_); refine gL 119 Tryz.func115 #[.int .i64 (wrap64 (-qL))] ?_; (with_reducible refine (eW.calls (wrap64 (-qL)) IY _ A52.out).mono ?_); rintro e w' ⟨rfl, ⟨nd, rfl⟩⟩; refine ⟨_, rfl, ?_⟩) | ((with_reducible refine gC 117 rfl ?_); refine gL 120 Tryz.func117 #[.int .i64 hY, .int .i64 IY] ?_; (with_reducible refine (bs.calls k4 hY IY N9 _ A53.out).mono ?_); rintro e w' ⟨rfl, ⟨nd, rfl⟩⟩; refine ⟨_, rfl, ?_⟩))
          go_roundg k4
          case measure => have := dP.out; have := ft.out; have := nQ.out; have := Ng.out; omega
          case rel => exact ⟨(lF), (acr), (N9), (wrap64 (dh + 1)), dM, dM, H', ⟨by have := dP.out; have := ft.out; have := nQ.out; have := Ng.out; omega⟩, ⟨Kd.af (c_ bQ.out) (fun _ hk => ⟨hk.1.1, ⟨hk.1.2.1, ⟨hk.1.2.2.1, hk.2⟩⟩⟩)⟩, ⟨Kd.af (c_ eh.out) (fun _ hk => ⟨hk.1.1, ⟨hk.1.2.1, ⟨hk.1.2.2.1, hk.2⟩⟩⟩)⟩, ⟨Kd.bK (dX cM.out) (fun _ hk => ⟨hk.1.1, ⟨hk.1.2.1, hk.2⟩⟩)⟩, ⟨ci cf.out⟩, ⟨ci ai0.out⟩, ⟨mb HB.out⟩⟩
         rw [if_pos K6] at H
         have aiT := decide_eq_true K6
         clear K6
         replace H := fW H; obtain ⟨aup, H⟩ := H
         replace H := fW H; obtain ⟨auq, H⟩ := H
         replace H := bZ H; obtain ⟨mB, A38, H⟩ := H
         replace H := fW H; obtain ⟨YB, H⟩ := H
         replace H := fW H; obtain ⟨Pd, H⟩ := H
         replace H := fW H; obtain ⟨ahB, H⟩ := H
         replace H := br (mB.set (dh : Int).toNat (rd lF k9)) (fun Qg => (if mC.length < 5864062014805 then (aE.l3 k4 l0 ((aJ l0 0).length : Int) dT aj cd lF rF gE hY dh (mC ++ [Qg]) (cd.length : Int) (wrap64 (k9 + 1))) else (none)) = some r) H; obtain ⟨Qg, ai1, H⟩ := H
         replace H := np H; obtain ⟨ai2, H⟩ := H
         replace H := br (mC ++ [Qg]) (fun acu => (aE.l3 k4 l0 ((aJ l0 0).length : Int) dT aj cd lF rF gE hY dh acu (cd.length : Int) (wrap64 (k9 + 1))) = some r) H; obtain ⟨acu, ai3, H⟩ := H
         have H' := Aside0.mk H
         clear H
         have Uw : 0 ≤ (k9 : Int) := bX
         have Ux : k9 < (cd.length : Int) := bX
         obtain ⟨sr, acv, acw, aqL, Uy, LL, LM⟩ := eO (Kd.cZ cM.out).2.2 k9 Uw Ux
         cases aqL
         obtain ⟨aur, acx, acy, Qh⟩ := Kd.KI cM.out [] k9 Uw (by first | exact Ux | exact bX | (have e_ := (Kd.cZ cM.out).1; omega))
         obtain ⟨aop, aoq, rfl, DD, DE⟩ := Kd.dG acy
         have yO := Qh 0 _ rfl
         rw [Nat.add_zero, show ((Kd.slice 3 (Kd.int .i64))).sz = 1 from rfl, Nat.mul_one] at yO
         replace yO := Option.some.inj (yO.symm.trans Uy)
         injection yO with fN iW fO
         rw [fN] at DE
         rw [fO] at DD
         have rz := Aside0.mk (show Kd.V (Kd.int .i64) 3 _ w.heap.size _ _ (aJ cd k9) from Kd.jo DD DE)
         clear fN iW fO DE DD
         clear Qh acx
         have DF := Aside0.mk LM
         have Uz := Aside0.mk LL
         clear LM LL
         replace Uw := eq_true Uw
         replace Ux := eq_true Ux
         go_wp2_with (first | ((with_reducible refine gC 116 rfl ?_); refine gL 94 Tryz.func116 #[.slice acv (aJ cd k9).length acw] ?_; (with_reducible refine (jD.calls _ _ (aJ cd k9) mB _ ?aT ?aU A38.out).mono ?_); (case aT => exact fy DF.out); (case aU => exact Uz.out); rintro e w44 ⟨v589, rfl, cC, hb⟩; refine ⟨_, rfl, ?_⟩; replace bQ := am (Kd.cY (c_ bQ.out) (Kd.bf cC) hb); replace eh := am (Kd.cY (c_ eh.out) (Kd.bf cC) hb); replace cM := am (Kd.cw (dX cM.out) (Kd.bf cC) hb); replace fI := am (Kd.cw (dX fI.out) (Kd.bf cC) hb); replace rz := am (Kd.cY (c_ rz.out) (Kd.bf cC) hb); have su := am (Kd.cO (Kd.kT (Kd.kT (Kd.jQ (M := fun k_ => (w.heap.size ≤ k_)) cC (aC (mb HB.out)) (fun k_ h_ => h_)) (Kd.iH (ci cf.out))) (Kd.iH (ci cI.out))) (aC (mb HB.out))); replace cf := am (Kd.gV (ci cf.out) (Kd.bf cC) hb); replace cI := am (Kd.gV (ci cI.out) (Kd.bf cC) hb); replace DF := am (Kd.bh (fy DF.out) hb); replace HB := bS HB hb; (try clear hb cC); obtain ⟨nM, jB, Hd⟩ := Kd.cH cf.out; subst Hd; have acz : 0 ≤ (k9 : Int) := bX; have acA : k9 < (lF.length : Int) := bX; obtain ⟨nT, aqM, aor⟩ := Kd.bi (Kd.aq cf.out).2.2 k9 acz acA; cases aqM; replace acz := eq_true acz; replace acA := eq_true acA; have p42 : 0 ≤ (dh : Int) := bX; have q42 : (dh : Int) < ((mB.length : Int) : Int) := bX; obtain ⟨nu, kt, C_, ai4, aqN, av4, ai5⟩ := Kd.lZ su.out (by omega); (first | cases C_ | (injection C_ with kF wB wC; (first | subst kF | (injection kF with kF; subst kF)); subst wC; clear wB)); have aqO := Aside0.mk ai4; have av5 := Aside0.mk ai5; clear ai4 aqN ai5; obtain ⟨aqP, aqQ⟩ := Kd.gx 0 su.out (dh : Int) p42 q42; replace p42 := eq_true p42; replace q42 := eq_true q42; have n_ := Aside0.mk (Kd.bD (ok' := (fun k_ => (w.heap.size ≤ k_) ∧ some k_ ≠ (.slice (some nT) lF.length jB : Value).ownBlock ∧ some k_ ≠ (u10 : Value).ownBlock)) su.out (fun k_ hk => ⟨hk.1.1.1, ⟨hk.1.2, hk.2⟩⟩)); clear su; have su := n_; clear n_; obtain ⟨aus, aut⟩ := Kd.gx 0 su.out (dh : Int) (bX) (bX); have acB := Kd.nI su.out (dh : Int) (rd lF k9)) | ((with_reducible refine fo (t := 3) (p := 101) rfl ?_); refine fM (t := 3) (p := 101) (v := ?aqR) (w1 := (w44.setCell ⟨nu, (dh : Int).toNat, none⟩ (.int .i64 (rd lF k9)))) ?hg ?ho ?hn ?hr ?_; (case ho => rfl); (case hg => rfl); (case hn => rfl); (case hr => first | (go_simp; done) | (go_simp; rfl)); intro w47 hw; have hg : w44.grownBy w47 (some nu) := (by rw [hw]; exact acB.2); have rR : Kd.R (Kd.int .i64) 3 w47 w.heap.size (fun k_ => (w.heap.size ≤ k_) ∧ some k_ ≠ (.slice (some nT) lF.length jB : Value).ownBlock ∧ some k_ ≠ (u10 : Value).ownBlock) (.slice (some ⟨nu, 0, none⟩) mB.length kt) Qg := (by rw [hw, ai1.out]; exact acB.1); clear acB; replace bQ := am (Kd.bH (v := (.slice (some ⟨nu, 0, none⟩) mB.length kt)) (v1 := (.slice (some ⟨nu, 0, none⟩) mB.length kt)) (ok := (fun k_ => (cT k_ ∨ w.heap.size ≤ k_) ∧ some k_ ≠ (.slice (some sr) cd.length kr : Value).ownBlock ∧ some k_ ≠ (.slice (some nT) lF.length jB : Value).ownBlock ∧ some k_ ≠ (u10 : Value).ownBlock ∧ some k_ ≠ (u13 : Value).ownBlock)) (c_ bQ.out) hg (.inl rfl)); replace eh := am (Kd.bH (v := (.slice (some ⟨nu, 0, none⟩) mB.length kt)) (v1 := (.slice (some ⟨nu, 0, none⟩) mB.length kt)) (ok := (fun k_ => (cT k_ ∨ w.heap.size ≤ k_) ∧ some k_ ≠ (.slice (some sr) cd.length kr : Value).ownBlock ∧ some k_ ≠ (.slice (some nT) lF.length jB : Value).ownBlock ∧ some k_ ≠ (u10 : Value).ownBlock ∧ some k_ ≠ (u13 : Value).ownBlock)) (c_ eh.out) hg (.inl rfl)); replace cM := am (Kd.dJ (v := (.slice (some ⟨nu, 0, none⟩) mB.length kt)) (v1 := (.slice (some ⟨nu, 0, none⟩) mB.length kt)) (ok := (fun k_ => (cT k_ ∨ w.heap.size ≤ k_) ∧ some k_ ≠ (.slice (some nT) lF.length jB : Value).ownBlock ∧ some k_ ≠ (u10 : Value).ownBlock ∧ some k_ ≠ (u13 : Value).ownBlock)) (dX cM.out) hg (.inl rfl)); replace cf := am (Kd.fF (v := (.slice (some ⟨nu, 0, none⟩) mB.length kt)) (v1 := (.slice (some ⟨nu, 0, none⟩) mB.length kt)) (ok := (fun k_ => (w.heap.size ≤ k_) ∧ some k_ ≠ (u10 : Value).ownBlock)) (ci cf.out) hg (.inl rfl)); replace cI := am (Kd.fF (v := (.slice (some ⟨nu, 0, none⟩) mB.length kt)) (v1 := (.slice (some ⟨nu, 0, none⟩) mB.length kt)) (ok := (fun k_ => (w.heap.size ≤ k_) ∧ some k_ ≠ (.slice (some nT) lF.length jB : Value).ownBlock)) (ci cI.out) hg (.inl rfl)); replace fI := am (Kd.dJ (v := (.slice (some ⟨nu, 0, none⟩) mB.length kt)) (v1 := (.slice (some ⟨nu, 0, none⟩) mB.length kt)) (ok := (fun k_ => (cT k_ ∨ w.heap.size ≤ k_) ∧ some k_ ≠ (.slice (some sr) cd.length kr : Value).ownBlock ∧ some k_ ≠ (.slice (some nT) lF.length jB : Value).ownBlock ∧ some k_ ≠ (u10 : Value).ownBlock)) (dX fI.out) hg (.inl rfl)); replace rz := am (Kd.bH (v := (.slice (some ⟨nu, 0, none⟩) mB.length kt)) (v1 := (.slice (some ⟨nu, 0, none⟩) mB.length kt)) (ok := (fun k_ => (cT k_ ∨ w.heap.size ≤ k_) ∧ some k_ ≠ (.slice (some sr) cd.length kr : Value).ownBlock ∧ some k_ ≠ (.slice (some nT) lF.length jB : Value).ownBlock ∧ some k_ ≠ (u10 : Value).ownBlock ∧ some k_ ≠ (u13 : Value).ownBlock)) (Kd.af (c_ rz.out) (fun _ hk => ⟨⟨hk.1.1.1, ⟨hk.1.2, ⟨hk.1.1.2.1, ⟨hk.1.1.2.2.1, hk.1.1.2.2.2⟩⟩⟩⟩, hk.2⟩)) hg (.inl rfl)); replace su := am (rR); replace HB := am ((by rw [hw]; exact dj (HB.out) aqO.out : Below w.heap.size w w47)); clear hg hw rR) | ((with_reducible refine bC (b := .append) (xs := #[.tmp 102, .tmp 104]) rfl ?_); at_builtin; refine Kd.iX (Kd.slice 3 (Kd.int .i64)) (w0 := w) w.heap.size rfl (.tmp 102) (.tmp 104) 22 40 (.slice none 0 0) 24 rfl Tryz.underlying22 gM rfl (by decide) (by omega) u13 mC Qg [.slice (some ⟨nu, 0, none⟩) mB.length kt] (fun k_ => (cT k_ ∨ w.heap.size ≤ k_) ∧ some k_ ≠ (.slice (some sr) cd.length kr : Value).ownBlock ∧ some k_ ≠ (.slice (some nT) lF.length jB : Value).ownBlock ∧ some k_ ≠ (u10 : Value).ownBlock) (fun k_ => ((fun k_ => (cT k_ ∨ w.heap.size ≤ k_) ∧ some k_ ≠ (.slice (some sr) cd.length kr : Value).ownBlock ∧ some k_ ≠ (.slice (some nT) lF.length jB : Value).ownBlock ∧ some k_ ≠ (u10 : Value).ownBlock)) k_ ∧ some k_ ≠ (u13 : Value).ownBlock) rfl rfl ?aP (fun _ hk => hk) ?aF ?aO ?aB ?aS ?aL ?_; (case aP => exact (FKR (Kd.bD (ok' := (fun k_ => ((fun k_ => (cT k_ ∨ w.heap.size ≤ k_) ∧ some k_ ≠ (.slice (some sr) cd.length kr : Value).ownBlock ∧ some k_ ≠ (.slice (some nT) lF.length jB : Value).ownBlock ∧ some k_ ≠ (u10 : Value).ownBlock)) k_ ∧ some k_ ≠ (u13 : Value).ownBlock)) (Kd.cX (Kd.cX (su.out) (Kd.dy cM.out) (by decide)) (Kd.dy fI.out) (by decide)) (fun k_ hk => ⟨⟨(.inr (hk.1.1.1)), ⟨hk.1.2, ⟨hk.1.1.2.1, hk.1.1.2.2⟩⟩⟩, hk.2⟩)))); (case aB => exact (mb HB.out)); (case aF => exact (fun k_ hk => ⟨(.inr (Nat.le_trans (aC (mb HB.out)) hk)), Kd.dz (Kd.rH (dX cM.out)) k_ hk, Kd.dz (Kd.iH (ci cf.out)) k_ hk, Kd.dz (Kd.iH (ci cI.out)) k_ hk⟩)); (case aO => exact (Kd.bK (dX fI.out) (fun _ hk => ⟨hk.1.1, ⟨hk.1.2.1, ⟨hk.1.2.2.1, hk.1.2.2.2⟩⟩⟩))); (case aS => exact (aC (mb HB.out))); (case aL => have := ai2.out; omega); intro v594 w48 ho hb hg bk; rw [← ai3.out] at ho; replace bQ := am (Kd.bH (ok := (fun k_ => (cT k_ ∨ w.heap.size ≤ k_) ∧ some k_ ≠ (.slice (some sr) cd.length kr : Value).ownBlock ∧ some k_ ≠ (.slice (some nT) lF.length jB : Value).ownBlock ∧ some k_ ≠ (u10 : Value).ownBlock ∧ some k_ ≠ (.slice (some ⟨nu, 0, none⟩) mB.length kt : Value).ownBlock)) (Kd.af (c_ bQ.out) (fun _ hk => ⟨⟨hk.1.1, ⟨hk.1.2.1, ⟨hk.1.2.2.1, ⟨hk.1.2.2.2.1, hk.2⟩⟩⟩⟩, hk.1.2.2.2.2⟩)) hg bk); replace eh := am (Kd.bH (ok := (fun k_ => (cT k_ ∨ w.heap.size ≤ k_) ∧ some k_ ≠ (.slice (some sr) cd.length kr : Value).ownBlock ∧ some k_ ≠ (.slice (some nT) lF.length jB : Value).ownBlock ∧ some k_ ≠ (u10 : Value).ownBlock ∧ some k_ ≠ (.slice (some ⟨nu, 0, none⟩) mB.length kt : Value).ownBlock)) (Kd.af (c_ eh.out) (fun _ hk => ⟨⟨hk.1.1, ⟨hk.1.2.1, ⟨hk.1.2.2.1, ⟨hk.1.2.2.2.1, hk.2⟩⟩⟩⟩, hk.1.2.2.2.2⟩)) hg bk); replace cM := am (Kd.dJ (ok := (fun k_ => (cT k_ ∨ w.heap.size ≤ k_) ∧ some k_ ≠ (.slice (some nT) lF.length jB : Value).ownBlock ∧ some k_ ≠ (u10 : Value).ownBlock ∧ some k_ ≠ (.slice (some ⟨nu, 0, none⟩) mB.length kt : Value).ownBlock)) (Kd.bK (dX cM.out) (fun _ hk => ⟨⟨hk.1.1, ⟨hk.1.2.1, ⟨hk.1.2.2.1, hk.2⟩⟩⟩, hk.1.2.2.2⟩)) hg bk); replace cf := am (Kd.ph (ci cf.out) (Kd.dy (dX fI.out)) (by decide) hg); replace cI := am (Kd.ph (ci cI.out) (Kd.dy (dX fI.out)) (by decide) hg); replace rz := am (Kd.bH (ok := (fun k_ => (cT k_ ∨ w.heap.size ≤ k_) ∧ some k_ ≠ (.slice (some sr) cd.length kr : Value).ownBlock ∧ some k_ ≠ (.slice (some nT) lF.length jB : Value).ownBlock ∧ some k_ ≠ (u10 : Value).ownBlock ∧ some k_ ≠ (.slice (some ⟨nu, 0, none⟩) mB.length kt : Value).ownBlock)) (Kd.af (c_ rz.out) (fun _ hk => ⟨⟨hk.1.1, ⟨hk.1.2.1, ⟨hk.1.2.2.1, ⟨hk.1.2.2.2.1, hk.2⟩⟩⟩⟩, hk.1.2.2.2.2⟩)) hg bk); replace HB := am (hb); have ai6 := am (ho); clear fI; clear su; clear ho hb hg bk))
         go_roundg k4
         case measure => have := dP.out; have := ft.out; have := nQ.out; have := Ng.out; omega
         case rel => exact ⟨(lF), (gE), (acu), (wrap64 (k9 + 1)), dM, H', ⟨by have := dP.out; have := ft.out; have := nQ.out; have := Ng.out; omega⟩, ⟨Kd.af (c_ bQ.out) (fun _ hk => ⟨hk.1.1, ⟨hk.1.2.1, ⟨hk.1.2.2.1, ⟨hk.1.2.2.2.1, hk.2⟩⟩⟩⟩)⟩, ⟨Kd.af (c_ eh.out) (fun _ hk => ⟨hk.1.1, ⟨hk.1.2.1, ⟨hk.1.2.2.1, ⟨hk.1.2.2.2.1, hk.2⟩⟩⟩⟩)⟩, ⟨Kd.bK (dX cM.out) (fun _ hk => ⟨hk.1.1, ⟨hk.1.2.1, ⟨hk.1.2.2.1, hk.2⟩⟩⟩)⟩, ⟨Kd.bD (ci cf.out) (fun _ hk => ⟨hk.1.1, hk.1.2⟩)⟩, ⟨Kd.bD (ci cI.out) (fun _ hk => ⟨hk.1.1, hk.1.2⟩)⟩, ⟨dX ai6.out⟩, ⟨mb HB.out⟩⟩
mutual
def aw.l0 : Nat → List (List Int) → List (List Int) → Int → Int → Option ((List (List Int)))
 | 0, _, _, _, _ => none
 | k + 1, x0, x3, iM, jd => if jd < iM then (aw.l1 k x0 x3 jd ([] : List Int) iM jd (x0.length : Int) 0) else (some x3)
def aw.l1 : Nat → List (List Int) → List (List Int) → Int → List Int → Int → Int → Int → Int → Option ((List (List Int)))
 | 0, _, _, _, _, _, _, _, _ => none
 | k + 1, x0, x3, x4, x5, iM, jd, wD, rB => if rB < wD then (if 0 ≤ rB then (if rB < (x0.length : Int) then (if 0 ≤ x4 then (if x4 < ((aJ x0 rB).length : Int) then (if x5.length < 17592186044416 then (aw.l1 k x0 x3 x4 (x5 ++ [rd (aJ x0 rB) x4]) iM jd wD (wrap64 (rB + 1))) else (none)) else (none)) else (none)) else (none)) else (none)) else (if x3.length < 5864062014805 then (aw.l0 k x0 (x3 ++ [x5]) iM (wrap64 (jd + 1))) else (none))
end
def aw.f (k : Nat) (l0 : List (List Int)) : Option ((List (List Int))) := if 0 < (l0.length : Int) then (aw.l0 k l0 ([] : List (List Int)) ((aJ l0 0).length : Int) 0) else (none)
theorem aw.bG : ∀ k, (∀ y0 y1 y2 y3, bB (aw.l0 k y0 y1 y2 y3) (aw.l0 (k + 1) y0 y1 y2 y3)) ∧ (∀ y0 y1 y2 y3 y4 y5 y6 y7, bB (aw.l1 k y0 y1 y2 y3 y4 y5 y6 y7) (aw.l1 (k + 1) y0 y1 y2 y3 y4 y5 y6 y7))
 | 0 => ⟨fun _ _ _ _ r h => by simp [aw.l0] at h, fun _ _ _ _ _ _ _ _ r h => by simp [aw.l1] at h⟩
 | k + 1 => by
  obtain ⟨eQ, kP⟩ := aw.bG k
  refine ⟨?_, ?_⟩ <;> intros <;> (first | unfold aw.l0 | unfold aw.l1)
  all_goals repeat' first
  | (with_reducible exact eQ ..)
  | (with_reducible exact kP ..)
  | (with_reducible exact bB.refl _)
  | (with_reducible exact bB.none _)
  | (with_reducible refine bB.ite ?_ ?_)
  | (with_reducible refine bB.bind ?_ (fun _ => ?_))
theorem aw.mono : ∀ a0 k, bB (aw.f k a0) (aw.f (k + 1) a0) := by
 intro a0 k
 obtain ⟨eQ, kP⟩ := aw.bG k
 unfold aw.f
 repeat' first
   | (with_reducible exact eQ ..)
   | (with_reducible exact kP ..)
   | (with_reducible exact bB.refl _)
   | (with_reducible exact bB.none _)
   | (with_reducible refine bB.ite ?_ ?_)
   | (with_reducible refine bB.bind ?_ (fun _ => ?_))
theorem aw.calls (k : Nat) (A0 : Option Addr) (c0 : Nat) (l0 : List (List Int)) (r : List (List Int)) (w : World) (gD : Kd.C (Kd.slice 3 (Kd.int .i64)) w A0 l0.length l0) (hJ : l0.length ≤ c0) (h : aw.f k l0 = some r) :
  Calls Tryz.prog 109 #[.slice A0 l0.length c0] w fun e w' => ∃ iE : Value, e = .returned (iE) ∧ Kd.S (Kd.slice 3 (Kd.int .i64)) 40 w' w.heap.size (fun _ => True) iE r ∧ Below w.heap.size w w' := by
 have jt := Aside0.mk gD
 have wj := Aside0.mk hJ
 clear gD hJ
 have HB := Aside0.mk (Below.refl w.heap.size w)
 have H : (if 0 < (l0.length : Int) then (aw.l0 k l0 ([] : List (List Int)) ((aJ l0 0).length : Int) 0) else (none)) = some r := h
 clear h
 by_cases c2 : 0 < (l0.length : Int)
 rotate_left
 ·rw [if_neg c2] at H
  exact absurd H (by simp)
 rw [if_pos c2] at H
 have uE := decide_eq_true c2
 have FD : decide (0 < l0.length) = true := decide_eq_true (by omega)
 clear c2
 have H' := Aside0.mk H
 clear H
 have acC : 0 ≤ (0 : Int) := (by omega)
 have acD : 0 < (l0.length : Int) := bX
 obtain ⟨ai7, aqS, aqT, aqU, LN, LO, LP⟩ := eO jt.out 0 acC acD
 cases aqU
 have auu : (0 < l0.length) = True := eq_true (by omega)
 (try rw [show ((0 : Int)).toNat = 0 from rfl] at LN)
 (try rw [Addr.add_zero'] at LN)
 have aos := Aside0.mk LP
 have aot := Aside0.mk LO
 clear LP LO
 replace acC := eq_true acC
 replace acD := eq_true acD
 go_enter Tryz.func109, Tryz.ntmps109
 go_wp2
 go_loopg [3, 11] k (fun kq v3 v11 w' => ∃ (bg : List (List Int)) (bj : Int), v11 = .int .i64 bj ∧ Aside0 (aw.l0 kq l0 bg ((aJ l0 0).length : Int) bj = some r) ∧ Aside0 (kq ≤ k) ∧ Aside0 (Kd.S (Kd.slice 3 (Kd.int .i64)) 40 w' w.heap.size (fun _ => True) v3 bg) ∧ Aside0 (Below w.heap.size w w'))
 case atStart => exact ⟨(([] : List (List Int))), (0), dM, H', ⟨Nat.le_refl _⟩, ⟨by first | exact Kd.Bc _ _ _ _ _ | exact Kd.Bd _ _ _ _ _ | exact Kd.zI _ _ _ _ _ | exact Kd.BV _ _ _ _ _ | exact Kd.mV _ _ _ _ _⟩, ⟨mb HB.out⟩⟩
 case round =>
  clear H'
  obtain ⟨bg, bj, rfl, HA, dP, cW, HB⟩ := hrel
  cases gk with
  | zero => exact absurd HA.out (by simp [aw.l0])
  | succ k1 =>
   have H := HA.out
   clear HA
   simp only [aw.l0] at H
   by_cases c3 : bj < ((aJ l0 0).length : Int)
   rotate_left
   ·rw [if_neg c3] at H
    have gX := decide_eq_false c3
    clear c3
    obtain rfl := Option.some.inj H
    go_wp2
    go_ret
    exact ⟨_, jC, gP cW.out, mb HB.out⟩
   rw [if_pos c3] at H
   have gX := decide_eq_true c3
   clear c3
   have H' := Aside0.mk H
   clear H
   go_wp2
   go_loopg [5, 16] k1 (fun kq v5 v16 w' => ∃ (jE : List Int) (pG : Int), v16 = .int .i64 pG ∧ Aside0 (aw.l1 kq l0 bg bj jE ((aJ l0 0).length : Int) bj (l0.length : Int) pG = some r) ∧ Aside0 (kq ≤ k1) ∧ Aside0 (Kd.S (Kd.slice 3 (Kd.int .i64)) 40 w' w.heap.size (fun k_ => some k_ ≠ (v5 : Value).ownBlock) u3 bg) ∧ Aside0 (Kd.R (Kd.int .i64) 3 w' w.heap.size (fun _ => True) v5 jE) ∧ Aside0 (Below w.heap.size w w'))
   case atStart => exact ⟨(([] : List Int)), (0), dM, H', ⟨Nat.le_refl _⟩, ⟨Kd.cJ (gP cW.out) (fun _ hk => (by simp [Value.ownBlock]))⟩, ⟨Cr⟩, ⟨mb HB.out⟩⟩
   case round =>
    clear H'
    obtain ⟨jE, pG, rfl, HA, ft, cW, lN, HB⟩ := hrel
    cases gk with
    | zero => exact absurd HA.out (by simp [aw.l1])
    | succ k2 =>
     have H := HA.out
     clear HA
     simp only [aw.l1] at H
     by_cases c4 : pG < (l0.length : Int)
     rotate_left
     ·rw [if_neg c4] at H
      have iI := decide_eq_false c4
      clear c4
      replace H := np H; obtain ⟨FQ, H⟩ := H
      replace H := br (bg ++ [jE]) (fun acE => (aw.l0 k2 l0 acE ((aJ l0 0).length : Int) (wrap64 (bj + 1))) = some r) H; obtain ⟨acE, ai8, H⟩ := H
      have H' := Aside0.mk H
      clear H
      obtain ⟨FV, zV, I3⟩ := Kd.cH lN.out
      subst I3
      go_wp2_with (first | ((with_reducible refine bC (b := .append) (xs := #[.tmp 30, .tmp 32]) rfl ?_); at_builtin; refine Kd.tp (Kd.slice 3 (Kd.int .i64)) (w0 := w) w.heap.size rfl (.tmp 30) (.tmp 32) 22 40 (.slice none 0 0) 24 rfl Tryz.underlying22 gM rfl (by decide) (by omega) u3 bg jE [.slice FV jE.length zV] (fun _ => True) (fun k_ => some k_ = (.slice FV jE.length zV : Value).ownBlock) rfl rfl ?aP (fun k_ gH => ((Kd.bD (ok' := fun k_ => ((fun _ => True)) k_ ∧ some k_ ≠ (u3 : Value).ownBlock) (Kd.cX (lN.out) (Kd.jq cW.out) (by decide)) (fun k_ hk => ⟨trivial, hk.2⟩))).1 k_ gH.symm) ?aF ?aO ?aB ?aS ?aL ?_; (case aP => exact Kd.BT (Kd.bD (Kd.jr rfl (Kd.bD (ok' := fun k_ => ((fun _ => True)) k_ ∧ some k_ ≠ (u3 : Value).ownBlock) (Kd.cX (lN.out) (Kd.jq cW.out) (by decide)) (fun k_ hk => ⟨trivial, hk.2⟩))) (fun _ h_ => h_))); (case aB => exact (mb HB.out)); (case aF => exact (fun _ _ => trivial)); (case aO => exact (Kd.cJ (gP cW.out) (fun k_ hk => ⟨trivial, fun e_ => hk e_⟩))); (case aS => exact (aC (mb HB.out))); (case aL => have := FQ.out; omega); intro v627 Ou ho hb hg bk; rw [← ai8.out] at ho; replace HB := am (hb); have ai9 := am (ho); clear cW; clear lN; clear ho hb hg bk))
      go_roundg k2
      case measure => have := dP.out; have := ft.out; omega
      case rel => exact ⟨(acE), (wrap64 (bj + 1)), dM, H', ⟨by have := dP.out; have := ft.out; omega⟩, ⟨gP ai9.out⟩, ⟨mb HB.out⟩⟩
     rw [if_pos c4] at H
     have iI := decide_eq_true c4
     clear c4
     replace H := fW H; obtain ⟨jR, H⟩ := H
     replace H := fW H; obtain ⟨hU, H⟩ := H
     replace H := fW H; obtain ⟨lO, H⟩ := H
     replace H := fW H; obtain ⟨oz, H⟩ := H
     replace H := np H; obtain ⟨acF, H⟩ := H
     replace H := br (jE ++ [rd (aJ l0 pG) bj]) (fun acG => (aw.l1 k2 l0 bg bj acG ((aJ l0 0).length : Int) bj (l0.length : Int) (wrap64 (pG + 1))) = some r) H; obtain ⟨acG, ai_, H⟩ := H
     have H' := Aside0.mk H
     clear H
     have acH : 0 ≤ (pG : Int) := bX
     have acI : pG < (l0.length : Int) := bX
     obtain ⟨ai', aqV, aqW, aqX, DG, LQ, LR⟩ := eO jt.out pG acH acI
     obtain rfl : ai7 = ai' := (by injection aqX)
     replace DG := (HB.out.cell (World.block_lt_of_cell? w _ DG)).trans DG
     have VA := Aside0.mk LR
     have aou := Aside0.mk LQ
     clear LR LQ
     replace acH := eq_true acH
     replace acI := eq_true acI
     have acJ : 0 ≤ (bj : Int) := bX
     have acK : bj < ((aJ l0 pG).length : Int) := bX
     obtain ⟨auv, aqY, DH⟩ := Kd.bi VA.out bj acJ acK
     cases aqY
     replace DH := (HB.out.cell (World.block_lt_of_cell? w _ DH)).trans DH
     replace acJ := eq_true acJ
     replace acK := eq_true acK
     go_wp2_with (first | ((with_reducible refine bC (b := .append) (xs := #[.tmp 19, .tmp 27]) rfl ?_); at_builtin; refine Kd.fV (Kd.int .i64) (w0 := w) w.heap.size rfl (.tmp 19) (.tmp 27) 40 3 (.int .i64 0) 8 rfl Tryz.underlying40 eT rfl (by decide) (by omega) u5 jE (rd (aJ l0 pG) bj) [.int .i64 (rd (aJ l0 pG) bj)] (fun _ => True) (fun _ => False) rfl rfl ?aP (fun _ hk => hk.elim) ?aF ?aO ?aB ?aS ?aL ?_; (case aP => exact rfl); (case aB => exact (mb HB.out)); (case aF => exact (fun _ _ => trivial)); (case aO => exact (ci lN.out)); (case aS => exact (aC (mb HB.out))); (case aL => have := acF.out; omega); intro v624 BZ ho hb hg bk; rw [← ai_.out] at ho; replace cW := am (Kd.Cp (ok := (fun _ => True)) (Kd.cJ (gP cW.out) (fun _ hk => ⟨trivial, hk⟩)) hg bk); replace HB := am (hb); have aja := am (ho); clear lN; clear ho hb hg bk))
     go_roundg k2
     case measure => have := dP.out; have := ft.out; omega
     case rel => exact ⟨(acG), (wrap64 (pG + 1)), dM, H', ⟨by have := dP.out; have := ft.out; omega⟩, ⟨Kd.cJ (gP cW.out) (fun _ hk => hk.2)⟩, ⟨ci aja.out⟩, ⟨mb HB.out⟩⟩
end Go.Proofs.YtggiicplcglalaaGreat.All
end
