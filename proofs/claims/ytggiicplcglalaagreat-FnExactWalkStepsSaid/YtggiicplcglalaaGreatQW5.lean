/- Part of the proof that FnExactWalkSteps answers true. -/
import Derived.Test.YtggiicplcglalaaGreatQW4
section
namespace Go.Proofs.YtggiicplcglalaaGreat.All
open Go.RowKit YtggiicplcglalaaGreatW.PrintWords YtggiicplcglalaaGreatW.PrintLast YtggiicplcglalaaGreatW.PrintMore
attribute [local go_sem] max2_int min2_int max_two min_two max_three min_three max_four min_four
set_option linter.unusedVariables false
set_option linter.unusedSimpArgs false
set_option maxHeartbeats 8000000
set_option maxRecDepth 100000
def b5.l0 : Nat → List (List Int) → List (List Int) → Int → Option (Bool)
 | 0, _, _, _ => none
 | k + 1, x0, x1, x5 => if x5 < (x0.length : Int) then (if 0 ≤ x5 then (if x5 < (x1.length : Int) then ((bp.f k (aJ x0 x5) (aJ x1 x5)).bind fun t132 => (if t132 = true then (b5.l0 k x0 x1 (wrap64 (x5 + 1))) else (some false))) else (none)) else (none)) else (some true)
def b5.f (k : Nat) (l0 : List (List Int)) (l1 : List (List Int)) : Option (Bool) := if (l0.length : Int) = (l1.length : Int) then (b5.l0 k l0 l1 0) else (some false)
theorem b5.bG : ∀ k, (∀ y0 y1 y2, bB (b5.l0 k y0 y1 y2) (b5.l0 (k + 1) y0 y1 y2))
 | 0 => fun _ _ _ r h => by simp [b5.l0] at h
 | k + 1 => by
  have eQ := b5.bG k
  ·intro y0 y1 y2
   unfold b5.l0
   repeat' first
   | (with_reducible exact eQ ..)
   | (with_reducible exact bp.mono ..)
   | (with_reducible exact bB.refl _)
   | (with_reducible exact bB.none _)
   | (with_reducible refine bB.ite ?_ ?_)
   | (with_reducible refine bB.bind ?_ (fun _ => ?_))
theorem b5.mono : ∀ a0 a1 k, bB (b5.f k a0 a1) (b5.f (k + 1) a0 a1) := by
 intro a0 a1 k
 have eQ := b5.bG k
 unfold b5.f
 repeat' first
   | (with_reducible exact eQ ..)
   | (with_reducible exact bp.mono ..)
   | (with_reducible exact bB.refl _)
   | (with_reducible exact bB.none _)
   | (with_reducible refine bB.ite ?_ ?_)
   | (with_reducible refine bB.bind ?_ (fun _ => ?_))
theorem b5.calls (k : Nat) (A0 : Option Addr) (c0 : Nat) (l0 : List (List Int)) (A1 : Option Addr) (c1 : Nat) (l1 : List (List Int)) (r : Bool) (w : World) (gD : Kd.C (Kd.slice 3 (Kd.int .i64)) w A0 l0.length l0) (hJ : l0.length ≤ c0) (nn : Kd.C (Kd.slice 3 (Kd.int .i64)) w A1 l1.length l1) (mN : l1.length ≤ c1) (h : b5.f k l0 l1 = some r) :
  Calls Tryz.prog 12 #[.slice A0 l0.length c0, .slice A1 l1.length c1] w fun e w' => e = .returned (.bool r) ∧ bM w w' := by
 have jt := Aside0.mk gD
 have wj := Aside0.mk hJ
 clear gD hJ
 have lz := Aside0.mk nn
 have Ag := Aside0.mk mN
 clear nn mN
 have H : (if (l0.length : Int) = (l1.length : Int) then (b5.l0 k l0 l1 0) else (some false)) = some r := h
 clear h
 by_cases c3 : (l0.length : Int) = (l1.length : Int)
 rotate_left
 ·rw [if_neg c3] at H
  have gX := iQ c3
  have qB := iR c3
  have IK : (l0.length == l1.length) = false := by first | simpa using c3 | (simp at c3 ⊢; omega)
  obtain rfl := Option.some.inj H
  go_enter Tryz.func12, Tryz.ntmps12
  go_wp2
  go_ret
  exact ⟨mL, mM⟩
 rw [if_pos c3] at H
 have gX := il c3
 have qB := im c3
 have IK : (l0.length == l1.length) = true := by first | simpa using c3 | (simp at c3 ⊢; omega)
 clear c3
 have H' := Aside0.mk H
 clear H
 go_enter Tryz.func12, Tryz.ntmps12
 go_wp2
 go_loopg [5] k (fun kq v5 w' => ∃ (aj : Int), v5 = .int .i64 aj ∧ Aside0 (b5.l0 kq l0 l1 aj = some r) ∧ Aside0 (kq ≤ k) ∧ bM w w')
 case atStart => exact ⟨(0), dM, H', ⟨Nat.le_refl _⟩, by repeat (first | exact bM.refl _ | apply bM.step)⟩
 case round =>
  clear H'
  obtain ⟨aj, rfl, HA, dP, ⟨m1, rfl⟩⟩ := hrel
  cases gk with
  | zero => exact absurd HA.out (by simp [b5.l0])
  | succ k1 =>
   have H := HA.out
   clear HA
   simp only [b5.l0] at H
   by_cases c4 : aj < (l0.length : Int)
   rotate_left
   ·rw [if_neg c4] at H
    have iI := decide_eq_false c4
    clear c4
    obtain rfl := Option.some.inj H
    go_wp2
    go_ret
    exact ⟨mL, mM⟩
   rw [if_pos c4] at H
   have iI := decide_eq_true c4
   clear c4
   replace H := fW H; obtain ⟨jR, H⟩ := H
   replace H := fW H; obtain ⟨hU, H⟩ := H
   replace H := bZ H; obtain ⟨t132, A7, H⟩ := H
   by_cases c8 : t132 = true
   rotate_left
   ·replace c8 := Bool.eq_false_iff.mpr c8
    subst c8
    replace H := sZ H
    obtain rfl := Option.some.inj H
    have J6 : 0 ≤ (aj : Int) := bX
    have J7 : aj < (l0.length : Int) := bX
    obtain ⟨alK, aeJ, aeK, aeL, Ws, vN, vO⟩ := eO jt.out aj J6 J7
    cases aeL
    have vP := Aside0.mk vO
    have vQ := Aside0.mk vN
    clear vO vN
    replace J6 := eq_true J6
    replace J7 := eq_true J7
    have J8 : 0 ≤ (aj : Int) := bX
    have J9 : aj < (l1.length : Int) := bX
    obtain ⟨alL, aeM, aeN, aeO, Wt, vR, vS⟩ := eO lz.out aj J8 J9
    cases aeO
    have vT := Aside0.mk vS
    have vU := Aside0.mk vR
    clear vS vR
    replace J8 := eq_true J8
    replace J9 := eq_true J9
    go_wp2_with (first | (go_at_call 50; (with_reducible refine (bp.calls k1 _ _ (aJ l0 aj) _ _ (aJ l1 aj) false _ ?aT ?aU ?ao ?ar A7.out).mono ?_); (case aT => exact fy vP.out); (case aU => exact vQ.out); (case ao => exact fy vT.out); (case ar => exact vU.out); rintro e w' ⟨rfl, ⟨nd, rfl⟩⟩; (try exact dD)))
    go_quiet (first | (go_at_call 50; (with_reducible refine (bp.calls k1 _ _ (aJ l0 aj) _ _ (aJ l1 aj) false _ ?aT ?aU ?ao ?ar A7.out).mono ?_); (case aT => exact fy vP.out); (case aU => exact vQ.out); (case ao => exact fy vT.out); (case ar => exact vU.out); rintro e w' ⟨rfl, ⟨nd, rfl⟩⟩; (try exact dD))); try go_wp2
    go_ret
    exact ⟨mL, mM⟩
   subst c8
   replace H := sY H
   have H' := Aside0.mk H
   clear H
   have J6 : 0 ≤ (aj : Int) := bX
   have J7 : aj < (l0.length : Int) := bX
   obtain ⟨alK, aeJ, aeK, aeL, Ws, vN, vO⟩ := eO jt.out aj J6 J7
   cases aeL
   have vP := Aside0.mk vO
   have vQ := Aside0.mk vN
   clear vO vN
   replace J6 := eq_true J6
   replace J7 := eq_true J7
   have J8 : 0 ≤ (aj : Int) := bX
   have J9 : aj < (l1.length : Int) := bX
   obtain ⟨alL, aeM, aeN, aeO, Wt, vR, vS⟩ := eO lz.out aj J8 J9
   cases aeO
   have vT := Aside0.mk vS
   have vU := Aside0.mk vR
   clear vS vR
   replace J8 := eq_true J8
   replace J9 := eq_true J9
   go_wp2_with (first | (go_at_call 50; (with_reducible refine (bp.calls k1 _ _ (aJ l0 aj) _ _ (aJ l1 aj) true _ ?aT ?aU ?ao ?ar A7.out).mono ?_); (case aT => exact fy vP.out); (case aU => exact vQ.out); (case ao => exact fy vT.out); (case ar => exact vU.out); rintro e w' ⟨rfl, ⟨nd, rfl⟩⟩; (try exact dD)))
   go_quiet (first | (go_at_call 50; (with_reducible refine (bp.calls k1 _ _ (aJ l0 aj) _ _ (aJ l1 aj) true _ ?aT ?aU ?ao ?ar A7.out).mono ?_); (case aT => exact fy vP.out); (case aU => exact vQ.out); (case ao => exact fy vT.out); (case ar => exact vU.out); rintro e w' ⟨rfl, ⟨nd, rfl⟩⟩; (try exact dD))); try go_wp2
   go_roundg k1
   case measure => have := dP.out; omega
   case rel => exact ⟨(wrap64 (aj + 1)), dM, H', ⟨by have := dP.out; omega⟩, by repeat (first | exact bM.refl _ | apply bM.step)⟩
def fQ.f (k : Nat) (aD : List (List Int)) (aG : List (List Int)) (rf : List (List Int)) (tX : List (List Int)) : Option (Bool) := (b5.f k aD rf).bind fun t135 => (if t135 = true then ((b5.f k aG tX).bind fun t136 => (if t136 = true then (some true) else (some false))) else (some false))
theorem fQ.mono : ∀ a0 a1 a2 a3 k, bB (fQ.f k a0 a1 a2 a3) (fQ.f (k + 1) a0 a1 a2 a3) := by
 intro a0 a1 a2 a3 k
 unfold fQ.f
 repeat' first
   | (with_reducible exact b5.mono ..)
   | (with_reducible exact bB.refl _)
   | (with_reducible exact bB.none _)
   | (with_reducible refine bB.ite ?_ ?_)
   | (with_reducible refine bB.bind ?_ (fun _ => ?_))
theorem fQ.calls (k : Nat) (ay : Option Addr) (ap : Nat) (aD : List (List Int)) (ae : Option Addr) (a8 : Nat) (aG : List (List Int)) (Gi : Option Addr) (Gj : Nat) (rf : List (List Int)) (J_ : Option Addr) (Ja : Nat) (tX : List (List Int)) (r : Bool) (w : World) (db : Kd.C (Kd.slice 3 (Kd.int .i64)) w ay aD.length aD) (dc : aD.length ≤ ap) (dH : Kd.C (Kd.slice 3 (Kd.int .i64)) w ae aG.length aG) (dI : aG.length ≤ a8) (ZZ : Kd.C (Kd.slice 3 (Kd.int .i64)) w Gi rf.length rf) (Z0 : rf.length ≤ Gj) (Z1 : Kd.C (Kd.slice 3 (Kd.int .i64)) w J_ tX.length tX) (Z2 : tX.length ≤ Ja) (h : fQ.f k aD aG rf tX = some r) :
  Calls Tryz.prog 13 #[.agg #[.slice ay aD.length ap, .slice ae aG.length a8], .agg #[.slice Gi rf.length Gj, .slice J_ tX.length Ja]] w fun e w' => e = .returned (.bool r) ∧ Below w.heap.size w w' := by
 have rD := Tryz.underlying28
 have bl := Aside0.mk db
 have bz := Aside0.mk dc
 clear db dc
 have bx := Aside0.mk dH
 have cE := Aside0.mk dI
 clear dH dI
 have Sh := Aside0.mk ZZ
 have Si := Aside0.mk Z0
 clear ZZ Z0
 have Z3 := Aside0.mk Z1
 have Z4 := Aside0.mk Z2
 clear Z1 Z2
 have HB := Aside0.mk (Below.refl w.heap.size w)
 have H : ((b5.f k aD rf).bind fun t135 => (if t135 = true then ((b5.f k aG tX).bind fun t136 => (if t136 = true then (some true) else (some false))) else (some false))) = some r := h
 clear h
 replace H := bZ H; obtain ⟨t135, A3, H⟩ := H
 by_cases c4 : t135 = true
 rotate_left
 ·replace c4 := Bool.eq_false_iff.mpr c4
  subst c4
  replace H := sZ H
  obtain rfl := Option.some.inj H
  go_enter Tryz.func13, Tryz.ntmps13
  go_wp2_with (first | ((with_reducible refine ah (N := 2) rfl ?_); refine bE 2 #[.slice ay aD.length ap, .slice ae aG.length a8] 28 ?_; intro oZ hg T6 bO hb; have iu := am (bO); have Gk := gW HB hg; have Z5 := Gk; replace HB := bS HB hb; clear hb bO hg) | ((with_reducible refine ah (N := 3) rfl ?_); refine bE 3 #[.slice Gi rf.length Gj, .slice J_ tX.length Ja] 28 ?_; intro xQ hg Ow bO hb; have o2 := am (bO); have Gl := gW HB hg; have Z6 := Gl; replace HB := bS HB hb; have pU := am ((by rw [hg]; exact Nat.ne_of_lt (d_ (g := oZ) (o := .cells #[.slice ay aD.length ap, .slice ae aG.length a8] 28 (0, 0)) (ct iu.out)) : oZ ≠ xQ)); have pV := am ((by rw [hg]; exact Nat.ne_of_gt (d_ (g := oZ) (o := .cells #[.slice ay aD.length ap, .slice ae aG.length a8] 28 (0, 0)) (ct iu.out)) : xQ ≠ oZ)); replace iu := kS iu hb; clear hb bO hg; have ahm := pU.out; have ahn := pV.out; have KK := cG iu.out; have KL := cR iu.out; have KM := aH iu.out 0; have KN := aH iu.out 1; have Vb := cG o2.out; have Vc := cR o2.out; have Vd := aH o2.out 0; have Ve := aH o2.out 1) | ((with_reducible refine gC 12 rfl ?_); refine gL 9 Tryz.func12 #[.slice ay aD.length ap, .slice Gi rf.length Gj] ?_; (with_reducible refine (b5.calls k _ _ aD _ _ rf false _ ?aT ?aU ?ao ?ar A3.out).mono ?_); (case aT => exact cB bl HB); (case aU => exact bz.out); (case ao => exact cB Sh HB); (case ar => exact Si.out); rintro e w' ⟨rfl, ⟨nd, rfl⟩⟩; refine ⟨_, rfl, ?_⟩))
  go_ret
  exact ⟨jC, mb HB.out⟩
 subst c4
 replace H := sY H
 replace H := bZ H; obtain ⟨t136, A5, H⟩ := H
 by_cases c6 : t136 = true
 ·subst c6
  replace H := sY H
  obtain rfl := Option.some.inj H
  go_enter Tryz.func13, Tryz.ntmps13
  go_wp2_with (first | ((with_reducible refine ah (N := 2) rfl ?_); refine bE 2 #[.slice ay aD.length ap, .slice ae aG.length a8] 28 ?_; intro oZ hg w7 bO hb; have iu := am (bO); have Gk := gW HB hg; have Z5 := Gk; replace HB := bS HB hb; clear hb bO hg) | ((with_reducible refine ah (N := 3) rfl ?_); refine bE 3 #[.slice Gi rf.length Gj, .slice J_ tX.length Ja] 28 ?_; intro xQ hg w8 bO hb; have o2 := am (bO); have Gl := gW HB hg; have Z6 := Gl; replace HB := bS HB hb; have pU := am ((by rw [hg]; exact Nat.ne_of_lt (d_ (g := oZ) (o := .cells #[.slice ay aD.length ap, .slice ae aG.length a8] 28 (0, 0)) (ct iu.out)) : oZ ≠ xQ)); have pV := am ((by rw [hg]; exact Nat.ne_of_gt (d_ (g := oZ) (o := .cells #[.slice ay aD.length ap, .slice ae aG.length a8] 28 (0, 0)) (ct iu.out)) : xQ ≠ oZ)); replace iu := kS iu hb; clear hb bO hg; have apU := pU.out; have apV := pV.out; have KT := cG iu.out; have KU := cR iu.out; have KV := aH iu.out 0; have KW := aH iu.out 1; have L7 := cG o2.out; have L8 := cR o2.out; have L9 := aH o2.out 0; have L_ := aH o2.out 1) | ((with_reducible refine gC 12 rfl ?_); refine gL 9 Tryz.func12 #[.slice ay aD.length ap, .slice Gi rf.length Gj] ?_; (with_reducible refine (b5.calls k _ _ aD _ _ rf true _ ?aT ?aU ?ao ?ar A3.out).mono ?_); (case aT => exact cB bl HB); (case aU => exact bz.out); (case ao => exact cB Sh HB); (case ar => exact Si.out); rintro e w' ⟨rfl, ⟨nd, rfl⟩⟩; refine ⟨_, rfl, ?_⟩) | ((with_reducible refine gC 12 rfl ?_); refine gL 15 Tryz.func12 #[.slice ae aG.length a8, .slice J_ tX.length Ja] ?_; (with_reducible refine (b5.calls k _ _ aG _ _ tX true _ ?aT ?aU ?ao ?ar A5.out).mono ?_); (case aT => exact fy (Kd.bh bx.out (mb HB.out))); (case aU => exact cE.out); (case ao => exact fy (Kd.bh Z3.out (mb HB.out))); (case ar => exact Z4.out); rintro e w' ⟨rfl, ⟨nd, rfl⟩⟩; refine ⟨_, rfl, ?_⟩))
  go_ret
  exact ⟨jC, mb HB.out⟩
 replace c6 := Bool.eq_false_iff.mpr c6
 subst c6
 replace H := sZ H
 obtain rfl := Option.some.inj H
 go_enter Tryz.func13, Tryz.ntmps13
 go_wp2_with (first | ((with_reducible refine ah (N := 2) rfl ?_); refine bE 2 #[.slice ay aD.length ap, .slice ae aG.length a8] 28 ?_; intro oZ hg Ou bO hb; have iu := am (bO); have Gk := gW HB hg; have Z5 := Gk; replace HB := bS HB hb; clear hb bO hg) | ((with_reducible refine ah (N := 3) rfl ?_); refine bE 3 #[.slice Gi rf.length Gj, .slice J_ tX.length Ja] 28 ?_; intro xQ hg E2 bO hb; have o2 := am (bO); have Gl := gW HB hg; have Z6 := Gl; replace HB := bS HB hb; have pU := am ((by rw [hg]; exact Nat.ne_of_lt (d_ (g := oZ) (o := .cells #[.slice ay aD.length ap, .slice ae aG.length a8] 28 (0, 0)) (ct iu.out)) : oZ ≠ xQ)); have pV := am ((by rw [hg]; exact Nat.ne_of_gt (d_ (g := oZ) (o := .cells #[.slice ay aD.length ap, .slice ae aG.length a8] 28 (0, 0)) (ct iu.out)) : xQ ≠ oZ)); replace iu := kS iu hb; clear hb bO hg; have ahp := pU.out; have ahq := pV.out; have UG := cG iu.out; have UH := cR iu.out; have UI := aH iu.out 0; have UJ := aH iu.out 1; have yQ := cG o2.out; have yR := cR o2.out; have yS := aH o2.out 0; have yT := aH o2.out 1) | ((with_reducible refine gC 12 rfl ?_); refine gL 9 Tryz.func12 #[.slice ay aD.length ap, .slice Gi rf.length Gj] ?_; (with_reducible refine (b5.calls k _ _ aD _ _ rf true _ ?aT ?aU ?ao ?ar A3.out).mono ?_); (case aT => exact cB bl HB); (case aU => exact bz.out); (case ao => exact cB Sh HB); (case ar => exact Si.out); rintro e w' ⟨rfl, ⟨nd, rfl⟩⟩; refine ⟨_, rfl, ?_⟩) | ((with_reducible refine gC 12 rfl ?_); refine gL 15 Tryz.func12 #[.slice ae aG.length a8, .slice J_ tX.length Ja] ?_; (with_reducible refine (b5.calls k _ _ aG _ _ tX false _ ?aT ?aU ?ao ?ar A5.out).mono ?_); (case aT => exact fy (Kd.bh bx.out (mb HB.out))); (case aU => exact cE.out); (case ao => exact fy (Kd.bh Z3.out (mb HB.out))); (case ar => exact Z4.out); rintro e w' ⟨rfl, ⟨nd, rfl⟩⟩; refine ⟨_, rfl, ?_⟩))
 go_ret
 exact ⟨jC, mb HB.out⟩
def wY (w : World) (A0 : Option Addr) (j : Nat) : Value := (A0.bind fun ad => w.cell? (ad.add j)).getD (.bool false)
theorem py {w : World} {A0 : Option Addr} {xs : List (List Int)} (h : Kd.C (Kd.slice 3 (Kd.int .i64)) w A0 xs.length xs) : oW w A0 (wY w A0) xs.length ∧ ∀ j, j < xs.length → ∃ A c, wY w A0 j = .slice A (xs.getD j []).length c ∧ (xs.getD j []).length ≤ c ∧ Kd.C (Kd.int .i64) w A (xs.getD j []).length (xs.getD j []) := by
 have key : ∀ j, j < xs.length → ∃ ad A c, A0 = some ad ∧ w.cell? (ad.add j) = some (.slice A (xs.getD j []).length c) ∧ (xs.getD j []).length ≤ c ∧ Kd.C (Kd.int .i64) w A (xs.getD j []).length (xs.getD j []) := by
  intro j hj
  obtain ⟨ad, cs, e, _, hK, hc⟩ := Kd.wb h ([] : List Int) (j : Int) (by omega) (by omega)
  obtain ⟨A, c, rfl, hl, hr⟩ := hK
  refine ⟨ad, A, c, e, ?_, hl, hr⟩
  have := hc 0 _ rfl
  rwa [show (Kd.slice 3 (Kd.int .i64)).sz = 1 from rfl, Nat.mul_one, Nat.add_zero] at this
 constructor
 ·intro j hj
  obtain ⟨ad, A, c, rfl, hx, _⟩ := key j hj
  exact ⟨ad, rfl, by simp [wY, hx]⟩
 ·intro j hj
  obtain ⟨ad, A, c, rfl, hx, hl, hr⟩ := key j hj
  exact ⟨A, c, by simp [wY, hx], hl, hr⟩
set_option maxHeartbeats 4000000 in
set_option maxRecDepth 100000 in
theorem Jb (g : Nat) (lb : Array Value) (eg : ∀ args w, (callFunc g args).run Tryz.prog w = .ok (.enter g args) w) (v : Nat → Value) (q : Nat → Bool) (A0 : Option Addr) (n c : Nat) (w : World)
  (hp : nG g lb v q n w) (hn : n ≤ 9223372036854775807) (hc : oW w A0 v n) :
  Calls Tryz.prog 143 #[.slice A0 n c, .func (.func g) #[] lb] w fun e w' => e = .returned (.int .i64 (iB q n 0)) ∧ Below w.heap.size w w' := by
 have yn : ∀ (W : World), Below w.heap.size w W → oW W A0 v n := fun W hW j hj => by
  obtain ⟨ad, e, hx⟩ := hc j hj
  exact ⟨ad, e, o5 hW hx⟩
 have HP := Aside0.mk hp
 have HR := Aside0.mk yn
 have HN := Aside0.mk hn
 clear hc hp yn hn
 go_enter Tryz.func143, Tryz.ntmps143
 go_wp2
 go_loopg [5, 8] n (fun gg _ s8 wr => ∃ kk : Nat, kk ≤ n ∧ n - kk ≤ gg ∧ s8 = .int .i64 kk ∧ Aside0 (Below w.heap.size w wr) ∧ Aside0 (∀ j, j < kk → q j = false))
 case atStart => exact ⟨0, Nat.zero_le _, by omega, rfl, ⟨Below.refl _ w⟩, ⟨fun j hj => absurd hj (Nat.not_lt_zero _)⟩⟩
 case round =>
  obtain ⟨kk, hkk, hg, rfl, BW, A⟩ := hrel
  have Yw := HN.out
  by_cases gS : kk < n
  rotate_left
  ·have Oc : ¬ (kk : Int) < (n : Int) := by omega
   have : kk = n := by omega
   subst this
   go_wp2
   go_ret
   refine ⟨?_, BW.out⟩
   rw [nA q kk 0 (fun m _ h => A.out m (by omega))]
   rfl
  have Oc : (kk : Int) < (n : Int) := by omega
  obtain ⟨ad, ea, l2⟩ := HR.out wr BW.out kk gS
  cases ea
  have ii := HP.out kk gS wr BW.out
  generalize hy : v kk = y at l2 ii
  clear hy
  cases hq : q kk with
  | true =>
   rw [hq] at ii
   have HQ := Aside0.mk hq
   clear hq
   go_wp2_with (go_at_fn g; refine ii.mono ?_; rintro e w' ⟨rfl, sh⟩)
   go_ret
   refine ⟨?_, sh⟩
   rw [oV q kk HQ.out n 0 (Nat.zero_le _) (by omega) (fun m _ h => A.out m h)]
   rfl
  | false =>
   rw [hq] at ii
   have HQ := Aside0.mk hq
   clear hq
   go_wp2_with (go_at_fn g; refine ii.mono ?_; rintro e w' ⟨rfl, sh⟩)
   go_roundg (n - (kk + 1))
   case measure => omega
   case rel =>
    refine ⟨kk + 1, by omega, by omega, by go_num, ⟨sh⟩, ⟨fun j hj => ?_⟩⟩
    by_cases e : j = kk
    ·subst e; exact HQ.out
    exact A.out j (by omega)
theorem xR (q : Nat → Bool) : ∀ d i, decide (0 ≤ iB q d i) = (List.range' i d).any q
 | 0, i => by simp [iB]
 | d + 1, i => by
  unfold iB
  rw [List.range'_succ, List.any_cons]
  cases h : q i with
  | true => simp
  | false => simp [xR q d (i + 1)]
set_option maxHeartbeats 4000000 in
set_option maxRecDepth 100000 in
theorem si (g : Nat) (lb : Array Value) (eg : ∀ args w, (callFunc g args).run Tryz.prog w = .ok (.enter g args) w) (v : Nat → Value) (q : Nat → Bool) (A0 : Option Addr) (n c : Nat) (w : World)
  (hp : nG g lb v q n w) (hn : n ≤ 9223372036854775807) (hc : oW w A0 v n) :
  Calls Tryz.prog 86 #[.slice A0 n c, .func (.func g) #[] lb] w fun e w' => e = .returned (.bool ((List.range' 0 n).any q)) ∧ Below w.heap.size w w' := by
 have h1 := Jb g lb eg v q A0 n c w hp hn hc
 have HE := Aside0.mk (xR q n 0)
 clear hp hc
 go_enter Tryz.func86, Tryz.ntmps86
 go_wp2_with (go_at_call 143; refine h1.mono ?_; rintro e w' ⟨rfl, sh⟩)
 go_ret
 refine ⟨?_, sh⟩
 rw [← HE.out]
 rfl
def gz.f (a0 : Int) (a1 : Int) (a2 : Int) : Option (Bool) := if a1 ≤ a0 then (some (decide (a0 ≤ a2))) else (some false)
theorem gz.calls (a0 : Int) (a1 : Int) (a2 : Int) (r : Bool) (w : World) (h : gz.f a0 a1 a2 = some r) :
  Calls Tryz.prog 99 #[.int .i64 a0, .int .i64 a1, .int .i64 a2] w fun e w' => e = .returned (.bool r) ∧ bM w w' := by
 have H : (if a1 ≤ a0 then (some (decide (a0 ≤ a2))) else (some false)) = some r := h
 clear h
 by_cases c4 : a1 ≤ a0
 ·rw [if_pos c4] at H
  have iI := decide_eq_true c4
  clear c4
  obtain rfl := Option.some.inj H
  go_enter Tryz.func99, Tryz.ntmps99
  go_wp2
  go_ret
  exact ⟨mL, mM⟩
 rw [if_neg c4] at H
 have iI := decide_eq_false c4
 clear c4
 obtain rfl := Option.some.inj H
 go_enter Tryz.func99, Tryz.ntmps99
 go_wp2
 go_ret
 exact ⟨mL, mM⟩
def qu (lo hi x : Int) : Bool := decide (lo ≤ x) && decide (x ≤ hi)
theorem Gm (x lo hi : Int) : gz.f x lo hi = some (qu lo hi x) := by
 unfold gz.f qu
 by_cases h : lo ≤ x <;> simp [h]
def DZ (lo hi : Int) (l : List Int) : Bool := (List.range' 0 l.length).any fun j => !qu lo hi (l.getD j 0)
set_option maxHeartbeats 4000000 in
set_option maxRecDepth 100000 in
theorem zA (g : Nat) (lb : Array Value) (eg : ∀ args w, (callFunc g args).run Tryz.prog w = .ok (.enter g args) w) (v : Nat → Value) (q : Nat → Bool) (A0 : Option Addr) (n c : Nat) (w : World)
  (hp : nG g lb v q n w) (hn : n ≤ 9223372036854775807) (hc : oW w A0 v n) :
  Calls Tryz.prog 177 #[.slice A0 n c, .func (.func g) #[] lb] w fun e w' => e = .returned (.int .i64 (iB q n 0)) ∧ Below w.heap.size w w' := by
 have yn : ∀ (W : World), Below w.heap.size w W → oW W A0 v n := fun W hW j hj => by
  obtain ⟨ad, e, hx⟩ := hc j hj
  exact ⟨ad, e, o5 hW hx⟩
 have HP := Aside0.mk hp
 have HR := Aside0.mk yn
 have HN := Aside0.mk hn
 clear hc hp yn hn
 go_enter Tryz.func177, Tryz.ntmps177
 go_wp2
 go_loopg [5, 8] n (fun gg _ s8 wr => ∃ kk : Nat, kk ≤ n ∧ n - kk ≤ gg ∧ s8 = .int .i64 kk ∧ Aside0 (Below w.heap.size w wr) ∧ Aside0 (∀ j, j < kk → q j = false))
 case atStart => exact ⟨0, Nat.zero_le _, by omega, rfl, ⟨Below.refl _ w⟩, ⟨fun j hj => absurd hj (Nat.not_lt_zero _)⟩⟩
 case round =>
  obtain ⟨kk, hkk, hg, rfl, BW, A⟩ := hrel
  have Yw := HN.out
  by_cases gS : kk < n
  rotate_left
  ·have Oc : ¬ (kk : Int) < (n : Int) := by omega
   have : kk = n := by omega
   subst this
   go_wp2
   go_ret
   refine ⟨?_, BW.out⟩
   rw [nA q kk 0 (fun m _ h => A.out m (by omega))]
   rfl
  have Oc : (kk : Int) < (n : Int) := by omega
  obtain ⟨ad, ea, l2⟩ := HR.out wr BW.out kk gS
  cases ea
  have ii := HP.out kk gS wr BW.out
  generalize hy : v kk = y at l2 ii
  clear hy
  cases hq : q kk with
  | true =>
   rw [hq] at ii
   have HQ := Aside0.mk hq
   clear hq
   go_wp2_with (go_at_fn g; refine ii.mono ?_; rintro e w' ⟨rfl, sh⟩)
   go_ret
   refine ⟨?_, sh⟩
   rw [oV q kk HQ.out n 0 (Nat.zero_le _) (by omega) (fun m _ h => A.out m h)]
   rfl
  | false =>
   rw [hq] at ii
   have HQ := Aside0.mk hq
   clear hq
   go_wp2_with (go_at_fn g; refine ii.mono ?_; rintro e w' ⟨rfl, sh⟩)
   go_roundg (n - (kk + 1))
   case measure => omega
   case rel =>
    refine ⟨kk + 1, by omega, by omega, by go_num, ⟨sh⟩, ⟨fun j hj => ?_⟩⟩
    by_cases e : j = kk
    ·subst e; exact HQ.out
    exact A.out j (by omega)
theorem xS (q : Nat → Bool) : ∀ d i, decide (0 ≤ iB q d i) = (List.range' i d).any q
 | 0, i => by simp [iB]
 | d + 1, i => by
  unfold iB
  rw [List.range'_succ, List.any_cons]
  cases h : q i with
  | true => simp
  | false => simp [xS q d (i + 1)]
set_option maxHeartbeats 4000000 in
set_option maxRecDepth 100000 in
theorem sl (g : Nat) (lb : Array Value) (eg : ∀ args w, (callFunc g args).run Tryz.prog w = .ok (.enter g args) w) (v : Nat → Value) (q : Nat → Bool) (A0 : Option Addr) (n c : Nat) (w : World)
  (hp : nG g lb v q n w) (hn : n ≤ 9223372036854775807) (hc : oW w A0 v n) :
  Calls Tryz.prog 149 #[.slice A0 n c, .func (.func g) #[] lb] w fun e w' => e = .returned (.bool ((List.range' 0 n).any q)) ∧ Below w.heap.size w w' := by
 have h1 := zA g lb eg v q A0 n c w hp hn hc
 have HE := Aside0.mk (xS q n 0)
 clear hp hc
 go_enter Tryz.func149, Tryz.ntmps149
 go_wp2_with (go_at_call 177; refine h1.mono ?_; rintro e w' ⟨rfl, sh⟩)
 go_ret
 refine ⟨?_, sh⟩
 rw [← HE.out]
 rfl
def jy.f (a0 : Int) : Option (Bool) := (gz.f a0 (-9) 9).bind fun t137 => (some (!t137))
theorem jy.calls (a0 : Int) (r : Bool) (w : World) (h : jy.f a0 = some r) :
  Calls Tryz.prog 153 #[.int .i64 a0] w fun e w' => e = .returned (.bool r) ∧ bM w w' := by
 have H : ((gz.f a0 (-9) 9).bind fun t137 => (some (!t137))) = some r := h
 clear h
 replace H := bZ H; obtain ⟨t137, A2, H⟩ := H
 obtain rfl := Option.some.inj H
 go_enter Tryz.func153, Tryz.ntmps153
 go_wp2_with (first | ((with_reducible refine gC 99 rfl ?_); refine gL 4 Tryz.func99 #[.int .i64 a0, .int .i64 (-9), .int .i64 9] ?_; (with_reducible refine (gz.calls a0 (-9) 9 t137 _ A2.out).mono ?_); rintro e w' ⟨rfl, ⟨nd, rfl⟩⟩; refine ⟨_, rfl, ?_⟩))
 go_ret
 exact ⟨mL, mM⟩
theorem Dz (l : List Int) (w : World) : nG 153 #[] (fun j => .int .i64 (l.getD j 0)) (fun j => !qu (-9) 9 (l.getD j 0)) l.length w := by
 intro j hj W hb
 refine (jy.calls (l.getD j 0) (!qu (-9) 9 (l.getD j 0)) W (by unfold jy.f; rw [Gm]; rfl)).mono ?_
 rintro e w' ⟨rfl, ⟨m, rfl⟩⟩
 exact ⟨rfl, dN hb _⟩
def q6 (n : Nat) (row : List Int) : Bool := ((row.length : Int) != (n : Int)) || DZ (-9) 9 row
def wK (n : Nat) (l : List (List Int)) : Bool := (List.range' 0 l.length).any fun j => q6 n (l.getD j [])
def dw.f (l0 : List (List Int)) : Option Bool := if qu 1 3 (l0.length : Int) = true then (if qu 1 3 ((l0.getD 0 []).length : Int) = true then some (!wK (l0.getD 0 []).length l0) else some false) else some false
set_option maxHeartbeats 4000000 in
theorem BO (C : Nat) (A0 : Option Addr) (c0 : Nat) (l : List (List Int)) (w : World) (Iw : 0 < l.length) (hC : C < w.heap.size) (hc : w.cell? ⟨C, 0, none⟩ = some (.slice A0 l.length c0)) (hr : Kd.C (Kd.slice 3 (Kd.int .i64)) w A0 l.length l) :
  nG 152 #[.pointer (some ⟨C, 0, none⟩)] (wY w A0) (fun j => q6 (l.getD 0 []).length (l.getD j [])) l.length w := by
 intro j hj W hbl
 obtain ⟨A, c, ev, hl, hcr⟩ := (py hr).2 j hj
 obtain ⟨A', c', ev', E1, alM⟩ := (py hr).2 0 Iw
 obtain ⟨ad, hA, hx⟩ := (py hr).1 0 Iw
 subst hA
 rw [ev', Addr.add_zero'] at hx
 have Fy := hx
 replace hx := (hbl.cell (p := ad) (World.block_lt_of_cell? w _ hx)).trans hx
 show Calls Tryz.prog 152 #[wY w (some ad) j, .pointer (some ⟨C, 0, none⟩)] W (fun e w' => e = .returned (.bool (q6 (l.getD 0 []).length (l.getD j []))) ∧ Below w.heap.size w w')
 rw [ev]
 have KD : W.cell? ⟨C, 0, none⟩ = some (.slice (some ad) l.length c0) := (hbl.cell (p := ⟨C, 0, none⟩) hC).trans hc
 have alN := Kd.bh hcr hbl
 have hcf := sl 153 #[] (enters_of Tryz.func153 (by kernel_rfl) rfl) _ _ A (l.getD j []).length c W (Dz (l.getD j []) W) hcr.2.1 (B4 alN)
 have HCF := Aside0.mk hcf
 have HB := Aside0.mk hbl
 clear hcf hbl hc hcr hr hl ev alN hC ev' E1 alM
 generalize l.getD j [] = x at HCF ⊢
 generalize l.getD 0 [] = y at hx ⊢
 have g0 : decide ((0 : Int) < (l.length : Int)) = true := decide_eq_true (by omega)
 unfold q6 DZ
 by_cases e1 : (x.length : Int) = (y.length : Int)
 rotate_left
 ·have f1 : ((x.length : Int) != (y.length : Int)) = true := bne_iff_ne.mpr e1
  have f2 : ((x.length : Int) == (y.length : Int)) = false := beq_eq_false_iff_ne.mpr e1
  clear e1
  rw [f1]
  go_enter Tryz.func152, Tryz.ntmps152
  go_wp2
  go_ret
  exact ⟨rfl, HB.out⟩
 have f1 : ((x.length : Int) != (y.length : Int)) = false := bne_eq_false_iff_eq.mpr e1
 have f2 : ((x.length : Int) == (y.length : Int)) = true := beq_iff_eq.mpr e1
 clear e1
 rw [f1]
 generalize (List.range' 0 x.length).any (fun j => !qu (-9) 9 (x.getD j 0)) = r at HCF ⊢
 go_enter Tryz.func152, Tryz.ntmps152
 go_wp2_with (go_at_call 149; refine HCF.out.mono ?_; rintro e w2 ⟨rfl, h2⟩; have HB2 := Aside0.mk (HB.out.trans (h2.mono HB.out.size)); clear h2)
 go_ret
 exact ⟨rfl, HB2.out⟩
theorem dw.calls (A0 : Option Addr) (c0 : Nat) (l0 : List (List Int)) (r : Bool) (w : World) (gD : Kd.C (Kd.slice 3 (Kd.int .i64)) w A0 l0.length l0) (hJ : l0.length ≤ c0) (h : dw.f l0 = some r) :
  Calls Tryz.prog 106 #[.slice A0 l0.length c0] w fun e w' => e = .returned (.bool r) ∧ Below w.heap.size w w' := by
 unfold dw.f at h
 cases e1 : qu 1 3 (l0.length : Int) with
 | false =>
  rw [e1, if_neg (by decide)] at h
  obtain rfl := Option.some.inj h
  have lS := Aside0.mk ((Gm (l0.length : Int) 1 3).trans (by rw [e1]))
  clear h gD hJ e1
  go_enter Tryz.func106, Tryz.ntmps106
  go_wp2_with (go_at_call 99; (with_reducible refine (gz.calls _ 1 3 false _ lS.out).mono ?_); rintro e w' ⟨rfl, ⟨nd, rfl⟩⟩)
  go_ret
  exact ⟨rfl, dN ((Below.refl _ w).alloc (Nat.le_refl _) _) _⟩
 | true =>
  rw [e1, if_pos rfl] at h
  have lS := Aside0.mk ((Gm (l0.length : Int) 1 3).trans (by rw [e1]))
  have Iw : 0 < l0.length := by unfold qu at e1; simp at e1; omega
  obtain ⟨A', c', ev', E1, alM⟩ := (py gD).2 0 Iw
  obtain ⟨ad, hA, hx⟩ := (py gD).1 0 Iw
  subst hA
  rw [ev', Addr.add_zero'] at hx
  have gS : ad.block < w.heap.size := World.block_lt_of_cell? w _ hx
  have g0 : decide ((0 : Int) < (l0.length : Int)) = true := decide_eq_true (by omega)
  cases e2 : qu 1 3 ((l0.getD 0 []).length : Int) with
  | false =>
   rw [e2, if_neg (by decide)] at h
   obtain rfl := Option.some.inj h
   have Sj := Aside0.mk ((Gm ((l0.getD 0 []).length : Int) 1 3).trans (by rw [e2]))
   clear h gD hJ e1 e2
   generalize l0.getD 0 [] = y at hx Sj
   go_enter Tryz.func106, Tryz.ntmps106
   go_wp2_with (first
       | (go_at_call 99; (with_reducible refine (gz.calls (l0.length : Int) 1 3 true _ lS.out).mono ?_); rintro e w' ⟨rfl, ⟨nd, rfl⟩⟩)
       | (go_at_call 99; (with_reducible refine (gz.calls _ 1 3 false _ Sj.out).mono ?_); rintro e w' ⟨rfl, ⟨nd2, rfl⟩⟩))
   go_ret
   exact ⟨rfl, dN ((Below.refl _ w).alloc (Nat.le_refl _) _) _⟩
  | true =>
   rw [e2, if_pos rfl] at h
   obtain rfl := Option.some.inj h
   have Sj := Aside0.mk ((Gm ((l0.getD 0 []).length : Int) 1 3).trans (by rw [e2]))
   have hcf := fun (W2 : World) (h2 : Below w.heap.size w W2) (hs : w.heap.size < W2.heap.size) (hb : W2.cell? ⟨w.heap.size, 0, none⟩ = some (.slice (some ad) l0.length c0)) =>
    si 152 #[.pointer (some ⟨w.heap.size, 0, none⟩)] (enters_of Tryz.func152 (by kernel_rfl) rfl) _ _ (some ad) l0.length c0 W2 (BO w.heap.size (some ad) c0 l0 W2 Iw hs hb (Kd.bh gD h2)) gD.2.1 (py (Kd.bh gD h2)).1
   have HCF := Aside0.mk hcf
   clear hcf gD hJ e1 e2 h
   unfold wK
   generalize (List.range' 0 l0.length).any (fun j => q6 (l0.getD 0 []).length (l0.getD j [])) = r at HCF ⊢
   generalize l0.getD 0 [] = y at hx Sj
   go_enter Tryz.func106, Tryz.ntmps106
   go_wp2_with (first
       | (go_at_call 99; (with_reducible refine (gz.calls (l0.length : Int) 1 3 true _ lS.out).mono ?_); rintro e w' ⟨rfl, ⟨nd, rfl⟩⟩)
       | (go_at_call 99; (with_reducible refine (gz.calls _ 1 3 true _ Sj.out).mono ?_); rintro e w' ⟨rfl, ⟨nd2, rfl⟩⟩)
       | (go_at_call 86; refine (HCF.out _ (dN ((Below.refl _ w).alloc (Nat.le_refl _) _) _) (by simp) (by simp)).mono ?_; rintro e w2 ⟨rfl, h2⟩; have HB2 := Aside0.mk ((dN ((Below.refl _ w).alloc (Nat.le_refl _) _) _).trans (h2.mono (by simp))); clear h2))
   go_ret
   exact ⟨rfl, HB2.out⟩
def cq.f (aD : List (List Int)) (aG : List (List Int)) : Option (Bool) := (dw.f aD).bind fun t139 => (if t139 = true then ((dw.f aG).bind fun t140 => (if t140 = true then (if (aD.length : Int) = (aG.length : Int) then (if 0 < (aD.length : Int) then (if 0 < (aG.length : Int) then (some (((aJ aD 0).length : Int) == ((aJ aG 0).length : Int))) else (none)) else (none)) else (some false)) else (some false))) else (some false))
def cq.T1 : Bool × List (List Nat × List Nat) := (true, [([], []), ([0], [0]), ([1], [1]), ([2, 2], [2]), ([3], [3]), ([4, 3], [3, 4]), ([5, 3, 3], [3, 5]), ([3, 6], [3, 6]), ([7, 6], [7]), ([8], [8]), ([9, 8], [8, 9]), ([10, 8], [8, 10]), ([8], [8]), ([12, 8], [8, 12]), ([13, 8], [8, 13]), ([11, 14, 8], [8, 11, 14]), ([8, 15], [8, 15]), ([16, 8], [16]), ([17], [17]), ([18, 17], [17, 18]), ([19, 17], [17, 19]), ([20, 17], [17, 20]), ([21, 17], [17, 21]), ([17], [17]), ([23, 17], [17, 23]), ([24, 17], [17, 24]), ([25, 17], [17, 25]), ([26, 17], [17, 26]), ([22, 27, 17], [17, 22, 27]), ([17, 28], [17, 28]), ([29, 17, 0, 1, 2, 3, 4, 5, 6, 7, 8, 9, 10, 11, 12, 13, 14, 15, 16, 17, 18, 19, 20, 21, 22, 23, 24, 25, 26, 27, 28, 29], [29])])
def cq.B1 : List Nat := [0, 1, 3, 7, 15, 31, 63, 127, 255, 511, 1023, 2047, 511, 4607, 12799, 32767, 65535, 131071, 262143, 524287, 1048575, 2097151, 4194303, 262143, 8650751, 25427967, 58982399, 126091263, 268435455, 536870911, 1073741823]
theorem cq.mc : fh .any (opsOf Tryz.f62 1) = cq.T1 := by kernel_rfl
theorem cq.jY : fG cq.T1.2 cq.B1 = true := by kernel_rfl
theorem cq.calls (ay : Option Addr) (ap : Nat) (aD : List (List Int)) (ae : Option Addr) (a8 : Nat) (aG : List (List Int)) (r : Bool) (w : World) (db : Kd.C (Kd.slice 3 (Kd.int .i64)) w ay aD.length aD) (dc : aD.length ≤ ap) (dH : Kd.C (Kd.slice 3 (Kd.int .i64)) w ae aG.length aG) (dI : aG.length ≤ a8) (h : cq.f aD aG = some r) :
  Calls Tryz.prog 62 #[.agg #[.slice ay aD.length ap, .slice ae aG.length a8]] w fun e w' => e = .returned (.bool r) ∧ Below w.heap.size w w' := by
 have rD := Tryz.underlying28
 have bl := Aside0.mk db
 have bz := Aside0.mk dc
 clear db dc
 have bx := Aside0.mk dH
 have cE := Aside0.mk dI
 clear dH dI
 have HB := Aside0.mk (Below.refl w.heap.size w)
 have H : ((dw.f aD).bind fun t139 => (if t139 = true then ((dw.f aG).bind fun t140 => (if t140 = true then (if (aD.length : Int) = (aG.length : Int) then (if 0 < (aD.length : Int) then (if 0 < (aG.length : Int) then (some (((aJ aD 0).length : Int) == ((aJ aG 0).length : Int))) else (none)) else (none)) else (some false)) else (some false))) else (some false))) = some r := h
 clear h
 replace H := bZ H; obtain ⟨t139, A2, H⟩ := H
 by_cases c3 : t139 = true
 rotate_left
 ·replace c3 := Bool.eq_false_iff.mpr c3
  subst c3
  replace H := sZ H
  obtain rfl := Option.some.inj H
  go_enter Tryz.func62, Tryz.ntmps62
  try go_wp2_with (first | ((with_reducible refine ah (N := 1) rfl ?_); (try (refine ga (by rfl) ?_; dsimp only)); refine bE 1 #[.slice ay aD.length ap, .slice ae aG.length a8] 28 ?_; intro rh hg Ty bO hb; have eL := am (bO); have AY := gW HB hg; have Sk := AY; replace HB := bS HB hb; clear hb bO hg))
  replace eL := am (az eL.out)
  replace HB := am (bd HB.out)
  refine fA (n := 31) (S := fun w' => w'.cell? ⟨rh, 0, none⟩ = some (.slice ay aD.length ap) ∧ w'.cell? ⟨rh, 1, none⟩ = some (.slice ae aG.length a8)) (ds := []) (Array.replicate 31 false) (by kernel_rfl) rfl rfl ⟨(aQ eL.out 0).trans rfl, (aQ eL.out 1).trans rfl⟩ (fun ai => ?_); refine cv cq.mc cq.jY (fun ak fz => ?_)
  generalize Ty.drew = w22 at eL HB ai ⊢
  refine pY 0 3 ak ?_
  refine tY 1 4 ak fz ai ?_
  refine oY 2 5 ak (fun K hK => ?_)
  refine gY Tryz.func106 #[.slice ay aD.length ap] ?_
  with_reducible refine (dw.calls _ _ aD false _ ?aT ?aU A2.out).mono ?_
  (case aT => exact cB bl HB)
  (case aU => exact bz.out)
  rintro e T7 ⟨rfl, hb⟩
  refine ⟨_, rfl, ?_⟩
  replace eL := kS eL hb
  replace HB := bS HB hb
  (try clear hb)
  (try clear sj)
  (try clear hk)
  (try clear hi)
  refine hK.out _ _ ⟨(aQ eL.out 0).trans rfl, (aQ eL.out 1).trans rfl⟩ (fun ai => ?_)
  clear hK K
  refine nY 5 ?_
  refine pY 3 6 ak ?_
  refine uY 4 7 ak ?_; refine uY 5 8 ak ?_
  refine uY 6 9 ak ?_
  refine pY 7 10 ak ?_
  refine pY 8 11 ak ?_
  refine uY 9 12 ak ?_; refine uY 10 13 ak ?_
  refine uY 11 14 ak ?_; refine uY 12 15 ak ?_
  refine uY 13 16 ak ?_; refine uY 14 17 ak ?_
  refine uY 15 18 ak ?_
  refine pY 16 19 ak ?_
  refine pY 17 20 ak ?_
  refine uY 18 21 ak ?_; refine uY 19 22 ak ?_
  refine uY 20 23 ak ?_; refine uY 21 24 ak ?_
  refine uY 22 25 ak ?_; refine uY 23 26 ak ?_
  refine uY 24 27 ak ?_; refine uY 25 28 ak ?_
  refine uY 26 29 ak ?_; refine uY 27 30 ak ?_
  refine uY 28 31 ak ?_
  refine pY 29 32 ak ?_
  refine pY 30 2 ak ?_
  refine dY ak ?_
  try go_wp2
  go_ret
  exact ⟨jC, mb HB.out⟩
 subst c3
 replace H := sY H
 replace H := bZ H; obtain ⟨t140, A4, H⟩ := H
 by_cases c5 : t140 = true
 rotate_left
 ·replace c5 := Bool.eq_false_iff.mpr c5
  subst c5
  replace H := sZ H
  obtain rfl := Option.some.inj H
  go_enter Tryz.func62, Tryz.ntmps62
  try go_wp2_with (first | ((with_reducible refine ah (N := 1) rfl ?_); (try (refine ga (by rfl) ?_; dsimp only)); refine bE 1 #[.slice ay aD.length ap, .slice ae aG.length a8] 28 ?_; intro rh hg T6 bO hb; have eL := am (bO); have AY := gW HB hg; have Sk := AY; replace HB := bS HB hb; clear hb bO hg))
  replace eL := am (az eL.out)
  replace HB := am (bd HB.out)
  refine fA (n := 31) (S := fun w' => w'.cell? ⟨rh, 0, none⟩ = some (.slice ay aD.length ap) ∧ w'.cell? ⟨rh, 1, none⟩ = some (.slice ae aG.length a8)) (ds := []) (Array.replicate 31 false) (by kernel_rfl) rfl rfl ⟨(aQ eL.out 0).trans rfl, (aQ eL.out 1).trans rfl⟩ (fun ai => ?_); refine cv cq.mc cq.jY (fun ak fz => ?_)
  generalize T6.drew = Ow at eL HB ai ⊢
  refine pY 0 3 ak ?_
  refine tY 1 4 ak fz ai ?_
  refine oY 2 5 ak (fun K hK => ?_)
  refine gY Tryz.func106 #[.slice ay aD.length ap] ?_
  with_reducible refine (dw.calls _ _ aD true _ ?aT ?aU A2.out).mono ?_
  (case aT => exact cB bl HB)
  (case aU => exact bz.out)
  rintro e w19 ⟨rfl, hb⟩
  refine ⟨_, rfl, ?_⟩
  replace eL := kS eL hb
  replace HB := bS HB hb
  (try clear hb)
  (try clear sj)
  (try clear hk)
  (try clear hi)
  refine hK.out _ _ ⟨(aQ eL.out 0).trans rfl, (aQ eL.out 1).trans rfl⟩ (fun ai => ?_)
  clear hK K
  refine nY 5 ?_
  refine pY 3 6 ak ?_
  refine pY 4 7 ak ?_
  refine tY 5 8 ak fz ai ?_
  refine oY 6 9 ak (fun K hK => ?_)
  refine gY Tryz.func106 #[.slice ae aG.length a8] ?_
  with_reducible refine (dw.calls _ _ aG false _ ?aT ?aU A4.out).mono ?_
  (case aT => exact cB bx HB)
  (case aU => exact cE.out)
  rintro e P4 ⟨rfl, hb⟩
  refine ⟨_, rfl, ?_⟩
  replace eL := kS eL hb
  replace HB := bS HB hb
  (try clear hb)
  (try clear sj)
  (try clear hk)
  (try clear hi)
  refine hK.out _ _ ⟨(aQ eL.out 0).trans rfl, (aQ eL.out 1).trans rfl⟩ (fun ai => ?_)
  clear hK K
  refine nY 9 ?_
  refine pY 7 10 ak ?_
  refine pY 8 11 ak ?_
  refine uY 9 12 ak ?_; refine uY 10 13 ak ?_
  refine uY 11 14 ak ?_; refine uY 12 15 ak ?_
  refine uY 13 16 ak ?_; refine uY 14 17 ak ?_
  refine uY 15 18 ak ?_
  refine pY 16 19 ak ?_
  refine pY 17 20 ak ?_
  refine uY 18 21 ak ?_; refine uY 19 22 ak ?_
  refine uY 20 23 ak ?_; refine uY 21 24 ak ?_
  refine uY 22 25 ak ?_; refine uY 23 26 ak ?_
  refine uY 24 27 ak ?_; refine uY 25 28 ak ?_
  refine uY 26 29 ak ?_; refine uY 27 30 ak ?_
  refine uY 28 31 ak ?_
  refine pY 29 32 ak ?_
  refine pY 30 2 ak ?_
  refine dY ak ?_
  try go_wp2
  go_ret
  exact ⟨jC, mb HB.out⟩
 subst c5
 replace H := sY H
 by_cases c6 : (aD.length : Int) = (aG.length : Int)
 rotate_left
 ·rw [if_neg c6] at H
  have hU := iQ c6
  have vt := iR c6
  have abl : (aD.length == aG.length) = false := by first | simpa using c6 | (simp at c6 ⊢; omega)
  obtain rfl := Option.some.inj H
  go_enter Tryz.func62, Tryz.ntmps62
  try go_wp2_with (first | ((with_reducible refine ah (N := 1) rfl ?_); (try (refine ga (by rfl) ?_; dsimp only)); refine bE 1 #[.slice ay aD.length ap, .slice ae aG.length a8] 28 ?_; intro rh hg E2 bO hb; have eL := am (bO); have AY := gW HB hg; have Sk := AY; replace HB := bS HB hb; clear hb bO hg))
  replace eL := am (az eL.out)
  replace HB := am (bd HB.out)
  refine fA (n := 31) (S := fun w' => w'.cell? ⟨rh, 0, none⟩ = some (.slice ay aD.length ap) ∧ w'.cell? ⟨rh, 1, none⟩ = some (.slice ae aG.length a8)) (ds := []) (Array.replicate 31 false) (by kernel_rfl) rfl rfl ⟨(aQ eL.out 0).trans rfl, (aQ eL.out 1).trans rfl⟩ (fun ai => ?_); refine cv cq.mc cq.jY (fun ak fz => ?_)
  generalize E2.drew = w14 at eL HB ai ⊢
  refine pY 0 3 ak ?_
  refine tY 1 4 ak fz ai ?_
  refine oY 2 5 ak (fun K hK => ?_)
  refine gY Tryz.func106 #[.slice ay aD.length ap] ?_
  with_reducible refine (dw.calls _ _ aD true _ ?aT ?aU A2.out).mono ?_
  (case aT => exact cB bl HB)
  (case aU => exact bz.out)
  rintro e NQ ⟨rfl, hb⟩
  refine ⟨_, rfl, ?_⟩
  replace eL := kS eL hb
  replace HB := bS HB hb
  (try clear hb)
  (try clear sj)
  (try clear hk)
  (try clear hi)
  refine hK.out _ _ ⟨(aQ eL.out 0).trans rfl, (aQ eL.out 1).trans rfl⟩ (fun ai => ?_)
  clear hK K
  refine nY 5 ?_
  refine pY 3 6 ak ?_
  refine pY 4 7 ak ?_
  refine tY 5 8 ak fz ai ?_
  refine oY 6 9 ak (fun K hK => ?_)
  refine gY Tryz.func106 #[.slice ae aG.length a8] ?_
  with_reducible refine (dw.calls _ _ aG true _ ?aT ?aU A4.out).mono ?_
  (case aT => exact cB bx HB)
  (case aU => exact cE.out)
  rintro e NO ⟨rfl, hb⟩
  refine ⟨_, rfl, ?_⟩
  replace eL := kS eL hb
  replace HB := bS HB hb
  (try clear hb)
  (try clear sj)
  (try clear hk)
  (try clear hi)
  refine hK.out _ _ ⟨(aQ eL.out 0).trans rfl, (aQ eL.out 1).trans rfl⟩ (fun ai => ?_)
  clear hK K
  refine nY 9 ?_
  refine pY 7 10 ak ?_
  refine pY 8 11 ak ?_
  refine pY 9 12 ak ?_
  refine pY 12 15 ak ?_
  refine tY 10 13 ak fz ai ?_
  refine pY 11 14 ak ?_
  refine tY 13 16 ak fz ai ?_
  refine pY 14 17 ak ?_
  refine pY 15 18 ak ?_
  refine pY 16 19 ak ?_
  refine pY 17 20 ak ?_
  refine uY 18 21 ak ?_; refine uY 19 22 ak ?_
  refine uY 20 23 ak ?_; refine uY 21 24 ak ?_
  refine uY 22 25 ak ?_; refine uY 23 26 ak ?_
  refine uY 24 27 ak ?_; refine uY 25 28 ak ?_
  refine uY 26 29 ak ?_; refine uY 27 30 ak ?_
  refine uY 28 31 ak ?_
  refine pY 29 32 ak ?_
  refine pY 30 2 ak ?_
  refine dY ak ?_
  try go_wp2
  go_ret
  exact ⟨jC, mb HB.out⟩
 rw [if_pos c6] at H
 have hU := il c6
 have vt := im c6
 have abl : (aD.length == aG.length) = true := by first | simpa using c6 | (simp at c6 ⊢; omega)
 clear c6
 replace H := oo H; obtain ⟨c7, H⟩ := H
 have lO := decide_eq_true c7
 have xf : decide (0 < aD.length) = true := decide_eq_true (by omega)
 clear c7
 replace H := oo H; obtain ⟨c8, H⟩ := H
 have oz := decide_eq_true c8
 have Hy : decide (0 < aG.length) = true := decide_eq_true (by omega)
 clear c8
 obtain rfl := Option.some.inj H
 go_enter Tryz.func62, Tryz.ntmps62
 try go_wp2_with (first | ((with_reducible refine ah (N := 1) rfl ?_); (try (refine ga (by rfl) ?_; dsimp only)); refine bE 1 #[.slice ay aD.length ap, .slice ae aG.length a8] 28 ?_; intro rh hg w9 bO hb; have eL := am (bO); have AY := gW HB hg; have Sk := AY; replace HB := bS HB hb; clear hb bO hg))
 replace eL := am (az eL.out)
 replace HB := am (bd HB.out)
 have aeP : 0 ≤ (0 : Int) := (by omega)
 have aeQ : 0 < (aD.length : Int) := bX
 obtain ⟨Sl, aeR, aeS, ar8, qi, MV, MW⟩ := eO bl.out 0 aeP aeQ
 have nB := qi
 (try rw [show ((0 : Int)).toNat = 0 from rfl] at nB)
 (try rw [show 0 * 1 = 0 from rfl] at nB)
 (try rw [Addr.add_zero'] at nB)
 cases ar8
 have au0 : (0 < aD.length) = True := eq_true (by omega)
 (try rw [show ((0 : Int)).toNat = 0 from rfl] at qi)
 (try rw [Addr.add_zero'] at qi)
 replace qi := (HB.out.cell (World.block_lt_of_cell? w _ qi)).trans qi
 have Wu := Aside0.mk MW
 have ao7 := Aside0.mk MV
 clear MW MV
 replace aeP := eq_true aeP
 replace aeQ := eq_true aeQ
 have aeT : 0 ≤ (0 : Int) := (by omega)
 have aeU : 0 < (aG.length : Int) := bX
 obtain ⟨Sm, aeV, aeW, ar9, qj, MX, MY⟩ := eO bx.out 0 aeT aeU
 have nC := qj
 (try rw [show ((0 : Int)).toNat = 0 from rfl] at nC)
 (try rw [show 0 * 1 = 0 from rfl] at nC)
 (try rw [Addr.add_zero'] at nC)
 cases ar9
 have au1 : (0 < aG.length) = True := eq_true (by omega)
 (try rw [show ((0 : Int)).toNat = 0 from rfl] at qj)
 (try rw [Addr.add_zero'] at qj)
 replace qj := (HB.out.cell (World.block_lt_of_cell? w _ qj)).trans qj
 have Wv := Aside0.mk MY
 have ao8 := Aside0.mk MX
 clear MY MX
 replace aeT := eq_true aeT
 replace aeU := eq_true aeU
 refine fA (n := 31) (S := fun w' => w'.cell? ⟨rh, 0, none⟩ = some (.slice (some Sl) aD.length ap) ∧ w'.cell? ⟨rh, 1, none⟩ = some (.slice (some Sm) aG.length a8) ∧ w'.cell? Sl = some (.slice aeR (aJ aD 0).length aeS) ∧ w'.cell? Sm = some (.slice aeV (aJ aG 0).length aeW)) (ds := []) (Array.replicate 31 false) (by kernel_rfl) rfl rfl ⟨(aQ eL.out 0).trans rfl, (aQ eL.out 1).trans rfl, ((HB.out.cell (World.block_lt_of_cell? w _ nB)).trans nB), ((HB.out.cell (World.block_lt_of_cell? w _ nC)).trans nC)⟩ (fun ai => ?_); refine cv cq.mc cq.jY (fun ak fz => ?_)
 generalize w9.drew = BZ at eL HB Wu Wv qi qj ai ⊢
 refine pY 0 3 ak ?_
 refine tY 1 4 ak fz ai ?_
 refine oY 2 5 ak (fun K hK => ?_)
 refine gY Tryz.func106 #[.slice (some Sl) aD.length ap] ?_
 with_reducible refine (dw.calls _ _ aD true _ ?aT ?aU A2.out).mono ?_
 (case aT => exact cB bl HB)
 (case aU => exact bz.out)
 rintro e tu ⟨rfl, hb⟩
 refine ⟨_, rfl, ?_⟩
 replace eL := kS eL hb
 replace HB := bS HB hb
 (try clear hb)
 (try clear sj)
 (try clear hk)
 (try clear hi)
 refine hK.out _ _ ⟨(aQ eL.out 0).trans rfl, (aQ eL.out 1).trans rfl, ((HB.out.cell (World.block_lt_of_cell? w _ nB)).trans nB), ((HB.out.cell (World.block_lt_of_cell? w _ nC)).trans nC)⟩ (fun ai => ?_)
 clear hK K
 refine nY 5 ?_
 refine pY 3 6 ak ?_
 refine pY 4 7 ak ?_
 refine tY 5 8 ak fz ai ?_
 refine oY 6 9 ak (fun K hK => ?_)
 refine gY Tryz.func106 #[.slice (some Sm) aG.length a8] ?_
 with_reducible refine (dw.calls _ _ aG true _ ?aT ?aU A4.out).mono ?_
 (case aT => exact cB bx HB)
 (case aU => exact cE.out)
 rintro e Ou ⟨rfl, hb⟩
 refine ⟨_, rfl, ?_⟩
 replace eL := kS eL hb
 replace HB := bS HB hb
 (try clear hb)
 (try clear sj)
 (try clear hk)
 (try clear hi)
 refine hK.out _ _ ⟨(aQ eL.out 0).trans rfl, (aQ eL.out 1).trans rfl, ((HB.out.cell (World.block_lt_of_cell? w _ nB)).trans nB), ((HB.out.cell (World.block_lt_of_cell? w _ nC)).trans nC)⟩ (fun ai => ?_)
 clear hK K
 refine nY 9 ?_
 refine pY 7 10 ak ?_
 refine pY 8 11 ak ?_
 refine pY 9 12 ak ?_
 refine pY 12 15 ak ?_
 refine tY 10 13 ak fz ai ?_
 refine pY 11 14 ak ?_
 refine tY 13 16 ak fz ai ?_
 refine pY 14 17 ak ?_
 refine pY 15 18 ak ?_
 refine pY 16 19 ak ?_
 refine pY 17 20 ak ?_
 refine pY 18 21 ak ?_
 refine pY 23 26 ak ?_
 refine tY 19 22 ak fz ai ?_
 refine pY 20 23 ak ?_
 refine tY 21 24 ak fz ai ?_
 refine pY 22 25 ak ?_
 refine tY 24 27 ak fz ai ?_
 refine pY 25 28 ak ?_
 refine tY 26 29 ak fz ai ?_
 refine pY 27 30 ak ?_
 refine pY 28 31 ak ?_
 refine pY 29 32 ak ?_
 refine pY 30 2 ak ?_
 refine dY ak ?_
 try go_wp2
 go_ret
 exact ⟨jC, mb HB.out⟩
def dU.f (aD : List (List Int)) (aG : List (List Int)) : Option (Int) := some (aD.length : Int)
theorem dU.calls (ay : Option Addr) (ap : Nat) (aD : List (List Int)) (ae : Option Addr) (a8 : Nat) (aG : List (List Int)) (r : Int) (w : World) (db : Kd.C (Kd.slice 3 (Kd.int .i64)) w ay aD.length aD) (dc : aD.length ≤ ap) (dH : Kd.C (Kd.slice 3 (Kd.int .i64)) w ae aG.length aG) (dI : aG.length ≤ a8) (h : dU.f aD aG = some r) :
  Calls Tryz.prog 77 #[.agg #[.slice ay aD.length ap, .slice ae aG.length a8]] w fun e w' => e = .returned (.int .i64 r) ∧ Below w.heap.size w w' := by
 have rD := Tryz.underlying28
 have bl := Aside0.mk db
 have bz := Aside0.mk dc
 clear db dc
 have bx := Aside0.mk dH
 have cE := Aside0.mk dI
 clear dH dI
 have HB := Aside0.mk (Below.refl w.heap.size w)
 have H : (some (aD.length : Int)) = some r := h
 clear h
 obtain rfl := Option.some.inj H
 go_enter Tryz.func77, Tryz.ntmps77
 go_wp2_with (first | ((with_reducible refine ah (N := 1) rfl ?_); refine bE 1 #[.slice ay aD.length ap, .slice ae aG.length a8] 28 ?_; intro au2 hg w2 bO hb; have MZ := am (bO); have alO := gW HB hg; have au3 := alO; replace HB := bS HB hb; clear hb bO hg; have ar_ := cG MZ.out; have ar' := cR MZ.out; have asa := aH MZ.out 0; have asb := aH MZ.out 1))
 go_ret
 exact ⟨jC, mb HB.out⟩
def dd.f (aD : List (List Int)) (aG : List (List Int)) : Option (Int) := if 0 < (aD.length : Int) then (some ((aJ aD 0).length : Int)) else (none)
theorem dd.calls (ay : Option Addr) (ap : Nat) (aD : List (List Int)) (ae : Option Addr) (a8 : Nat) (aG : List (List Int)) (r : Int) (w : World) (db : Kd.C (Kd.slice 3 (Kd.int .i64)) w ay aD.length aD) (dc : aD.length ≤ ap) (dH : Kd.C (Kd.slice 3 (Kd.int .i64)) w ae aG.length aG) (dI : aG.length ≤ a8) (h : dd.f aD aG = some r) :
  Calls Tryz.prog 78 #[.agg #[.slice ay aD.length ap, .slice ae aG.length a8]] w fun e w' => e = .returned (.int .i64 r) ∧ Below w.heap.size w w' := by
 have rD := Tryz.underlying28
 have bl := Aside0.mk db
 have bz := Aside0.mk dc
 clear db dc
 have bx := Aside0.mk dH
 have cE := Aside0.mk dI
 clear dH dI
 have HB := Aside0.mk (Below.refl w.heap.size w)
 have H : (if 0 < (aD.length : Int) then (some ((aJ aD 0).length : Int)) else (none)) = some r := h
 clear h
 by_cases c2 : 0 < (aD.length : Int)
 rotate_left
 ·rw [if_neg c2] at H
  exact absurd H (by simp)
 rw [if_pos c2] at H
 have uE := decide_eq_true c2
 have FD : decide (0 < aD.length) = true := decide_eq_true (by omega)
 clear c2
 obtain rfl := Option.some.inj H
 go_enter Tryz.func78, Tryz.ntmps78
 go_wp2_with (first | ((with_reducible refine ah (N := 1) rfl ?_); refine bE 1 #[.slice ay aD.length ap, .slice ae aG.length a8] 28 ?_; intro au4 hg w3 bO hb; have M0 := am (bO); have alP := gW HB hg; have au5 := alP; replace HB := bS HB hb; clear hb bO hg; have asc := cG M0.out; have asd := cR M0.out; have ase := aH M0.out 0; have asf := aH M0.out 1; have aeX : 0 ≤ (0 : Int) := (by omega); have aeY : 0 < (aD.length : Int) := bX; obtain ⟨au6, asg, ash, asi, vV, M3, M4⟩ := eO bl.out 0 aeX aeY; cases asi; have au7 : (0 < aD.length) = True := eq_true (by omega); (try rw [show ((0 : Int)).toNat = 0 from rfl] at vV); (try rw [Addr.add_zero'] at vV); replace vV := (HB.out.cell (World.block_lt_of_cell? w _ vV)).trans vV; have ao9 := Aside0.mk M4; have ao_ := Aside0.mk M3; clear M4 M3; replace aeX := eq_true aeX; replace aeY := eq_true aeY))
 go_ret
 exact ⟨jC, mb HB.out⟩
def kd.f (a0 : Int) (a1 : Int) : Option (List Int) := if 0 ≤ a1 then (if (a1 : Int).toNat ≤ 35184372088832 then ((some (List.replicate (a1 : Int).toNat 0 : List Int)).bind fun xt => (if 0 ≤ a0 then (if a0 < (xt.length : Int) then (some (xt.set (a0 : Int).toNat 1)) else (none)) else (none))) else (none)) else (none)
theorem kd.calls (a0 : Int) (a1 : Int) (r : List Int) (w : World) (h : kd.f a0 a1 = some r) :
  Calls Tryz.prog 80 #[.int .i64 a0, .int .i64 a1] w fun e w' => ∃ iE : Value, e = .returned (iE) ∧ Kd.R (Kd.int .i64) 3 w' w.heap.size (fun _ => True) iE r ∧ Below w.heap.size w w' := by
 have HB := Aside0.mk (Below.refl w.heap.size w)
 have H : (if 0 ≤ a1 then (if (a1 : Int).toNat ≤ 35184372088832 then ((some (List.replicate (a1 : Int).toNat 0 : List Int)).bind fun xt => (if 0 ≤ a0 then (if a0 < (xt.length : Int) then (some (xt.set (a0 : Int).toNat 1)) else (none)) else (none))) else (none)) else (none)) = some r := h
 clear h
 by_cases c3 : 0 ≤ a1
 rotate_left
 ·rw [if_neg c3] at H
  exact absurd H (by simp)
 rw [if_pos c3] at H
 have gX := eq_true c3
 have qB := decide_eq_true c3
 clear c3
 replace H := oo H; obtain ⟨c4, H⟩ := H
 have iI := eq_true c4
 have N5 := decide_eq_true c4
 clear c4
 replace H := br (List.replicate (a1 : Int).toNat 0) (fun xt => (if 0 ≤ a0 then (if a0 < (xt.length : Int) then (some (xt.set (a0 : Int).toNat 1)) else (none)) else (none)) = some r) H; obtain ⟨xt, Z7, H⟩ := H
 replace H := fW H; obtain ⟨jR, H⟩ := H
 replace H := fW H; obtain ⟨hU, H⟩ := H
 replace H := br (xt.set (a0 : Int).toNat 1) (fun aeZ => (some aeZ) = some r) H; obtain ⟨aeZ, alQ, H⟩ := H
 obtain rfl := Option.some.inj H
 go_enter Tryz.func80, Tryz.ntmps80
 go_wp2_with (first | ((with_reducible refine ah (N := 7) rfl ?_); refine Kd.CY (Kd.int .i64) _ 3 rfl (N := 7) rfl 40 _ _ rfl a1 rfl rfl Tryz.underlying40 (.int .i64 0) 8 eT rfl (by decide) (by omega) 0 (ok := fun _ => True) (okp := fun _ => True) rfl (fun _ hk => hk) trivial (bX) (Nat.le_trans (Nat.mul_le_mul_right _ (bX : a1.toNat ≤ 35184372088832)) (by omega)) (Below.refl _ _) (Nat.le_refl _) ?_; intro v147 w8 Ez hb jn dB; clear jn dB; (first | rw [← Z7.out] at Ez | (simp only [Int.reduceToNat] at Ez; rw [← Z7.out] at Ez)); have CP := am (Kd.cO Ez (aC (mb HB.out))); replace HB := bS HB hb; clear hb Ez; have p7 : 0 ≤ (a0 : Int) := bX; have q7 : (a0 : Int) < ((xt.length : Int) : Int) := bX; obtain ⟨go7, co7, eo7, gb7, gl7, cl7, HG7⟩ := Kd.lZ CP.out (by omega); (first | cases eo7 | (injection eo7 with kF wB wC; (first | subst kF | (injection kF with kF; subst kF)); subst wC; clear wB)); have GB7 := Aside0.mk gb7; have GG7 := Aside0.mk HG7; clear gb7 gl7 HG7; obtain ⟨ahO, ahP⟩ := Kd.gx 0 CP.out (a0 : Int) p7 q7; replace p7 := eq_true p7; replace q7 := eq_true q7; obtain ⟨ahQ, ahR⟩ := Kd.gx 0 CP.out (a0 : Int) (bX) (bX); have zH := Kd.nI CP.out (a0 : Int) 1) | ((with_reducible refine fo (t := 3) (p := 10) rfl ?_); refine fM (t := 3) (p := 10) (v := ?QF) (w1 := (w8.setCell ⟨go7, (a0 : Int).toNat, none⟩ (.int .i64 1))) ?hg ?ho ?hn ?hr ?_; (case ho => rfl); (case hg => rfl); (case hn => rfl); (case hr => first | (go_simp; done) | (go_simp; rfl)); intro tu hw; have hg : w8.grownBy tu (some go7) := (by rw [hw]; exact zH.2); have rR : Kd.R (Kd.int .i64) 3 tu w.heap.size (fun _ => True) (.slice (some ⟨go7, 0, none⟩) xt.length co7) aeZ := (by rw [hw, alQ.out]; exact zH.1); clear zH; replace CP := am (rR); replace HB := am ((by rw [hw]; exact dj (HB.out) GB7.out : Below w.heap.size w tu)); clear hg hw rR))
 go_ret
 exact ⟨_, jC, ci CP.out, mb HB.out⟩
def cD.l0 : Nat → Int → List Int → List (List Int) → Int → Int → Option (List Int)
 | 0, _, _, _, _, _ => none
 | k + 1, x1, x5, x9, iM, jd => if jd < iM then (if 0 ≤ jd then (if jd < (x9.length : Int) then (if 0 ≤ x1 then (if x1 < ((aJ x9 jd).length : Int) then (if x5.length < 17592186044416 then (cD.l0 k x1 (x5 ++ [rd (aJ x9 jd) x1]) x9 iM (wrap64 (jd + 1))) else (none)) else (none)) else (none)) else (none)) else (none)) else (some x5)
def cD.f (k : Nat) (l0 : List (List Int)) (a1 : Int) : Option (List Int) := cD.l0 k a1 (([] : List Int)) l0 (l0.length : Int) 0
theorem cD.bG : ∀ k, (∀ y0 y1 y2 y3 y4, bB (cD.l0 k y0 y1 y2 y3 y4) (cD.l0 (k + 1) y0 y1 y2 y3 y4))
 | 0 => fun _ _ _ _ _ r h => by simp [cD.l0] at h
 | k + 1 => by
  have eQ := cD.bG k
  ·intro y0 y1 y2 y3 y4
   unfold cD.l0
   repeat' first
   | (with_reducible exact eQ ..)
   | (with_reducible exact bB.refl _)
   | (with_reducible exact bB.none _)
   | (with_reducible refine bB.ite ?_ ?_)
   | (with_reducible refine bB.bind ?_ (fun _ => ?_))
theorem cD.mono : ∀ a0 a1 k, bB (cD.f k a0 a1) (cD.f (k + 1) a0 a1) := by
 intro a0 a1 k
 have eQ := cD.bG k
 unfold cD.f
 repeat' first
   | (with_reducible exact eQ ..)
   | (with_reducible exact bB.refl _)
   | (with_reducible exact bB.none _)
   | (with_reducible refine bB.ite ?_ ?_)
   | (with_reducible refine bB.bind ?_ (fun _ => ?_))
theorem cD.calls (k : Nat) (A0 : Option Addr) (c0 : Nat) (l0 : List (List Int)) (a1 : Int) (r : List Int) (w : World) (gD : Kd.C (Kd.slice 3 (Kd.int .i64)) w A0 l0.length l0) (hJ : l0.length ≤ c0) (h : cD.f k l0 a1 = some r) :
  Calls Tryz.prog 124 #[.slice A0 l0.length c0, .int .i64 a1] w fun e w' => ∃ iE : Value, e = .returned (iE) ∧ Kd.R (Kd.int .i64) 3 w' w.heap.size (fun _ => True) iE r ∧ Below w.heap.size w w' := by
 have jt := Aside0.mk gD
 have wj := Aside0.mk hJ
 clear gD hJ
 have HB := Aside0.mk (Below.refl w.heap.size w)
 have H : (cD.l0 k a1 (([] : List Int)) l0 (l0.length : Int) 0) = some r := h
 clear h
 replace H := br (([] : List Int)) (fun ae0 => (cD.l0 k a1 ae0 l0 (l0.length : Int) 0) = some r) H; obtain ⟨ae0, Z8, H⟩ := H
 have H' := Aside0.mk H
 clear H
 go_enter Tryz.func124, Tryz.ntmps124
 go_wp2_with (first | ((with_reducible refine ah (N := 8) rfl ?_); refine Kd.ov (Kd.int .i64) _ 3 ?hg (N := 8) ?hd (xs := ([] : List Int)) (inner := []) (ok := fun _ => True) (okp := fun _ => True) ?hr ?hp (fun _ hk => hk) trivial (Below.refl _ _) (Nat.le_refl _) (by simp) ?_; (case hd => rfl); (case hg => rfl); (case hr => first | (go_simp; done) | (go_simp; rfl)); (case hp => exact (cV.none _ _)); intro v151 w3 Hz hb jn dB; clear jn dB; (first | rw [← Z8.out] at Hz | (simp only [Int.reduceToNat] at Hz; rw [← Z8.out] at Hz)); have alR := am (Kd.cO Hz (aC (mb HB.out))); replace HB := bS HB hb; clear hb Hz))
 go_loopg [5, 11] k (fun kq v5 v11 w' => ∃ (aj : List Int) (bj : Int), v11 = .int .i64 bj ∧ Aside0 (cD.l0 kq a1 aj l0 (l0.length : Int) bj = some r) ∧ Aside0 (kq ≤ k) ∧ Aside0 (Kd.R (Kd.int .i64) 3 w' w.heap.size (fun _ => True) v5 aj) ∧ Aside0 (Below w.heap.size w w'))
 case atStart => exact ⟨(ae0), (0), dM, H', ⟨Nat.le_refl _⟩, ⟨ci alR.out⟩, ⟨mb HB.out⟩⟩
 case round =>
  clear H'
  obtain ⟨aj, bj, rfl, HA, dP, lN, HB⟩ := hrel
  cases gk with
  | zero => exact absurd HA.out (by simp [cD.l0])
  | succ k1 =>
   have H := HA.out
   clear HA
   simp only [cD.l0] at H
   by_cases c5 : bj < (l0.length : Int)
   rotate_left
   ·rw [if_neg c5] at H
    have jR := decide_eq_false c5
    clear c5
    obtain rfl := Option.some.inj H
    go_wp2
    go_ret
    exact ⟨_, jC, ci lN.out, mb HB.out⟩
   rw [if_pos c5] at H
   have jR := decide_eq_true c5
   clear c5
   replace H := fW H; obtain ⟨hU, H⟩ := H
   replace H := fW H; obtain ⟨lO, H⟩ := H
   replace H := fW H; obtain ⟨oz, H⟩ := H
   replace H := fW H; obtain ⟨tF, H⟩ := H
   replace H := np H; obtain ⟨alS, H⟩ := H
   replace H := br (aj ++ [rd (aJ l0 bj) a1]) (fun ae1 => (cD.l0 k1 a1 ae1 l0 (l0.length : Int) (wrap64 (bj + 1))) = some r) H; obtain ⟨ae1, alT, H⟩ := H
   have H' := Aside0.mk H
   clear H
   have ae2 : 0 ≤ (bj : Int) := bX
   have ae3 : bj < (l0.length : Int) := bX
   obtain ⟨au8, asj, asl, asm, EA, M5, M6⟩ := eO jt.out bj ae2 ae3
   cases asm
   replace EA := (HB.out.cell (World.block_lt_of_cell? w _ EA)).trans EA
   have Ww := Aside0.mk M6
   have ao' := Aside0.mk M5
   clear M6 M5
   replace ae2 := eq_true ae2
   replace ae3 := eq_true ae3
   have ae4 : 0 ≤ (a1 : Int) := bX
   have ae5 : a1 < ((aJ l0 bj).length : Int) := bX
   obtain ⟨au9, asn, EB⟩ := Kd.bi Ww.out a1 ae4 ae5
   cases asn
   replace EB := (HB.out.cell (World.block_lt_of_cell? w _ EB)).trans EB
   replace ae4 := eq_true ae4
   replace ae5 := eq_true ae5
   go_wp2_with (first | ((with_reducible refine bC (b := .append) (xs := #[.tmp 15, .tmp 20]) rfl ?_); at_builtin; refine Kd.fV (Kd.int .i64) (w0 := w) w.heap.size rfl (.tmp 15) (.tmp 20) 40 3 (.int .i64 0) 8 rfl Tryz.underlying40 eT rfl (by decide) (by omega) u5 aj (rd (aJ l0 bj) a1) [.int .i64 (rd (aJ l0 bj) a1)] (fun _ => True) (fun _ => False) rfl rfl ?aP (fun _ hk => hk.elim) ?aF ?aO ?aB ?aS ?aL ?_; (case aP => exact rfl); (case aB => exact (mb HB.out)); (case aF => exact (fun _ _ => trivial)); (case aO => exact (ci lN.out)); (case aS => exact (aC (mb HB.out))); (case aL => have := alS.out; omega); intro v156 tu ho hb hg bk; rw [← alT.out] at ho; replace HB := am (hb); have alU := am (ho); clear lN; clear ho hb hg bk))
   go_roundg k1
   case measure => have := dP.out; omega
   case rel => exact ⟨(ae1), (wrap64 (bj + 1)), dM, H', ⟨by have := dP.out; omega⟩, ⟨ci alU.out⟩, ⟨mb HB.out⟩⟩
def jO.f (k : Nat) (j : Int) (l0 l1 : List (List Int)) : Option (List Int) := cD.f k l1 j
theorem jO.mono : ∀ j l0 l1 k, bB (jO.f k j l0 l1) (jO.f (k + 1) j l0 l1) := fun j l0 l1 k => cD.mono _ _ _
theorem jO.calls (k : Nat) (a0 : Int) (G : Nat) (A0 : Option Addr) (c0 : Nat) (l0 : List (List Int)) (A1 : Option Addr) (c1 : Nat) (l1 : List (List Int)) (r : List Int) (w : World) (Fy : w.cell? ⟨G, 0, none⟩ = some (.slice A0 l0.length c0)) (gD : Kd.C (Kd.slice 3 (Kd.int .i64)) w A0 l0.length l0) (hJ : l0.length ≤ c0) (Te : w.cell? ⟨G, 1, none⟩ = some (.slice A1 l1.length c1)) (nn : Kd.C (Kd.slice 3 (Kd.int .i64)) w A1 l1.length l1) (mN : l1.length ≤ c1) (h : jO.f k a0 l0 l1 = some r) :
  Calls Tryz.prog 123 #[.int .i64 a0, .pointer (some ⟨G, 0, none⟩)] w fun e w' => ∃ iE : Value, e = .returned (iE) ∧ Kd.R (Kd.int .i64) 3 w' w.heap.size (fun _ => True) iE r ∧ Below w.heap.size w w' := by
 have lP := cD.calls k A1 c1 l1 a0 r w nn mN h
 have hg : Tryz.prog.underlying 28 = _ := Tryz.underlying28
 clear Fy gD hJ nn mN h
 go_enter Tryz.func123, Tryz.ntmps123
 go_wp2_with (go_at_call 124; refine lP.mono ?_; rintro e w' ⟨v0, rfl, ho, hb⟩)
 go_ret
 exact ⟨_, rfl, ho, hb⟩
def dA.f (l0 : List Int) : Option (List Int) := if l0.length < 17592186044416 then some l0 else none
@[go_sem] theorem agG (A : Option Addr) (n c : Nat) (w : World) : (binOp .eql 40 (.slice A n c) (.slice none 0 0)).run Tryz.prog w = .ok (.bool A.isNone) w := by
 have h : ∀ d : Nat, (Op.equalIn (d + 1) 40 (.slice A n c) (.slice none 0 0)).run Tryz.prog w = .ok A.isNone w := fun d => by
  cases A <;> simp [Op.equalIn, run_underlying Tryz.underlying40]
 simp only [binOp]
 simp [Op.equal, Op.maxDepth, h 9999]
set_option maxHeartbeats 4000000 in
theorem dA.calls (A0 : Option Addr) (c0 : Nat) (l0 : List Int) (r : List Int) (w : World) (gD : Kd.C (Kd.int .i64) w A0 l0.length l0) (hJ : l0.length ≤ c0) (h : dA.f l0 = some r) :
  Calls Tryz.prog 126 #[.slice A0 l0.length c0] w fun e w' => ∃ iE : Value, e = .returned (iE) ∧ Kd.R (Kd.int .i64) 3 w' w.heap.size (fun _ => True) iE r ∧ Below w.heap.size w w' := by
 unfold dA.f at h
 by_cases Wx : l0.length < 17592186044416
 rotate_left
 ·rw [if_neg Wx] at h
  exact absurd h (by simp)
 rw [if_pos Wx] at h
 obtain rfl := Option.some.inj h
 clear h
 rcases A0 with _ | a
 ·have hz : l0 = [] := by
   rcases Nat.eq_zero_or_pos l0.length with h0 | h0
   ·exact List.eq_nil_of_length_eq_zero h0
   ·obtain ⟨ad, e, -⟩ := gD.2.2 h0
    cases e
  subst hz
  have HB := Aside0.mk (Below.refl w.heap.size w)
  clear gD
  go_enter Tryz.func126, Tryz.ntmps126
  go_wp2
  go_ret
  exact ⟨_, rfl, Kd.mV _ _ _ _ _, HB.out⟩
 ·have jt := Aside0.mk gD
  have HL := Aside0.mk Wx
  have wj := Aside0.mk hJ
  clear gD hJ Wx
  have HB := Aside0.mk (Below.refl w.heap.size w)
  go_enter Tryz.func126, Tryz.ntmps126
  go_wp2_with (first
   | ((with_reducible refine ah (N := 5) rfl ?_); refine Kd.ov (Kd.int .i64) _ 3 ?hg (N := 5) ?hd (xs := ([] : List Int)) (inner := []) (ok := fun _ => True) (okp := fun _ => True) ?hr ?hp (fun _ hk => hk) trivial (Below.refl _ _) (Nat.le_refl _) (by simp) ?_; (case hd => rfl); (case hg => rfl); (case hr => first | (go_simp; done) | (go_simp; rfl)); (case hp => exact (cV.none _ _)); intro v252 w3 Hz hb jn dB; clear jn dB; (try simp only [Int.reduceToNat] at Hz); have CQ := am (Kd.cO Hz (aC (mb HB.out))); replace HB := bS HB hb; clear hb Hz)
   | ((with_reducible refine bC (b := .append) (xs := #[.tmp 5, .tmp 6]) rfl ?_); at_builtin; refine Kd.gO (Kd.int .i64) (w0 := w) w.heap.size rfl (.tmp 5) (.tmp 6) 40 3 (.int .i64 0) 8 rfl Tryz.underlying40 eT rfl (by decide) (by omega) v252 ([] : List Int) l0 _ _ _ (fun _ => True) (fun _ => False) rfl rfl ?aO ?aR (fun _ _ h => h) (fun _ h => h.elim) ?aF ?aB ?aS ?aL ?_; (case aR => exact cB jt HB); (case aB => exact (mb HB.out)); (case aF => exact (fun _ _ => trivial)); (case aO => exact (ci CQ.out)); (case aS => exact (aC (mb HB.out))); (case aL => have := HL.out; simp only [List.length_nil]; omega); intro v255 w5 ho hb hg bk; rw [List.nil_append] at ho; replace HB := am (hb); have Sn := am (ho); clear CQ; clear ho hb hg bk))
  go_ret
  exact ⟨_, by first | rfl | (simp [fp, fq] <;> rfl), ci Sn.out, mb HB.out⟩
def la.f (j : Int) (l0 l1 : List (List Int)) : Option (List Int) := if 0 ≤ j ∧ j < (l0.length : Int) then dA.f (l0.getD j.toNat []) else none
theorem la.calls (a0 : Int) (G : Nat) (A0 : Option Addr) (c0 : Nat) (l0 : List (List Int)) (A1 : Option Addr) (c1 : Nat) (l1 : List (List Int)) (r : List Int) (w : World) (Fy : w.cell? ⟨G, 0, none⟩ = some (.slice A0 l0.length c0)) (gD : Kd.C (Kd.slice 3 (Kd.int .i64)) w A0 l0.length l0) (hJ : l0.length ≤ c0) (Te : w.cell? ⟨G, 1, none⟩ = some (.slice A1 l1.length c1)) (nn : Kd.C (Kd.slice 3 (Kd.int .i64)) w A1 l1.length l1) (mN : l1.length ≤ c1) (h : la.f a0 l0 l1 = some r) :
  Calls Tryz.prog 125 #[.int .i64 a0, .pointer (some ⟨G, 0, none⟩)] w fun e w' => ∃ iE : Value, e = .returned (iE) ∧ Kd.R (Kd.int .i64) 3 w' w.heap.size (fun _ => True) iE r ∧ Below w.heap.size w w' := by
 unfold la.f at h
 by_cases hc : 0 ≤ a0 ∧ a0 < (l0.length : Int)
 rotate_left
 ·rw [if_neg hc] at h
  cases h
 rw [if_pos hc] at h
 obtain ⟨h0, h1⟩ := hc
 obtain ⟨ad, cs, e2, _, hK, Tf⟩ := Kd.wb gD ([] : List Int) a0 h0 h1
 cases e2
 obtain ⟨A2, c2, rfl, Po, hi2⟩ := hK
 replace Tf := Tf 0 _ rfl
 rw [show (Kd.slice 3 (Kd.int .i64)).sz = 1 from rfl, Nat.mul_one, Nat.add_zero] at Tf
 have lP := dA.calls A2 c2 (l0.getD a0.toNat []) r w hi2 Po h
 generalize l0.getD a0.toNat [] = awq at Tf lP
 have q := eq_true h0
 have q2 := eq_true h1
 clear gD hJ nn mN h Po hi2 h0 h1
 go_enter Tryz.func125, Tryz.ntmps125
 go_wp2_with (go_at_call 126; refine lP.mono ?_; rintro e w' ⟨v0, rfl, ho, hb⟩)
 go_ret
 exact ⟨_, rfl, ho, hb⟩
mutual
def aX.l0 : Nat → List (List (bm)) → Int → List (List (bm)) → Int → Int → Option ((List (bm)))
 | 0, _, _, _, _, _ => none
 | k + 1, x0, x3, x9, iM, jd => if jd < iM then (if 0 ≤ jd then (if jd < (x9.length : Int) then (if (wrap64 (x3 + ((oT x9 jd).length : Int))) < 0 then (none) else (aX.l0 k x0 (wrap64 (x3 + ((oT x9 jd).length : Int))) x9 iM (wrap64 (jd + 1)))) else (none)) else (none)) else (if 0 ≤ x3 ∧ x3 < 3518437208883 then (aX.l1 k ([] : List (bm)) x0 (x0.length : Int) 0) else none)
def aX.l1 : Nat → List (bm) → List (List (bm)) → Int → Int → Option ((List (bm)))
 | 0, _, _, _, _ => none
 | k + 1, x6, o8, Bh, tM => if tM < Bh then (if 0 ≤ tM then (if tM < (o8.length : Int) then (if x6.length + (oT o8 tM).length < 3518437208883 then (aX.l1 k (x6 ++ (oT o8 tM)) o8 Bh (wrap64 (tM + 1))) else (none)) else (none)) else (none)) else (some x6)
end
def aX.f (k : Nat) (l0 : List (List (bm))) : Option ((List (bm))) := aX.l0 k l0 0 l0 (l0.length : Int) 0
theorem aX.bG : ∀ k, (∀ y0 y1 y2 y3 y4, bB (aX.l0 k y0 y1 y2 y3 y4) (aX.l0 (k + 1) y0 y1 y2 y3 y4)) ∧ (∀ y0 y1 y2 y3, bB (aX.l1 k y0 y1 y2 y3) (aX.l1 (k + 1) y0 y1 y2 y3))
 | 0 => ⟨fun _ _ _ _ _ r h => by simp [aX.l0] at h, fun _ _ _ _ r h => by simp [aX.l1] at h⟩
 | k + 1 => by
  obtain ⟨eQ, kP⟩ := aX.bG k
  refine ⟨?_, ?_⟩ <;> intros <;> (first | unfold aX.l0 | unfold aX.l1)
  all_goals repeat' first
  | (with_reducible exact eQ ..)
  | (with_reducible exact kP ..)
  | (with_reducible exact bB.refl _)
  | (with_reducible exact bB.none _)
  | (with_reducible refine bB.ite ?_ ?_)
  | (with_reducible refine bB.bind ?_ (fun _ => ?_))
theorem aX.mono : ∀ a0 k, bB (aX.f k a0) (aX.f (k + 1) a0) := by
 intro a0 k
 obtain ⟨eQ, kP⟩ := aX.bG k
 unfold aX.f
 repeat' first
   | (with_reducible exact eQ ..)
   | (with_reducible exact kP ..)
   | (with_reducible exact bB.refl _)
   | (with_reducible exact bB.none _)
   | (with_reducible refine bB.ite ?_ ?_)
   | (with_reducible refine bB.bind ?_ (fun _ => ?_))
theorem Od (n : Int) (h0 : 0 ≤ n) (hl : n < 3518437208883) (w : World) :
  Calls Tryz.prog 157 #[.slice none 0 0, .int .i64 n] w fun e w' => ∃ iE : Value, e = .returned (iE) ∧ Kd.R eB 113 w' w.heap.size (fun _ => True) iE ([] : List bm) ∧ Below w.heap.size w w' := by
 have hu := Tryz.underlying113
 by_cases hz : n = 0
 ·subst hz
  go_enter Tryz.func157, Tryz.ntmps157
  go_wp2
  go_ret
  exact ⟨_, rfl, Kd.mV _ _ _ _ _, Below.refl _ _⟩
 have hn : wrap64 n = n := by unfold wrap64; omega
 have d0 : decide (n < 0) = false := decide_eq_false (by omega)
 have d1 : decide (0 < n) = true := decide_eq_true (by omega)
 have d2 : decide (n > 0) = true := decide_eq_true (by omega)
 have HN := Aside0.mk (show 0 ≤ wrap64 n by rw [hn]; exact h0)
 have HL := Aside0.mk (show (([] : List bm).length + (wrap64 n).toNat) * 40 ≤ 140737488355328 by rw [hn, List.length_nil]; omega)
 have HZ := Aside0.mk (show eB.M w w.heap.size (fun _ => False) Ha [.slice none 0 0, .int .i64 0, .bool false] from ⟨[.slice none 0 0], [.int .i64 0, .bool false], rfl, ⟨_, rfl, Kd.mV _ _ _ _ _⟩, ⟨[.int .i64 0], [.bool false], rfl, rfl, rfl⟩⟩)
 clear h0 hl hz
 go_enter Tryz.func157, Tryz.ntmps157
 go_wp2_with (first
  | ((with_reducible refine bC (b := .append) (xs := #[.tmp 20, .tmp 21]) rfl ?_); at_builtin; refine Kd.AD eB (w0 := w) w.heap.size rfl (.tmp 20) (.tmp 21) 75 3 113 (.agg #[(.slice none 0 0), (.int .i64 0), (.bool false)]) 40 rfl Tryz.underlying75 Tryz.underlying3 pr rfl (by decide) (by omega) (.slice none 0 0) ([] : List bm) Ha (wrap64 n) (fun _ => True) rfl rfl HZ.out (fun _ _ => trivial) (Kd.mV _ _ _ _ _) HN.out (Below.refl _ _) (Nat.le_refl _) ?aL ?_; (case aL => exact HL.out); intro v1 w1 ho hb hg bk; obtain ⟨A1, c1, ev⟩ := Kd.cH ho; subst ev; have HO := Aside0.mk ho; have HB := Aside0.mk hb; have z0 : (0 : Int) ≤ 0 := Int.le_refl _; clear ho hb hg bk))
 go_ret
 exact ⟨_, rfl, Kd.aat HO.out (Nat.zero_le _), HB.out⟩
theorem aX.calls (k : Nat) (cT : Nat → Prop) (A0 : Option Addr) (c0 : Nat) (l0 : List (List (bm))) (r : List (bm)) (w : World) (nE : Kd.V (Kd.slice 113 eB) 75 w w.heap.size (fun k_ => cT k_) (.slice A0 l0.length c0) l0) (h : aX.f k l0 = some r) :
  Calls Tryz.prog 127 #[.slice A0 l0.length c0] w fun e w' => ∃ iE : Value, e = .returned (iE) ∧ Kd.N eB 113 w' w.heap.size (fun k_ => (cT k_ ∨ w.heap.size ≤ k_)) iE r ∧ Below w.heap.size w w' := by
 have HM := Aside0.mk (show Kd.V (Kd.slice 113 eB) 75 w w.heap.size (fun k_ => (cT k_ ∨ w.heap.size ≤ k_)) (.slice A0 l0.length c0) l0 from Kd.af nE (fun k_ hk => .inl hk))
 have HB := Aside0.mk (Below.refl w.heap.size w)
 have H : (aX.l0 k l0 0 l0 (l0.length : Int) 0) = some r := h
 clear h
 have H' := Aside0.mk H
 clear H
 go_enter Tryz.func127, Tryz.ntmps127
 go_wp2
 go_loopg [3, 11] k (fun kq v3 v11 w' => ∃ (bg : Int) (bj : Int), v3 = .int .i64 bg ∧ v11 = .int .i64 bj ∧ Aside0 (aX.l0 kq l0 bg l0 (l0.length : Int) bj = some r) ∧ Aside0 (kq ≤ k) ∧ Aside0 (Kd.V (Kd.slice 113 eB) 75 w' w.heap.size (fun k_ => (cT k_ ∨ w.heap.size ≤ k_)) (.slice A0 l0.length c0) l0) ∧ Aside0 (Kd.V (Kd.slice 113 eB) 75 w' w.heap.size (fun k_ => (cT k_ ∨ w.heap.size ≤ k_)) (.slice A0 l0.length c0) l0) ∧ Aside0 (Below w.heap.size w w'))
 case atStart => exact ⟨(0), (0), dM, dM, H', ⟨Nat.le_refl _⟩, ⟨c_ HM.out⟩, ⟨c_ HM.out⟩, ⟨mb HB.out⟩⟩
 case round =>
  clear H'
  obtain ⟨bg, bj, rfl, rfl, HA, dP, bQ, ch, HB⟩ := hrel
  cases gk with
  | zero => exact absurd HA.out (by simp [aX.l0])
  | succ k1 =>
   have H := HA.out
   clear HA
   simp only [aX.l0] at H
   by_cases c2 : bj < (l0.length : Int)
   ·rw [if_pos c2] at H
    have uE := decide_eq_true c2
    clear c2
    replace H := fW H; obtain ⟨gX, H⟩ := H
    replace H := fW H; obtain ⟨iI, H⟩ := H
    replace H := ifN H; obtain ⟨c5, H⟩ := H
    have jR := decide_eq_false c5
    clear c5
    have H' := Aside0.mk H
    clear H
    have Wy : 0 ≤ (bj : Int) := bX
    have Wz : bj < (l0.length : Int) := bX
    obtain ⟨au_, aso, asp, asq, XA, M7, M8⟩ := ZP (Kd.bN ch.out).2.2 bj Wy Wz
    cases asq
    obtain ⟨au', ae6, ae7, Sp⟩ := Kd.ly ch.out [] bj Wy (by first | exact Wz | exact bX | (have e_ := (Kd.bN ch.out).1; omega))
    obtain ⟨apa, apb, rfl, EC, ED⟩ := Kd.dG ae7
    have yc := Sp 0 _ rfl
    rw [Nat.add_zero, show ((Kd.slice 113 eB)).sz = 1 from rfl, Nat.mul_one] at yc
    replace yc := Option.some.inj (yc.symm.trans XA)
    injection yc with fN iW fO
    rw [fN] at ED
    rw [fO] at EC
    have apc := Aside0.mk (show Kd.V eB 113 _ w.heap.size _ _ (oT l0 bj) from Kd.jo EC ED)
    clear fN iW fO ED EC
    clear Sp ae6
    have apd := Aside0.mk M8
    have ape := Aside0.mk M7
    clear M8 M7
    replace Wy := eq_true Wy
    replace Wz := eq_true Wz
    go_wp2
    go_roundg k1
    case measure => have := dP.out; omega
    case rel => exact ⟨(wrap64 (bg + ((oT l0 bj).length : Int))), (wrap64 (bj + 1)), dM, dM, H', ⟨by have := dP.out; omega⟩, ⟨c_ bQ.out⟩, ⟨c_ ch.out⟩, ⟨mb HB.out⟩⟩
   rw [if_neg c2] at H
   have uE := decide_eq_false c2
   clear c2
   by_cases cg : 0 ≤ bg ∧ bg < 3518437208883
   case neg => rw [if_neg cg] at H; exact absurd H (by simp)
   rw [if_pos cg] at H
   have CG := Aside0.mk cg
   clear cg
   have H' := Aside0.mk H
   clear H
   go_wp2_with (go_at_call 157; refine (Od bg CG.out.1 CG.out.2 _).mono ?_; rintro e wg ⟨vg, rfl, ho, hb⟩; have HOV := Aside0.mk (Kd.cY bQ.out (Kd.bf ho) hb); have HGN := Aside0.mk (Kd.R_N (Kd.bD (ok' := fun k_ => (cT k_ ∨ w.heap.size ≤ k_)) (Kd.jX (Kd.cO ho HB.out.size)) (fun k hk => Or.inr hk.2.1))); have HBG := Aside0.mk (pq HB.out hb); clear ho hb)
   go_loopg [6, 27] k1 (fun kq v6 v27 w' => ∃ (cd : List (bm)) (pW : Int), v27 = .int .i64 pW ∧ Aside0 (aX.l1 kq cd l0 (l0.length : Int) pW = some r) ∧ Aside0 (kq ≤ k1) ∧ Aside0 (Kd.N eB 113 w' w.heap.size (fun k_ => (cT k_ ∨ w.heap.size ≤ k_)) v6 cd) ∧ Aside0 (Kd.V (Kd.slice 113 eB) 75 w' w.heap.size (fun k_ => (cT k_ ∨ w.heap.size ≤ k_) ∧ some k_ ≠ (v6 : Value).ownBlock) (.slice A0 l0.length c0) l0) ∧ Aside0 (Below w.heap.size w w'))
   case atStart => exact ⟨(([] : List (bm))), (0), rfl, H', ⟨Nat.le_refl _⟩, ⟨HGN.out⟩, ⟨HOV.out⟩, ⟨HBG.out⟩⟩
   case round =>
    clear H'
    obtain ⟨cd, pW, rfl, HA, ft, cM, kB, HB⟩ := hrel
    cases gk with
    | zero => exact absurd HA.out (by simp [aX.l1])
    | succ k2 =>
     have H := HA.out
     clear HA
     simp only [aX.l1] at H
     by_cases c6 : pW < (l0.length : Int)
     rotate_left
     ·rw [if_neg c6] at H
      have hU := decide_eq_false c6
      clear c6
      obtain rfl := Option.some.inj H
      go_wp2
      go_ret
      exact ⟨_, jC, dX cM.out, mb HB.out⟩
     rw [if_pos c6] at H
     have hU := decide_eq_true c6
     clear c6
     replace H := fW H; obtain ⟨lO, H⟩ := H
     replace H := fW H; obtain ⟨oz, H⟩ := H
     replace H := np H; obtain ⟨acF, H⟩ := H
     replace H := br (cd ++ (oT l0 pW)) (fun ae8 => (aX.l1 k2 ae8 l0 (l0.length : Int) (wrap64 (pW + 1))) = some r) H; obtain ⟨ae8, alV, H⟩ := H
     have H' := Aside0.mk H
     clear H
     have XB : 0 ≤ (pW : Int) := bX
     have XC : pW < (l0.length : Int) := bX
     obtain ⟨ava, asr, ass, ast, XD, M9, M_⟩ := ZP (Kd.bN kB.out).2.2 pW XB XC
     cases ast
     obtain ⟨avb, ae9, ae_, Sr⟩ := Kd.ly kB.out [] pW XB (by first | exact XC | exact bX | (have e_ := (Kd.bN kB.out).1; omega))
     obtain ⟨apf, apg, rfl, EE, EF⟩ := Kd.dG ae_
     have yd := Sr 0 _ rfl
     rw [Nat.add_zero, show ((Kd.slice 113 eB)).sz = 1 from rfl, Nat.mul_one] at yd
     replace yd := Option.some.inj (yd.symm.trans XD)
     injection yd with fN iW fO
     rw [fN] at EF
     rw [fO] at EE
     have EG := Aside0.mk (show Kd.V eB 113 _ w.heap.size _ _ (oT l0 pW) from Kd.jo EE EF)
     clear fN iW fO EF EE
     clear Sr ae9
     have aph := Aside0.mk M_
     have api := Aside0.mk M9
     clear M_ M9
     replace XB := eq_true XB
     replace XC := eq_true XC
     go_wp2_with (first | ((with_reducible refine bC (b := .append) (xs := #[.tmp 31, .tmp 32]) rfl ?_); at_builtin; refine Kd.kK eB (w0 := w) w.heap.size rfl (.tmp 31) (.tmp 32) 75 113 (.agg #[(.slice none 0 0), (.int .i64 0), (.bool false)]) 40 rfl Tryz.underlying75 pr rfl (by decide) (by omega) u6 cd (oT l0 pW) _ _ _ (fun k_ => (cT k_ ∨ w.heap.size ≤ k_)) (fun k_ => ((fun k_ => (cT k_ ∨ w.heap.size ≤ k_))) k_ ∧ some k_ ≠ (u6 : Value).ownBlock) rfl rfl ?aO ?aR (fun _ hk => hk) ?aF ?aB ?aS ?aL ?_; (case aR => exact (by skip; exact Kd.PS (Kd.af (ok' := (fun k_ => ((fun k_ => (cT k_ ∨ w.heap.size ≤ k_))) k_ ∧ some k_ ≠ (u6 : Value).ownBlock)) (EG.out) (fun k_ hk => ⟨hk.1, hk.2⟩)))); (case aB => exact (mb HB.out)); (case aF => exact (fun k_ hk => (.inr (Nat.le_trans (aC (mb HB.out)) hk)))); (case aO => exact (dX cM.out)); (case aS => exact (aC (mb HB.out))); (case aL => have := acF.out; omega); intro v161 BZ ho hb hg bk; rw [← alV.out] at ho; replace kB := am (Kd.bH (ok := (fun k_ => (cT k_ ∨ w.heap.size ≤ k_))) (c_ kB.out) hg bk); replace EG := am (Kd.bH (ok := (fun k_ => (cT k_ ∨ w.heap.size ≤ k_))) (c_ EG.out) hg bk); replace HB := am (hb); have alW := am (ho); clear cM; clear ho hb hg bk))
     go_roundg k2
     case measure => have := dP.out; have := ft.out; omega
     case rel => exact ⟨(ae8), (wrap64 (pW + 1)), dM, H', ⟨by have := dP.out; have := ft.out; omega⟩, ⟨dX alW.out⟩, ⟨c_ kB.out⟩, ⟨mb HB.out⟩⟩
end Go.Proofs.YtggiicplcglalaaGreat.All
end
