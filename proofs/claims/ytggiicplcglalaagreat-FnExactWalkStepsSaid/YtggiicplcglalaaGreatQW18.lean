/- Part of the proof that FnExactWalkSteps answers true. -/
import Derived.Test.YtggiicplcglalaaGreatQW17
section
namespace Go.Proofs.YtggiicplcglalaaGreat.All
open Go.RowKit YtggiicplcglalaaGreatW.PrintWords YtggiicplcglalaaGreatW.PrintLast YtggiicplcglalaaGreatW.PrintMore
attribute [local go_sem] max2_int min2_int max_two min_two max_three min_three max_four min_four
set_option linter.unusedVariables false
set_option linter.unusedSimpArgs false
set_option maxHeartbeats 8000000
set_option maxRecDepth 100000
def ax.j0 : Nat → Bool → List (List Int) → List (List Int) → List (List Int) → List (List Int) → Option (Bool)
 | 0, _, _, _, _, _ => none
 | k + 1, td, V8, V9, V_, Va => if td = true then (some false) else ((df.f k V8 V9).bind fun Yv => ((fQ.f k V_ Va Yv.1 Yv.2).bind fun adr => (if adr = true then (some true) else (some false))))
def ax.f (k : Nat) (aD : List (List Int)) (aG : List (List Int)) (a1 : Int) : Option (Bool) := (eP.f k aD aG 1048576).bind fun Ir => (if Ir < 0 then (some true) else ((df.f k aD aG).bind fun Fe => ((dR.f k Fe.1 Fe.2 a1).bind fun Ff => ((df.f k aD aG).bind fun pL => ((dQ.f k pL.1 pL.2 a1).bind fun Fg => (if Fg.1 = Ff.1 then (ax.j0 k (Fg.2 != Ff.2) aD aG pL.1 pL.2) else (ax.j0 k true aD aG pL.1 pL.2)))))))
theorem ax.bG : ∀ k, (∀ y0 y1 y2 y3 y4, bB (ax.j0 k y0 y1 y2 y3 y4) (ax.j0 (k + 1) y0 y1 y2 y3 y4))
 | 0 => fun _ _ _ _ _ r h => by simp [ax.j0] at h
 | k + 1 => by
  have eQ := ax.bG k
  ·intro y0 y1 y2 y3 y4
   unfold ax.j0
   repeat' first
   | (with_reducible exact eQ ..)
   | (with_reducible exact dQ.mono ..)
   | (with_reducible exact fQ.mono ..)
   | (with_reducible exact eP.mono ..)
   | (with_reducible exact df.mono ..)
   | (with_reducible exact dR.mono ..)
   | (with_reducible exact bB.refl _)
   | (with_reducible exact bB.none _)
   | (with_reducible refine bB.ite ?_ ?_)
   | (with_reducible refine bB.bind ?_ (fun _ => ?_))
theorem ax.mono : ∀ a0 a1 a2 k, bB (ax.f k a0 a1 a2) (ax.f (k + 1) a0 a1 a2) := by
 intro a0 a1 a2 k
 have eQ := ax.bG k
 unfold ax.f
 repeat' first
   | (with_reducible exact eQ ..)
   | (with_reducible exact dQ.mono ..)
   | (with_reducible exact fQ.mono ..)
   | (with_reducible exact eP.mono ..)
   | (with_reducible exact df.mono ..)
   | (with_reducible exact dR.mono ..)
   | (with_reducible exact bB.refl _)
   | (with_reducible exact bB.none _)
   | (with_reducible refine bB.ite ?_ ?_)
   | (with_reducible refine bB.bind ?_ (fun _ => ?_))
theorem ax.calls (k : Nat) (ay : Option Addr) (ap : Nat) (aD : List (List Int)) (ae : Option Addr) (a8 : Nat) (aG : List (List Int)) (a1 : Int) (r : Bool) (w : World) (db : Kd.C (Kd.slice 3 (Kd.int .i64)) w ay aD.length aD) (dc : aD.length ≤ ap) (dH : Kd.C (Kd.slice 3 (Kd.int .i64)) w ae aG.length aG) (dI : aG.length ≤ a8) (h : ax.f k aD aG a1 = some r) :
  Calls Tryz.prog 6 #[.agg #[.slice ay aD.length ap, .slice ae aG.length a8], .int .i64 a1] w fun e w' => e = .returned (.bool r) ∧ Below w.heap.size w w' := by
 have aj_ := Tryz.underlying24
 have rD := Tryz.underlying28
 have bl := Aside0.mk db
 have bz := Aside0.mk dc
 clear db dc
 have bx := Aside0.mk dH
 have cE := Aside0.mk dI
 clear dH dI
 have HB := Aside0.mk (Below.refl w.heap.size w)
 have H : ((eP.f k aD aG 1048576).bind fun Ir => (if Ir < 0 then (some true) else ((df.f k aD aG).bind fun Fe => ((dR.f k Fe.1 Fe.2 a1).bind fun Ff => ((df.f k aD aG).bind fun pL => ((dQ.f k pL.1 pL.2 a1).bind fun Fg => (if Fg.1 = Ff.1 then (ax.j0 k (Fg.2 != Ff.2) aD aG pL.1 pL.2) else (ax.j0 k true aD aG pL.1 pL.2)))))))) = some r := h
 clear h
 replace H := bZ H; obtain ⟨Ir, A3, H⟩ := H
 by_cases c4 : Ir < 0
 ·rw [if_pos c4] at H
  have iI := decide_eq_true c4
  clear c4
  obtain rfl := Option.some.inj H
  go_enter Tryz.func6, Tryz.ntmps6
  go_wp2_with (first | ((with_reducible refine ah (N := 2) rfl ?_); refine bE 2 #[.slice ay aD.length ap, .slice ae aG.length a8] 24 ?_; intro rX hg w5 bO hb; have dV := am (bO); have RX := gW HB hg; have aj' := RX; replace HB := bS HB hb; clear hb bO hg; have C0 := cG dV.out; have C1 := cR dV.out; have C2 := aH dV.out 0; have C3 := aH dV.out 1) | ((with_reducible refine gC 8 rfl ?_); refine gL 13 Tryz.func8 #[.agg #[.slice ay aD.length ap, .slice ae aG.length a8], .int .i64 1048576] ?_; (with_reducible refine (eP.calls k _ _ aD _ _ aG 1048576 Ir _ ?aT ?aU ?ao ?ar A3.out).mono ?_); (case aT => exact cB bl HB); (case aU => exact bz.out); (case ao => exact cB bx HB); (case ar => exact cE.out); rintro e w7 ⟨rfl, hb⟩; refine ⟨_, rfl, ?_⟩; replace dV := kS dV hb; replace HB := bS HB hb; (try clear hb)))
  go_ret
  exact ⟨jC, mb HB.out⟩
 rw [if_neg c4] at H
 have iI := decide_eq_false c4
 clear c4
 replace H := bZ H; obtain ⟨⟨RY, RZ⟩, A8, H⟩ := H; dsimp only at H
 replace H := bZ H; obtain ⟨⟨aka, akb⟩, A9, H⟩ := H; dsimp only at H
 replace H := bZ H; obtain ⟨⟨mv, nX⟩, A10, H⟩ := H; dsimp only at H
 replace H := bZ H; obtain ⟨⟨akc, akd⟩, A11, H⟩ := H; dsimp only at H
 have ads := Aside0.mk H
 clear H
 go_enter Tryz.func6, Tryz.ntmps6
 go_upto_region 8 with (first | ((with_reducible refine ah (N := 2) rfl ?_); refine bE 2 #[.slice ay aD.length ap, .slice ae aG.length a8] 24 ?_; intro rX hg E2 bO hb; have dV := am (bO); have RX := gW HB hg; have aj' := RX; replace HB := bS HB hb; clear hb bO hg; have KY := cG dV.out; have KZ := cR dV.out; have K0 := aH dV.out 0; have K3 := aH dV.out 1) | ((with_reducible refine gC 8 rfl ?_); refine gL 13 Tryz.func8 #[.agg #[.slice ay aD.length ap, .slice ae aG.length a8], .int .i64 1048576] ?_; (with_reducible refine (eP.calls k _ _ aD _ _ aG 1048576 Ir _ ?aT ?aU ?ao ?ar A3.out).mono ?_); (case aT => exact cB bl HB); (case aU => exact bz.out); (case ao => exact cB bx HB); (case ar => exact cE.out); rintro e NQ ⟨rfl, hb⟩; refine ⟨_, rfl, ?_⟩; replace dV := kS dV hb; replace HB := bS HB hb; (try clear hb); have yQ := cG dV.out; have yR := cR dV.out; have yS := aH dV.out 0; have yT := aH dV.out 1) | ((with_reducible refine gC 10 rfl ?_); refine gL 18 Tryz.func10 #[.agg #[.slice ay aD.length ap, .slice ae aG.length a8]] ?_; (with_reducible refine (df.calls k _ _ aD _ _ aG RY RZ _ ?aT ?aU ?ao ?ar A8.out).mono ?_); (case aT => exact cB bl HB); (case aU => exact bz.out); (case ao => exact cB bx HB); (case ar => exact cE.out); rintro e T6 ⟨v767, v770, rfl, cC, vo, hb⟩; refine ⟨_, rfl, ?_⟩; have pM := am (Kd.gI cC (aC (mb HB.out))); have pN := am (Kd.gI vo (aC (mb HB.out))); replace dV := kS dV hb; replace HB := bS HB hb; (try clear hb cC vo); obtain ⟨VR, VS, ac'⟩ := Kd.gj pM.out; subst ac'; obtain ⟨P2, P3, aaT⟩ := Kd.gj pN.out; subst aaT) | ((with_reducible refine gC 38 rfl ?_); refine gL 20 Tryz.func38 #[.agg #[.slice VR RY.length VS, .slice P2 RZ.length P3], .int .i64 a1] ?_; (with_reducible refine (dR.calls k _ _ RY _ _ RZ a1 aka akb _ ?aT ?aU ?ao ?ar A9.out).mono ?_); (case aT => exact fy (Kd.cj pM.out).2.2); (case aU => exact (Kd.cj pM.out).2.1); (case ao => exact fy (Kd.cj pN.out).2.2); (case ar => exact (Kd.cj pN.out).2.1); rintro e P4 ⟨rfl, hb⟩; refine ⟨_, rfl, ?_⟩; replace pM := am (Kd.dm (gP pM.out) hb); replace pN := am (Kd.dm (gP pN.out) hb); replace dV := kS dV hb; replace HB := bS HB hb; (try clear hb); have Vb := cG dV.out; have Vc := cR dV.out; have Vd := aH dV.out 0; have Ve := aH dV.out 1) | ((with_reducible refine gC 10 rfl ?_); refine gL 24 Tryz.func10 #[.agg #[.slice ay aD.length ap, .slice ae aG.length a8]] ?_; (with_reducible refine (df.calls k _ _ aD _ _ aG mv nX _ ?aT ?aU ?ao ?ar A10.out).mono ?_); (case aT => exact cB bl HB); (case aU => exact bz.out); (case ao => exact cB bx HB); (case ar => exact cE.out); rintro e w22 ⟨v775, v778, rfl, cC, vo, hb⟩; refine ⟨_, rfl, ?_⟩; have uf := am (Kd.gI (Kd.kE (Kd.kE cC (Kd.sX (gP pM.out))) (Kd.sX (gP pN.out))) (aC (mb HB.out))); have ug := am (Kd.gI (Kd.kE (Kd.kE vo (Kd.sX (gP pM.out))) (Kd.sX (gP pN.out))) (aC (mb HB.out))); replace pM := am (Kd.cJ (Kd.mP (Kd.mP (Kd.Bm (gP pM.out) hb) (Kd.kV cC)) (Kd.kV vo)) (fun _ h_ => h_.1)); replace pN := am (Kd.cJ (Kd.mP (Kd.mP (Kd.Bm (gP pN.out) hb) (Kd.kV cC)) (Kd.kV vo)) (fun _ h_ => h_.1)); replace dV := kS dV hb; replace HB := bS HB hb; (try clear hb cC vo)) | ((with_reducible refine ah (N := 8) rfl ?_); refine bE 8 #[.slice none 0 0, .slice none 0 0] 28 ?_; intro kb hg T7 bO hb; replace pM := am (Kd.dm (gP pM.out) hb); replace pN := am (Kd.dm (gP pN.out) hb); replace uf := am (Kd.dm (gP uf.out) hb); replace ug := am (Kd.dm (gP ug.out) hb); have fR := am (bO); have ake := gW HB hg; have auN := ake; replace HB := bS HB hb; have wI := am ((by rw [hg]; exact Nat.ne_of_lt (d_ (g := rX) (o := .cells #[.slice ay aD.length ap, .slice ae aG.length a8] 24 (0, 0)) (ct dV.out)) : rX ≠ kb)); have Ns := am ((by rw [hg]; exact Nat.ne_of_gt (d_ (g := rX) (o := .cells #[.slice ay aD.length ap, .slice ae aG.length a8] 24 (0, 0)) (ct dV.out)) : kb ≠ rX)); replace dV := kS dV hb; clear hb bO hg; obtain ⟨kp, kg, Hb⟩ := Kd.gj uf.out; subst Hb; have auO := Ns.out; have auP := wI.out; have aoZ := cG fR.out; have ao0 := cR fR.out; have ao1 := aH fR.out 0; have ao2 := aH fR.out 1; obtain ⟨oy, o9, aaL⟩ := Kd.gj ug.out; subst aaL) | ((with_reducible refine gC 37 rfl ?_); refine gL 28 Tryz.func37 #[.agg #[.slice kp mv.length kg, .slice oy nX.length o9], .int .i64 a1] ?_; (with_reducible refine (dQ.calls k _ _ mv _ _ nX a1 akc akd _ ?aT ?aU ?ao ?ar A11.out).mono ?_); (case aT => refine (Kd.cj (e := 40) (base := w.heap.size) (ok := fun k_ => ((some k_ ≠ (.slice oy nX.length o9 : Value).ownBlock ∧ some k_ ≠ (.slice VR RY.length VS : Value).ownBlock) ∧ some k_ ≠ (.slice P2 RZ.length P3 : Value).ownBlock)) (n := mv.length) (c := kg) ?_).2.2; exact (by (with_reducible repeat (first | apply Kd.iS | apply Kd.iT | apply Kd.gw)); exact (Kd.cJ (Kd.jJ (p := ⟨kb, 1, none⟩) (Kd.jJ (p := ⟨kb, 0, none⟩) (Kd.jF uf.out fR.out (by decide)) (fun _ hk => hk.2) (.slice kp mv.length kg)) (fun _ hk => hk.2) (.slice oy nX.length o9)) (fun _ h_ => h_.1)))); (case aU => exact (Kd.cj uf.out).2.1); (case ao => refine (Kd.cj (e := 40) (base := w.heap.size) (ok := fun k_ => ((some k_ ≠ (.slice kp mv.length kg : Value).ownBlock ∧ some k_ ≠ (.slice VR RY.length VS : Value).ownBlock) ∧ some k_ ≠ (.slice P2 RZ.length P3 : Value).ownBlock)) (n := nX.length) (c := o9) ?_).2.2; exact (by (with_reducible repeat (first | apply Kd.iS | apply Kd.iT | apply Kd.gw)); exact (Kd.cJ (Kd.jJ (p := ⟨kb, 1, none⟩) (Kd.jJ (p := ⟨kb, 0, none⟩) (Kd.jF ug.out fR.out (by decide)) (fun _ hk => hk.2) (.slice kp mv.length kg)) (fun _ hk => hk.2) (.slice oy nX.length o9)) (fun _ h_ => h_.1)))); (case ar => exact (Kd.cj ug.out).2.1); rintro e w28 ⟨rfl, hb⟩; refine ⟨_, rfl, ?_⟩; replace pM := am (Kd.dm (by (with_reducible repeat (first | apply Kd.iS | apply Kd.iT | apply Kd.gw)); exact (Kd.cJ (Kd.jJ (p := ⟨kb, 1, none⟩) (Kd.jJ (p := ⟨kb, 0, none⟩) (Kd.jF pM.out fR.out (by decide)) (fun _ hk => hk.2) (.slice kp mv.length kg)) (fun _ hk => hk.2) (.slice oy nX.length o9)) (fun _ h_ => h_.1))) hb); replace pN := am (Kd.dm (by (with_reducible repeat (first | apply Kd.iS | apply Kd.iT | apply Kd.gw)); exact (Kd.cJ (Kd.jJ (p := ⟨kb, 1, none⟩) (Kd.jJ (p := ⟨kb, 0, none⟩) (Kd.jF pN.out fR.out (by decide)) (fun _ hk => hk.2) (.slice kp mv.length kg)) (fun _ hk => hk.2) (.slice oy nX.length o9)) (fun _ h_ => h_.1))) hb); replace uf := am (Kd.dm (by (with_reducible repeat (first | apply Kd.iS | apply Kd.iT | apply Kd.gw)); exact (Kd.cJ (Kd.jJ (p := ⟨kb, 1, none⟩) (Kd.jJ (p := ⟨kb, 0, none⟩) (Kd.jF uf.out fR.out (by decide)) (fun _ hk => hk.2) (.slice kp mv.length kg)) (fun _ hk => hk.2) (.slice oy nX.length o9)) (fun _ h_ => h_.1))) hb); replace ug := am (Kd.dm (by (with_reducible repeat (first | apply Kd.iS | apply Kd.iT | apply Kd.gw)); exact (Kd.cJ (Kd.jJ (p := ⟨kb, 1, none⟩) (Kd.jJ (p := ⟨kb, 0, none⟩) (Kd.jF ug.out fR.out (by decide)) (fun _ hk => hk.2) (.slice kp mv.length kg)) (fun _ hk => hk.2) (.slice oy nX.length o9)) (fun _ h_ => h_.1))) hb); replace dV := am (bR (g := rX) (o := .cells #[.slice ay aD.length ap, .slice ae aG.length a8] 24 (0, 0)) (by (with_reducible repeat (first | refine ba ?_ _ | refine az ?_ | refine b_ ?_ _)); refine gi ?_ wI.out _; (with_reducible repeat (first | refine ba ?_ _ | refine az ?_ | refine b_ ?_ _)); refine gi ?_ wI.out _; exact ct dV.out) hb); replace fR := am (bR (g := kb) (o := .cells #[.slice kp mv.length kg, .slice oy nX.length o9] 28 (0, 0)) (by (with_reducible repeat (first | refine ba ?_ _ | refine az ?_ | refine b_ ?_ _)); refine dS (cs := #[.slice kp mv.length kg, .slice none 0 0]) ?_ 1 _ rfl; (with_reducible repeat (first | refine ba ?_ _ | refine az ?_ | refine b_ ?_ _)); refine dS (cs := #[.slice none 0 0, .slice none 0 0]) ?_ 0 _ rfl; exact ct fR.out) hb); replace HB := bS HB hb; (try clear hb)))
 (try simp only [Act.put, List.setIfInBounds_toArray, List.set_cons_zero, List.set_cons_succ])
 go_cut [38] (fun v38 wc => ∃ (kq : Nat) (DY : Bool), v38 = .bool DY ∧ Aside0 (ax.j0 kq DY aD aG mv nX = some r) ∧ Aside0 (kq ≤ k) ∧ Aside0 (Kd.S (Kd.slice 3 (Kd.int .i64)) 40 wc w.heap.size (fun k_ => some k_ ≠ ((.slice oy nX.length o9) : Value).ownBlock) (.slice kp mv.length kg) mv) ∧ Aside0 (Kd.S (Kd.slice 3 (Kd.int .i64)) 40 wc w.heap.size (fun k_ => some k_ ≠ ((.slice kp mv.length kg) : Value).ownBlock) (.slice oy nX.length o9) nX) ∧ Aside0 (wc.heap[rX]? = some (.cells #[(.slice ay aD.length ap), (.slice ae aG.length a8)] 24 (0, 0))) ∧ Aside0 (wc.heap[kb]? = some (.cells #[(.slice kp mv.length kg), (.slice oy nX.length o9)] 28 (0, 0))) ∧ Aside0 (Below w.heap.size w wc))
 case first =>
  have H := ads.out
  clear ads
  by_cases DV : akc = aka
  rotate_left
  ·rw [if_neg DV] at H
   have pH := iQ DV
   have akf := iR DV
   (first | rw [pH] | (simp only [gn, oG]; rw [pH]) | skip)
   have H' := Aside0.mk H
   clear H
   go_wp2
   go_meet
   case rel => exact ⟨_, (true), dM, H', ⟨by first | omega | exact Nat.le_refl _⟩, ⟨Kd.cJ (gP uf.out) (fun _ hk => hk.1.1)⟩, ⟨Kd.cJ (gP ug.out) (fun _ hk => hk.1.1)⟩, ⟨ct dV.out⟩, ⟨ct fR.out⟩, ⟨mb HB.out⟩⟩
  rw [if_pos DV] at H
  have pH := il DV
  have akf := im DV
  clear DV
  (first | rw [pH] | (simp only [gn, oG]; rw [pH]) | skip)
  have H' := Aside0.mk H
  clear H
  go_wp2
  go_meet
  case rel => exact ⟨_, ((akd != akb)), dM, H', ⟨by first | omega | exact Nat.le_refl _⟩, ⟨Kd.cJ (gP uf.out) (fun _ hk => hk.1.1)⟩, ⟨Kd.cJ (gP ug.out) (fun _ hk => hk.1.1)⟩, ⟨ct dV.out⟩, ⟨ct fR.out⟩, ⟨mb HB.out⟩⟩
 case rest =>
  clear ads
  obtain ⟨kq, DY, rfl, HA, awf, eF, eG, dV, fR, HB⟩ := hcut
  cases kq with
  | zero => exact absurd HA.out (by simp [ax.j0])
  | succ Vf =>
   have H := HA.out
   clear HA
   simp only [ax.j0] at H
   by_cases Aj : DY = true
   ·subst Aj
    replace H := sY H
    obtain rfl := Option.some.inj H
    go_wp2
    go_ret
    exact ⟨jC, mb HB.out⟩
   replace Aj := Bool.eq_false_iff.mpr Aj
   subst Aj
   replace H := sZ H
   replace H := bZ H; obtain ⟨⟨Nt, Nu⟩, A31, H⟩ := H; dsimp only at H
   replace H := bZ H; obtain ⟨adr, A32, H⟩ := H
   by_cases c33 : adr = true
   ·subst c33
    replace H := sY H
    obtain rfl := Option.some.inj H
    try go_wp2
    replace eF := am (Kd.gw eF.out)
    replace eG := am (Kd.gw eG.out)
    replace dV := am (az dV.out)
    replace fR := am (az fR.out)
    replace HB := am (bd HB.out)
    refine fA (n := 5) (S := fun w' => w'.cell? ⟨kb, 0, none⟩ = some (.slice kp mv.length kg) ∧ w'.cell? ⟨kb, 1, none⟩ = some (.slice oy nX.length o9) ∧ w'.cell? ⟨rX, 0, none⟩ = some (.slice ay aD.length ap) ∧ w'.cell? ⟨rX, 1, none⟩ = some (.slice ae aG.length a8)) (ds := []) (Array.replicate 5 false) (by kernel_rfl) rfl rfl ⟨(aQ fR.out 0).trans rfl, (aQ fR.out 1).trans rfl, (aQ dV.out 0).trans rfl, (aQ dV.out 1).trans rfl⟩ (fun ai => ?_)
    generalize wc.drew = w34 at eF eG dV fR HB ai ⊢
    refine tf (i := 0) (N := some 39) (v := ?_) (a' := ?_) #[true, false, false, false, false] rfl rfl (by kernel_rfl) (fun _ _ _ h => h) (Or.inl ⟨by rfl, ?_⟩) ai ?_ ?_; rotate_left; rintro w' ⟨s0, s1, s2, s3⟩; go_simp; with_reducible rfl; rotate_left; exact Ih
    refine tf (i := 1) (N := some 40) (v := ?_) (a' := ?_) #[true, true, false, false, false] rfl rfl (by kernel_rfl) (fun _ _ _ h => h) (Or.inl ⟨by rfl, ?_⟩) ai ?_ ?_; rotate_left; rintro w' ⟨s0, s1, s2, s3⟩; go_simp; with_reducible rfl; rotate_left; exact Ih
    refine R0 (i := 2) (N := some 41) #[true, true, true, false, false] rfl rfl (by kernel_rfl) (by decide) (fun K hK => ?_)
    refine gY Tryz.func10 #[.agg #[.slice ay aD.length ap, .slice ae aG.length a8]] ?_
    with_reducible refine (df.calls Vf _ _ aD _ _ aG Nt Nu _ ?aT ?aU ?ao ?ar A31.out).mono ?_
    (case aT => exact cB bl HB)
    (case aU => exact bz.out)
    (case ao => exact cB bx HB)
    (case ar => exact cE.out)
    rintro e Qo ⟨v784, v787, rfl, cC, vo, hb⟩
    refine ⟨_, rfl, ?_⟩
    have rY := am (Kd.gI (Kd.kE (Kd.kE cC (Kd.sX (gP eF.out))) (Kd.sX (gP eG.out))) (aC (mb HB.out)))
    have rZ := am (Kd.gI (Kd.kE (Kd.kE vo (Kd.sX (gP eF.out))) (Kd.sX (gP eG.out))) (aC (mb HB.out)))
    replace eF := am (Kd.cJ (Kd.mP (Kd.mP (Kd.Bm (gP eF.out) hb) (Kd.kV cC)) (Kd.kV vo)) (fun _ h_ => h_.1))
    replace eG := am (Kd.cJ (Kd.mP (Kd.mP (Kd.Bm (gP eG.out) hb) (Kd.kV cC)) (Kd.kV vo)) (fun _ h_ => h_.1))
    replace dV := kS dV hb
    replace fR := kS fR hb
    replace HB := bS HB hb
    (try clear hb)
    (try clear sj)
    (try clear hk)
    (try clear hi)
    (try clear cC)
    (try clear vo)
    obtain ⟨ajP, ajQ, VZ⟩ := Kd.gj rY.out
    (first | subst VZ | (injection VZ with FJ QL FM; have QM := FJ.symm; have QN := FM.symm; clear FJ QL FM; subst QM; subst QN))
    obtain ⟨VX, VY, Nr⟩ := Kd.gj rZ.out
    (first | subst Nr | (injection Nr with FJ QL FM; have QM := FJ.symm; have QN := FM.symm; clear FJ QL FM; subst QM; subst QN))
    refine hK.out _ _ ⟨(aQ fR.out 0).trans rfl, (aQ fR.out 1).trans rfl, (aQ dV.out 0).trans rfl, (aQ dV.out 1).trans rfl⟩ (fun ai => ?_)
    clear hK K
    refine nY 41 ?_
    refine R0 (i := 3) (N := some 42) #[true, true, true, true, false] rfl rfl (by kernel_rfl) (by decide) (fun K hK => ?_)
    refine gY Tryz.func13 #[.agg #[.slice kp mv.length kg, .slice oy nX.length o9], .agg #[.slice ajP Nt.length ajQ, .slice VX Nu.length VY]] ?_
    with_reducible refine (fQ.calls Vf _ _ mv _ _ nX _ _ Nt _ _ Nu true _ ?aT ?aU ?ao ?ar ?gy ?nW ?R1 ?R2 A32.out).mono ?_
    (case aT => exact fy (Kd.cj eF.out).2.2)
    (case aU => exact (Kd.cj eF.out).2.1)
    (case ao => exact fy (Kd.cj eG.out).2.2)
    (case ar => exact (Kd.cj eG.out).2.1)
    (case gy => exact fy (Kd.cj rY.out).2.2)
    (case nW => exact (Kd.cj rY.out).2.1)
    (case R1 => exact fy (Kd.cj rZ.out).2.2)
    (case R2 => exact (Kd.cj rZ.out).2.1)
    rintro e w38 ⟨rfl, hb⟩
    refine ⟨_, rfl, ?_⟩
    replace eF := am (Kd.dm (gP eF.out) hb)
    replace eG := am (Kd.dm (gP eG.out) hb)
    replace rY := am (Kd.dm (gP rY.out) hb)
    replace rZ := am (Kd.dm (gP rZ.out) hb)
    replace dV := kS dV hb
    replace fR := kS fR hb
    replace HB := bS HB hb
    (try clear hb)
    (try clear sj)
    (try clear hk)
    (try clear hi)
    refine hK.out _ _ ⟨(aQ fR.out 0).trans rfl, (aQ fR.out 1).trans rfl, (aQ dV.out 0).trans rfl, (aQ dV.out 1).trans rfl⟩ (fun ai => ?_)
    clear hK K
    refine nY 42 ?_
    refine Lj (i := 4) (N := some 43) (v := ?_) (a' := ?_) #[true, true, true, true, true] rfl rfl (by kernel_rfl) (fun _ _ _ h => h) (Or.inl ⟨by rfl, ?_⟩) ?_ ?_; rotate_left; intro w'; go_simp; with_reducible rfl; rotate_left; exact Ih
    refine R3 (by kernel_rfl) ?_
    try go_wp2
    go_ret
    exact ⟨jC, mb HB.out⟩
   replace c33 := Bool.eq_false_iff.mpr c33
   subst c33
   replace H := sZ H
   obtain rfl := Option.some.inj H
   try go_wp2
   replace eF := am (Kd.gw eF.out)
   replace eG := am (Kd.gw eG.out)
   replace dV := am (az dV.out)
   replace fR := am (az fR.out)
   replace HB := am (bd HB.out)
   refine fA (n := 5) (S := fun w' => w'.cell? ⟨kb, 0, none⟩ = some (.slice kp mv.length kg) ∧ w'.cell? ⟨kb, 1, none⟩ = some (.slice oy nX.length o9) ∧ w'.cell? ⟨rX, 0, none⟩ = some (.slice ay aD.length ap) ∧ w'.cell? ⟨rX, 1, none⟩ = some (.slice ae aG.length a8)) (ds := []) (Array.replicate 5 false) (by kernel_rfl) rfl rfl ⟨(aQ fR.out 0).trans rfl, (aQ fR.out 1).trans rfl, (aQ dV.out 0).trans rfl, (aQ dV.out 1).trans rfl⟩ (fun ai => ?_)
   generalize wc.drew = w39 at eF eG dV fR HB ai ⊢
   refine tf (i := 0) (N := some 39) (v := ?_) (a' := ?_) #[true, false, false, false, false] rfl rfl (by kernel_rfl) (fun _ _ _ h => h) (Or.inl ⟨by rfl, ?_⟩) ai ?_ ?_; rotate_left; rintro w' ⟨s0, s1, s2, s3⟩; go_simp; with_reducible rfl; rotate_left; exact Ih
   refine tf (i := 1) (N := some 40) (v := ?_) (a' := ?_) #[true, true, false, false, false] rfl rfl (by kernel_rfl) (fun _ _ _ h => h) (Or.inl ⟨by rfl, ?_⟩) ai ?_ ?_; rotate_left; rintro w' ⟨s0, s1, s2, s3⟩; go_simp; with_reducible rfl; rotate_left; exact Ih
   refine R0 (i := 2) (N := some 41) #[true, true, true, false, false] rfl rfl (by kernel_rfl) (by decide) (fun K hK => ?_)
   refine gY Tryz.func10 #[.agg #[.slice ay aD.length ap, .slice ae aG.length a8]] ?_
   with_reducible refine (df.calls Vf _ _ aD _ _ aG Nt Nu _ ?aT ?aU ?ao ?ar A31.out).mono ?_
   (case aT => exact cB bl HB)
   (case aU => exact bz.out)
   (case ao => exact cB bx HB)
   (case ar => exact cE.out)
   rintro e w40 ⟨v784, v787, rfl, cC, vo, hb⟩
   refine ⟨_, rfl, ?_⟩
   have rY := am (Kd.gI (Kd.kE (Kd.kE cC (Kd.sX (gP eF.out))) (Kd.sX (gP eG.out))) (aC (mb HB.out)))
   have rZ := am (Kd.gI (Kd.kE (Kd.kE vo (Kd.sX (gP eF.out))) (Kd.sX (gP eG.out))) (aC (mb HB.out)))
   replace eF := am (Kd.cJ (Kd.mP (Kd.mP (Kd.Bm (gP eF.out) hb) (Kd.kV cC)) (Kd.kV vo)) (fun _ h_ => h_.1))
   replace eG := am (Kd.cJ (Kd.mP (Kd.mP (Kd.Bm (gP eG.out) hb) (Kd.kV cC)) (Kd.kV vo)) (fun _ h_ => h_.1))
   replace dV := kS dV hb
   replace fR := kS fR hb
   replace HB := bS HB hb
   (try clear hb)
   (try clear sj)
   (try clear hk)
   (try clear hi)
   (try clear cC)
   (try clear vo)
   obtain ⟨Vg, Vh, Vi⟩ := Kd.gj rY.out
   (first | subst Vi | (injection Vi with FJ QL FM; have QM := FJ.symm; have QN := FM.symm; clear FJ QL FM; subst QM; subst QN))
   obtain ⟨Eg, kt, C_⟩ := Kd.gj rZ.out
   (first | subst C_ | (injection C_ with FJ QL FM; have QM := FJ.symm; have QN := FM.symm; clear FJ QL FM; subst QM; subst QN))
   refine hK.out _ _ ⟨(aQ fR.out 0).trans rfl, (aQ fR.out 1).trans rfl, (aQ dV.out 0).trans rfl, (aQ dV.out 1).trans rfl⟩ (fun ai => ?_)
   clear hK K
   refine nY 41 ?_
   refine R0 (i := 3) (N := some 42) #[true, true, true, true, false] rfl rfl (by kernel_rfl) (by decide) (fun K hK => ?_)
   refine gY Tryz.func13 #[.agg #[.slice kp mv.length kg, .slice oy nX.length o9], .agg #[.slice Vg Nt.length Vh, .slice Eg Nu.length kt]] ?_
   with_reducible refine (fQ.calls Vf _ _ mv _ _ nX _ _ Nt _ _ Nu false _ ?aT ?aU ?ao ?ar ?gy ?nW ?R1 ?R2 A32.out).mono ?_
   (case aT => exact fy (Kd.cj eF.out).2.2)
   (case aU => exact (Kd.cj eF.out).2.1)
   (case ao => exact fy (Kd.cj eG.out).2.2)
   (case ar => exact (Kd.cj eG.out).2.1)
   (case gy => exact fy (Kd.cj rY.out).2.2)
   (case nW => exact (Kd.cj rY.out).2.1)
   (case R1 => exact fy (Kd.cj rZ.out).2.2)
   (case R2 => exact (Kd.cj rZ.out).2.1)
   rintro e w43 ⟨rfl, hb⟩
   refine ⟨_, rfl, ?_⟩
   replace eF := am (Kd.dm (gP eF.out) hb)
   replace eG := am (Kd.dm (gP eG.out) hb)
   replace rY := am (Kd.dm (gP rY.out) hb)
   replace rZ := am (Kd.dm (gP rZ.out) hb)
   replace dV := kS dV hb
   replace fR := kS fR hb
   replace HB := bS HB hb
   (try clear hb)
   (try clear sj)
   (try clear hk)
   (try clear hi)
   refine hK.out _ _ ⟨(aQ fR.out 0).trans rfl, (aQ fR.out 1).trans rfl, (aQ dV.out 0).trans rfl, (aQ dV.out 1).trans rfl⟩ (fun ai => ?_)
   clear hK K
   refine nY 42 ?_
   refine Lj (i := 4) (N := some 43) (v := ?_) (a' := ?_) #[true, true, true, true, true] rfl rfl (by kernel_rfl) (fun _ _ _ h => h) (Or.inl ⟨by rfl, ?_⟩) ?_ ?_; rotate_left; intro w'; go_simp; with_reducible rfl; rotate_left; exact Ih
   refine R3 (by kernel_rfl) ?_
   try go_wp2
   go_ret
   exact ⟨jC, mb HB.out⟩
end Go.Proofs.YtggiicplcglalaaGreat.All
end
section
namespace Go.Proofs.YtggiicplcglalaaGreat.Eqs
open Go.RowKit YtggiicplcglalaaGreat.All YtggiicplcglalaaGreatW.PrintWords YtggiicplcglalaaGreatW.PrintLast
theorem dC {x : Int} (h0 : -9223372036854775808 ≤ x) (h1 : x < 9223372036854775808) : wrap64 x = x := by unfold wrap64; omega
theorem Nv (l : List Int) (hl : l.length < 1152921504606846976) (d : Nat) : ∀ (k : Nat) (i : Int), 0 ≤ i → i ≤ l.length → (l.length : Int) - i = d → d < k → bp.l0 k l l i = some true := by
 induction d with
 | zero =>
  intro k i h0 h1 hd hk
  obtain ⟨k, rfl⟩ : ∃ m, k = m + 1 := ⟨k - 1, by omega⟩
  simp only [bp.l0]; rw [if_neg (by omega)]
 | succ d ih =>
  intro k i h0 h1 hd hk
  obtain ⟨k, rfl⟩ : ∃ m, k = m + 1 := ⟨k - 1, by omega⟩
  simp only [bp.l0]
  rw [if_pos (by omega), if_pos h0, if_pos (by omega), if_pos trivial, dC (by omega) (by omega)]
  exact ih k (i + 1) (by omega) (by omega) (by omega) (by omega)
theorem Fh (l : List Int) (hl : l.length < 1152921504606846976) (k : Nat) (hk : l.length < k) : bp.f k l l = some true := by
 unfold bp.f
 rw [if_pos rfl]
 exact Nv l hl l.length k 0 (by omega) (by omega) (by omega) hk
end Go.Proofs.YtggiicplcglalaaGreat.Eqs
end
section
namespace Go.Proofs.YtggiicplcglalaaGreat.L1
open Go.RowKit YtggiicplcglalaaGreat.All YtggiicplcglalaaGreat.Eqs YtggiicplcglalaaGreatW.PrintWords YtggiicplcglalaaGreatW.PrintLast
theorem yW (x lo hi : Int) : ek.f x lo hi = some (qu lo hi x) := by
 unfold ek.f qu
 by_cases h : lo ≤ x <;> simp [h]
theorem wJ {α : Type} (p : α → Bool) (z : α) (l : List α) : ∀ i d, i + d = l.length → ((List.range' i d).any fun j => p (l.getD j z)) = (l.drop i).any p
 | i, 0, h => by rw [List.drop_of_length_le (by omega)]; rfl
 | i, d + 1, h => by
  have hi : i < l.length := by omega
  rw [List.range'_succ, List.any_cons, wJ p z l (i + 1) d (by omega), List.drop_eq_getElem_cons hi, List.any_cons]
  simp [List.getD, List.getElem?_eq_getElem hi]
theorem xB {α : Type} (p : α → Bool) (l : List α) : (l.any fun x => !p x) = !(l.all p) := by
 induction l with
 | nil => rfl
 | cons a l ih => rw [List.any_cons, List.all_cons, ih]; cases p a <;> simp
theorem Nw (lo hi : Int) (l : List Int) : DZ lo hi l = !(l.all (qu lo hi)) := by
 unfold DZ
 rw [wJ (fun x => !qu lo hi x) 0 l 0 l.length (by omega), List.drop_zero, xB]
theorem adt (lo hi : Int) (l : List Int) (hl : l.length < 1152921504606846976) (d : Nat) : ∀ (k i : Nat), i + d = l.length → d < k → cQ.l0 k lo hi l (l.length : Int) i = some ((l.drop i).all (qu lo hi)) := by
 induction d with
 | zero =>
  intro k i K7 hk
  obtain ⟨k, rfl⟩ : ∃ m, k = m + 1 := ⟨k - 1, by omega⟩
  simp only [cQ.l0]; rw [if_neg (by omega), List.drop_of_length_le (by omega)]; rfl
 | succ d ih =>
  intro k i K7 hk
  obtain ⟨k, rfl⟩ : ∃ m, k = m + 1 := ⟨k - 1, by omega⟩
  have gS : i < l.length := by omega
  simp only [cQ.l0]
  rw [if_pos (by omega), if_pos (by omega), if_pos (by omega), yW, Option.bind_some, List.drop_eq_getElem_cons gS, List.all_cons, show rd l (i : Int) = l[i] by simp [rd, List.getD, List.getElem?_eq_getElem gS]]
  cases h : qu lo hi l[i] with
  | false => rw [if_neg (by decide)]; rfl
  | true => rw [if_pos rfl, dC (by omega) (by omega)]; simpa using ih k (i + 1) (by omega) (by omega)
theorem R4 (lo hi : Int) (l : List Int) (hl : l.length < 1152921504606846976) (k : Nat) (hk : l.length < k) : cQ.f k l lo hi = some (l.all (qu lo hi)) := by
 unfold cQ.f
 have := adt lo hi l hl l.length k 0 (by omega) hk
 simpa using this
end Go.Proofs.YtggiicplcglalaaGreat.L1
end
section
namespace Go.Proofs.YtggiicplcglalaaGreat.Eqs
open Go.RowKit YtggiicplcglalaaGreat.All YtggiicplcglalaaGreatW.PrintWords YtggiicplcglalaaGreatW.PrintLast
theorem Nx (l : List Int) (i : Nat) (hi : i < l.length) : (l.take i ++ List.replicate (l.length - i) 0).set i (l.getD i 0) = l.take (i + 1) ++ List.replicate (l.length - (i + 1)) 0 := by
 have h1 : (l.take i).length = i := by simp; omega
 rw [List.set_append_right _ _ (by omega), h1, Nat.sub_self, show l.length - i = (l.length - (i + 1)) + 1 by omega, List.replicate_succ, List.set_cons_zero, List.take_succ_eq_append_getElem hi, List.append_assoc]
 simp [List.getD, List.getElem?_eq_getElem hi]
theorem Ny (l : List Int) (hl : l.length ≤ 1048576) (d : Nat) : ∀ (k : Nat) (i : Nat), i ≤ l.length → l.length - i = d → d < k →
  bw.l0 k l (l.take i ++ List.replicate (l.length - i) 0) i = some l := by
 induction d with
 | zero =>
  intro k i h1 hd hk
  obtain ⟨k, rfl⟩ : ∃ m, k = m + 1 := ⟨k - 1, by omega⟩
  obtain rfl : i = l.length := by omega
  simp only [bw.l0]
  rw [if_neg (by omega)]
  simp
 | succ d ih =>
  intro k i h1 hd hk
  obtain ⟨k, rfl⟩ : ∃ m, k = m + 1 := ⟨k - 1, by omega⟩
  simp only [bw.l0]
  have h2 : (l.take i ++ List.replicate (l.length - i) (0 : Int)).length = l.length := by simp; omega
  rw [if_pos (by omega), if_pos (by omega), if_pos (by rw [h2]; omega), dC (by omega) (by omega), show ((i : Int)).toNat = i from rfl, show rd l (i : Int) = l.getD i 0 from rfl, Nx l i (by omega)]
  exact ih k (i + 1) (by omega) (by omega) (by omega)
theorem Nz (l : List Int) (hl : l.length ≤ 1048576) (k : Nat) (hk : l.length < k) : bw.f k l = some l := by
 unfold bw.f
 rw [if_pos (by omega), if_pos (by omega)]
 have := Ny l hl l.length k 0 (by omega) (by omega) hk
 simpa using this
def Small (ls : List (List Int)) : Prop := ls.length ≤ 1048576 ∧ ∀ l ∈ ls, l.length ≤ 1048576
theorem ic {ls : List (List Int)} {i : Nat} (hi : i < ls.length) : ls.getD i [] ∈ ls := by
 simp [List.getD, List.getElem?_eq_getElem hi]
theorem Is (l : List (List Int)) (i : Nat) (hi : i < l.length) : (l.take i ++ List.replicate (l.length - i) []).set i (l.getD i []) = l.take (i + 1) ++ List.replicate (l.length - (i + 1)) [] := by
 have h1 : (l.take i).length = i := by simp; omega
 rw [List.set_append_right _ _ (by omega), h1, Nat.sub_self, show l.length - i = (l.length - (i + 1)) + 1 by omega, List.replicate_succ, List.set_cons_zero, List.take_succ_eq_append_getElem hi, List.append_assoc]
 simp [List.getD, List.getElem?_eq_getElem hi]
theorem It (l : List (List Int)) (hs : Small l) (d : Nat) : ∀ (k : Nat) (i : Nat), i ≤ l.length → l.length - i = d → d + 1048578 < k →
  b8.l0 k l (l.take i ++ List.replicate (l.length - i) []) i = some l := by
 have hl := hs.1
 induction d with
 | zero =>
  intro k i h1 hd hk
  obtain ⟨k, rfl⟩ : ∃ m, k = m + 1 := ⟨k - 1, by omega⟩
  obtain rfl : i = l.length := by omega
  simp only [b8.l0]
  rw [if_neg (by omega)]
  simp
 | succ d ih =>
  intro k i h1 hd hk
  obtain ⟨k, rfl⟩ : ∃ m, k = m + 1 := ⟨k - 1, by omega⟩
  simp only [b8.l0]
  have h2 : (l.take i ++ List.replicate (l.length - i) ([] : List Int)).length = l.length := by simp; omega
  have h3 := hs.2 _ (ic (ls := l) (i := i) (by omega))
  rw [if_pos (by omega), if_pos (by omega), show aJ l (i : Int) = l.getD i [] from rfl, Nz _ h3 k (by omega), Option.bind_some, if_pos (by rw [h2]; omega), dC (by omega) (by omega), show ((i : Int)).toNat = i from rfl, Is l i (by omega)]
  exact ih k (i + 1) (by omega) (by omega) (by omega)
theorem zi (l : List (List Int)) (hs : Small l) (k : Nat) (hk : 2097155 < k) : b8.f k l = some l := by
 have hl := hs.1
 unfold b8.f
 rw [if_pos (by omega), if_pos (by omega)]
 have := It l hs l.length k 0 (by omega) (by omega) (by omega)
 simpa using this
theorem Iu (l : List (List Int)) (hs : Small l) (d : Nat) : ∀ (k i : Nat), i + d = l.length → d + 1048578 < k → b5.l0 k l l i = some true := by
 have hl := hs.1
 induction d with
 | zero =>
  intro k i hi hk
  obtain ⟨k, rfl⟩ : ∃ m, k = m + 1 := ⟨k - 1, by omega⟩
  simp only [b5.l0]; rw [if_neg (by omega)]
 | succ d ih =>
  intro k i hi hk
  obtain ⟨k, rfl⟩ : ∃ m, k = m + 1 := ⟨k - 1, by omega⟩
  simp only [b5.l0]
  have h3 := hs.2 _ (ic (ls := l) (i := i) (by omega))
  rw [if_pos (by omega), if_pos (by omega), if_pos (by omega), show aJ l (i : Int) = l.getD i [] from rfl, Fh _ (by omega) k (by omega), Option.bind_some, if_pos rfl, dC (by omega) (by omega)]
  exact ih k (i + 1) (by omega) (by omega)
theorem uh (l : List (List Int)) (hs : Small l) (k : Nat) (hk : 2097155 < k) : b5.f k l l = some true := by
 have hl := hs.1
 unfold b5.f
 rw [if_pos rfl]
 exact Iu l hs l.length k 0 (by omega) (by omega)
end Go.Proofs.YtggiicplcglalaaGreat.Eqs
end
section
namespace Go.Proofs.YtggiicplcglalaaGreat.Games
open Go.RowKit YtggiicplcglalaaGreat.All YtggiicplcglalaaGreat.Eqs YtggiicplcglalaaGreat.L1 YtggiicplcglalaaGreatW.PrintWords YtggiicplcglalaaGreatW.PrintLast
def table (a : List (List Int)) : Bool := qu 1 3 (a.length : Int) && (qu 1 3 ((a.getD 0 []).length : Int) && a.all fun r => decide ((r.length : Int) = ((a.getD 0 []).length : Int)) && r.all (qu (-9) 9))
theorem OA (n : Nat) (r : List Int) : q6 n r = !(decide ((r.length : Int) = (n : Int)) && r.all (qu (-9) 9)) := by
 unfold q6
 rw [Nw]
 by_cases h : (r.length : Int) = (n : Int)
 ·rw [decide_eq_true h, show ((r.length : Int) != (n : Int)) = false from bne_eq_false_iff_eq.mpr h]; simp
 ·rw [decide_eq_false h, show ((r.length : Int) != (n : Int)) = true from bne_iff_ne.mpr h]; simp
theorem zj (a : List (List Int)) : dw.f a = some (table a) := by
 unfold dw.f table wK
 cases e1 : qu 1 3 (a.length : Int) with
 | false => rw [if_neg (by decide)]; rfl
 | true =>
  rw [if_pos rfl, Bool.true_and]
  cases e2 : qu 1 3 ((a.getD 0 []).length : Int) with
  | false => rw [if_neg (by decide)]; rfl
  | true =>
   rw [if_pos rfl, Bool.true_and, wJ (q6 (a.getD 0 []).length) [] a 0 a.length (by omega), List.drop_zero]
   have : (a.any (q6 (a.getD 0 []).length)) = a.any fun r => !(decide ((r.length : Int) = ((a.getD 0 []).length : Int)) && r.all (qu (-9) 9)) := by
    congr 1; funext l; exact OA _ l
   rw [this, xB, Bool.not_not]
theorem Vj (a : List (List Int)) (hs : Small a) (h0 : 0 < a.length) (d : Nat) : ∀ (k i : Nat), i + d = a.length → d + 1048578 < k → bI.l0 k a a (a.length : Int) i = some ((a.drop i).all fun r => decide ((r.length : Int) = ((a.getD 0 []).length : Int)) && r.all (qu (-9) 9)) := by
 have hl := hs.1
 induction d with
 | zero =>
  intro k i hi hk
  obtain ⟨k, rfl⟩ : ∃ m, k = m + 1 := ⟨k - 1, by omega⟩
  simp only [bI.l0]
  rw [if_neg (by omega), List.drop_of_length_le (by omega)]
  rfl
 | succ d ih =>
  intro k i hi hk
  obtain ⟨k, rfl⟩ : ∃ m, k = m + 1 := ⟨k - 1, by omega⟩
  have gS : i < a.length := by omega
  have hx := hs.2 _ (List.getElem_mem gS)
  simp only [bI.l0]
  rw [if_pos (by omega), if_pos (by omega), if_pos (by omega), if_pos (by omega), show aJ a (i : Int) = a[i] by simp [aJ, List.getD, List.getElem?_eq_getElem gS], show aJ a 0 = a.getD 0 [] from rfl, List.drop_eq_getElem_cons gS, List.all_cons]
  by_cases e : ((a[i].length : Nat) : Int) = ((a.getD 0 []).length : Int)
  ·rw [if_pos e, R4 _ _ _ (by omega) k (by omega), Option.bind_some, decide_eq_true e, Bool.true_and]
   cases e2 : a[i].all (qu (-9) 9) with
   | false => rw [if_neg (by decide)]; rfl
   | true => rw [if_pos rfl, dC (by omega) (by omega), Bool.true_and]; exact ih k (i + 1) (by omega) (by omega)
  ·rw [if_neg e, decide_eq_false e]; rfl
theorem zk (a : List (List Int)) (hs : Small a) (k : Nat) (hk : 2097200 < k) : bI.f k a = some (table a) := by
 have hl := hs.1
 unfold bI.f table
 rw [yW, Option.bind_some]
 obtain ⟨k, rfl⟩ : ∃ m, k = m + 1 := ⟨k - 1, by omega⟩
 cases e1 : qu 1 3 (a.length : Int) with
 | false => rw [if_neg (by decide)]; rfl
 | true =>
  have h0 : 0 < a.length := by unfold qu at e1; simp at e1; omega
  rw [if_pos rfl, Bool.true_and, if_pos (by omega), yW, Option.bind_some, show aJ a 0 = a.getD 0 [] from rfl]
  cases e2 : qu 1 3 ((a.getD 0 []).length : Int) with
  | false => rfl
  | true =>
   simp only [bI.j0, Bool.not_true, Bool.false_eq_true, if_false, Bool.true_and]
   have := Vj a hs h0 a.length k 0 (by omega) (by omega)
   simpa using this
def Fi (a b : List (List Int)) : Bool := table a && (table b && (decide ((a.length : Int) = (b.length : Int)) && decide (((a.getD 0 []).length : Int) = ((b.getD 0 []).length : Int))))
theorem sE {a : List (List Int)} (h : table a = true) : 0 < a.length := by
 unfold table qu at h; simp at h; omega
theorem Bn (a b : List (List Int)) : cq.f a b = some (Fi a b) := by
 unfold cq.f Fi
 rw [zj, Option.bind_some]
 cases e1 : table a with
 | false => rfl
 | true =>
  rw [if_pos rfl, zj, Option.bind_some, Bool.true_and]
  cases e2 : table b with
  | false => rfl
  | true =>
   have h1 := sE e1
   have h2 := sE e2
   rw [if_pos rfl, Bool.true_and]
   by_cases e : (a.length : Int) = (b.length : Int)
   ·rw [if_pos e, if_pos (by omega), if_pos (by omega), decide_eq_true e]; rfl
   ·rw [if_neg e, decide_eq_false e]; rfl
theorem OB (a b : List (List Int)) (ha : Small a) (hb : Small b) (k : Nat) (hk : 2097200 < k) : cA.f k a b = some (Fi a b) := by
 unfold cA.f Fi
 rw [zk a ha k hk, Option.bind_some]
 cases e1 : table a with
 | false => rfl
 | true =>
  rw [if_pos rfl, zk b hb k hk, Option.bind_some, Bool.true_and]
  cases e2 : table b with
  | false => rfl
  | true =>
   have h1 := sE e1
   have h2 := sE e2
   rw [if_pos rfl, Bool.true_and]
   by_cases e : (a.length : Int) = (b.length : Int)
   ·rw [if_pos e, if_pos (by omega), if_pos (by omega), decide_eq_true e]; rfl
   ·rw [if_neg e, decide_eq_false e]; rfl
end Go.Proofs.YtggiicplcglalaaGreat.Games
end
section
namespace Go.Proofs.YtggiicplcglalaaGreat.GmDet
open Go.RowKit YtggiicplcglalaaGreat.All YtggiicplcglalaaGreatW.PrintWords YtggiicplcglalaaGreatW.PrintLast YtggiicplcglalaaGreat.Eqs
theorem b9 {l : List Int} {i : Nat} (h : i < l.length) : rd l (i : Int) = l[i] := by simp [rd, List.getD, List.getElem?_eq_getElem h]
def cut (j : Nat) (r : List Int) : List Int := r.take j ++ r.drop (j + 1)
def mF (j : Nat) (M : List (List Int)) : List (List Int) := (M.drop 1).map (cut j)
def D0 (D : Nat → Int) : Int → Nat → List Int → Int
 | _, _, [] => 0
 | s, j, a :: l => s * a * D j + D0 D (-s) (j + 1) l
def nw : Nat → List (List Int) → Int
 | 0, _ => 1
 | n + 1, M => D0 (fun j => nw n (mF j M)) 1 0 (M.getD 0 [])
theorem R5 (D : Nat → Int) (B : Nat) (n : Nat) (hD : ∀ j, j < n → (D j).natAbs ≤ B) : ∀ (l : List Int) (s : Int) (j : Nat), (s = 1 ∨ s = -1) → (∀ a ∈ l, a.natAbs ≤ 19) → j + l.length ≤ n → (D0 D s j l).natAbs ≤ l.length * (19 * B)
 | [], _, _, _, _, _ => by simp [D0]
 | a :: l, s, j, hs, ha, hj => by
  have ih := R5 D B n hD l (-s) (j + 1) (by omega) (fun x hx => ha x (by simp [hx])) (by simp only [List.length_cons] at hj; omega)
  have h1 : (s * a * D j).natAbs ≤ 19 * B := by
   rw [Int.natAbs_mul, Int.natAbs_mul]
   have e : s.natAbs = 1 := by rcases hs with rfl | rfl <;> rfl
   rw [e, Nat.one_mul]
   exact Nat.mul_le_mul (ha a (by simp)) (hD j (by simp only [List.length_cons] at hj; omega))
  show (s * a * D j + D0 D (-s) (j + 1) l).natAbs ≤ (l.length + 1) * (19 * B)
  rw [Nat.add_mul, Nat.one_mul]
  have := Int.natAbs_add_le (s * a * D j) (D0 D (-s) (j + 1) l)
  omega
theorem Lk {s a t : Int} {B : Nat} (hs : s = 1 ∨ s = -1) (ha : a.natAbs ≤ 19) (ht : t.natAbs ≤ B) (hB : B ≤ 3249) : wrap64 (wrap64 (s * a) * t) = s * a * t ∧ (s * a * t).natAbs ≤ 61731 := by
 have h1 : (s * a).natAbs ≤ 19 := by rcases hs with rfl | rfl <;> omega
 have h2 : (s * a * t).natAbs ≤ 61731 := by
  rw [Int.natAbs_mul]
  exact Nat.le_trans (Nat.mul_le_mul h1 ht) (by omega)
 rw [dC (x := s * a) (by omega) (by omega), dC (by omega) (by omega)]
 exact ⟨rfl, h2⟩
theorem R6 (l : List Int) (h : l.length < 17592186044416) : jD.f l = some l := by
 simp only [jD.f, Option.bind_some, List.length_nil, Nat.zero_add, List.nil_append]
 rw [if_pos h]
theorem akg (x0 : List (List Int)) (x3 x4 x6 : Int) (wD : List Int) (rB qq : Int) (j : Nat) (hj1 : j ≤ 1000) (R : List (List Int)) (hR : ∀ r ∈ R, j < r.length ∧ r.length ≤ 1000) (hl : R.length ≤ 1000) (v : Int)
  (f_ : Ev (fun k => (aI.f k (R.map (cut j))).bind fun t => aI.l0 k x0 (wrap64 (x3 + wrap64 (wrap64 (x4 * x6) * t))) (wrap64 (-x4)) wD rB (wrap64 (qq + 1))) v) (d : Nat) :
  ∀ i : Nat, i + d = R.length → Ev (fun k => aI.l1 k x0 x3 x4 (j : Int) x6 ((R.take i).map (cut j)) wD rB qq R (R.length : Int) (i : Int)) v := by
 induction d with
 | zero =>
  intro i hi
  rw [List.take_of_length_le (by omega)]
  exact Ev.step (fun k => by simp only [aI.l1]; rw [if_neg (by omega)]) f_
 | succ d ih =>
  intro i hi
  have h1 : i < R.length := by omega
  obtain ⟨r1, r2⟩ := hR _ (List.getElem_mem h1)
  refine Ev.step (f := fun k => aI.l1 k x0 x3 x4 (j : Int) x6 ((R.take (i + 1)).map (cut j)) wD rB qq R (R.length : Int) ((i + 1 : Nat) : Int)) (fun k => ?_) (ih (i + 1) (by omega))
  simp only [aI.l1]
  have er : aJ R (i : Int) = R[i] := by simp [aJ, List.getD, List.getElem?_eq_getElem h1]
  have ej : wrap64 ((j : Int) + 1) = ((j + 1 : Nat) : Int) := by unfold wrap64; omega
  have ei : wrap64 ((i : Int) + 1) = ((i + 1 : Nat) : Int) := by unfold wrap64; omega
  rw [if_pos (by omega), if_pos (by omega), if_pos (by omega), if_pos (by omega), er, if_pos (by omega), Int.toNat_natCast, R6 _ (by simp; omega), Option.bind_some, ej, if_pos (by omega), if_pos (by omega), Int.toNat_natCast, if_pos (by simp; omega), if_pos (by simp; omega), ei, List.take_succ_eq_append_getElem h1, List.map_append]
  rfl
theorem akh (M : List (List Int)) (n B : Nat) (hn : n + 1 ≤ 3) (hB : B ≤ 3249) (row : List Int) (yn : row.length = n + 1) (hr : ∀ a ∈ row, a.natAbs ≤ 19) (hM : M.length = n + 1) (OC : ∀ r ∈ M, r.length = n + 1) (D : Nat → Int) (hD : ∀ j, j < n + 1 → (D j).natAbs ≤ B ∧ Ev (fun k => aI.f k (mF j M)) (D j)) (d : Nat) :
  ∀ (i : Nat) (acc s : Int), i + d = n + 1 → (s = 1 ∨ s = -1) → acc.natAbs ≤ i * 61731 → Ev (fun k => aI.l0 k M acc s row (row.length : Int) (i : Int)) (acc + D0 D s i (row.drop i)) := by
 induction d with
 | zero =>
  intro i acc s hi hs ha
  rw [List.drop_eq_nil_of_le (by omega)]
  simp only [D0, Int.add_zero]
  exact Ev.step (fun k => by simp only [aI.l0]; rw [if_neg (by omega)]) (Ev.now acc)
 | succ d ih =>
  intro i acc s hi hs ha
  have h1 : i < row.length := by omega
  obtain ⟨b1, e1⟩ := hD i (by omega)
  have hai := hr _ (List.getElem_mem h1)
  obtain ⟨m1, m2⟩ := Lk hs hai b1 hB
  rw [List.drop_eq_getElem_cons h1]
  simp only [D0]
  have ei : wrap64 ((i : Int) + 1) = ((i + 1 : Nat) : Int) := by unfold wrap64; omega
  have es : wrap64 (-s) = -s := dC (by omega) (by omega)
  generalize hx : row[i] = x at m1 m2 ⊢
  generalize hP : s * x * D i = P at m1 m2 ⊢
  have b2 : (acc + P).natAbs ≤ (i + 1) * 61731 := by
   have := Int.natAbs_add_le acc P
   omega
  have ew : wrap64 (acc + P) = acc + P := dC (by omega) (by omega)
  have key := ih (i + 1) (acc + P) (-s) (by omega) (by omega) b2
  rw [show acc + (P + D0 D (-s) (i + 1) (row.drop (i + 1))) = acc + P + D0 D (-s) (i + 1) (row.drop (i + 1)) from (Int.add_assoc _ _ _).symm]
  refine Ev.step (f := fun k => aI.l1 k M acc s (i : Int) x (((M.drop 1).take 0).map (cut i)) row (row.length : Int) (i : Int) (M.drop 1) ((M.drop 1).length : Int) ((0 : Nat) : Int)) (fun k => ?_)
   (akg M acc s x row (row.length : Int) (i : Int) i (by omega) (M.drop 1) (fun r h => by have := OC r (List.mem_of_mem_drop h); omega) (by rw [List.length_drop]; omega) _ ?_ (M.drop 1).length 0 (by omega))
  ·simp only [aI.l0]
   rw [if_pos (by omega), if_pos (by omega), if_pos (by omega), if_pos (by omega), Option.bind_some, b9 h1, hx]
   rfl
  ·refine Ev.bind (a := D i) e1 ?_
   refine Ev.congr (f := fun k => aI.l0 k M (acc + P) (-s) row (row.length : Int) ((i + 1 : Nat) : Int)) (fun k => ?_) key
   rw [m1, ew, es, ei]
theorem Fj {M : List (List Int)} {n : Nat} (hM : M.length = n + 1) (OC : ∀ r ∈ M, r.length = n + 1 ∧ ∀ a ∈ r, a.natAbs ≤ 19) {j : Nat} (hj : j < n + 1) : (mF j M).length = n ∧ ∀ r ∈ mF j M, r.length = n ∧ ∀ a ∈ r, a.natAbs ≤ 19 := by
 refine ⟨by simp [mF]; omega, fun r hr => ?_⟩
 obtain ⟨q, hq, rfl⟩ := List.mem_map.1 hr
 obtain ⟨q1, q2⟩ := OC q (List.mem_of_mem_drop hq)
 refine ⟨by simp [cut]; omega, fun a ha => ?_⟩
 rcases List.mem_append.1 ha with h | h
 ·exact q2 a (List.mem_of_mem_take h)
 ·exact q2 a (List.mem_of_mem_drop h)
theorem D1 : ∀ (n : Nat), n ≤ 3 → ∀ M : List (List Int), M.length = n → (∀ r ∈ M, r.length = n ∧ ∀ a ∈ r, a.natAbs ≤ 19) → (nw n M).natAbs ≤ 57 ^ n ∧ Ev (fun k => aI.f k M) (nw n M)
 | 0, _, M, hM, _ => by
  refine ⟨by simp [nw], ?_⟩
  exact Ev.step (f := fun _ => some 1) (fun k => by simp only [aI.f]; rw [if_pos (by omega)]) (Ev.now 1)
 | n + 1, hn, M, hM, OC => by
  have hlen : (M.getD 0 []) ∈ M := by
   rw [List.getD_eq_getElem?_getD, List.getElem?_eq_getElem (show 0 < M.length by omega)]
   exact List.getElem_mem _
  obtain ⟨q1, q2⟩ := OC _ hlen
  have hD : ∀ j, j < n + 1 → (nw n (mF j M)).natAbs ≤ 57 ^ n ∧ Ev (fun k => aI.f k (mF j M)) (nw n (mF j M)) := fun j hj => by
   obtain ⟨a, b⟩ := Fj hM OC hj
   exact D1 n (by omega) _ a b
  have hp : 57 ^ n ≤ 3249 := by
   have : n = 0 ∨ n = 1 ∨ n = 2 := by omega
   rcases this with rfl | rfl | rfl <;> decide
  constructor
  ·have := R5 (fun j => nw n (mF j M)) (57 ^ n) (n + 1) (fun j hj => (hD j hj).1) (M.getD 0 []) 1 0 (.inl rfl) q2 (by omega)
   rw [q1] at this
   simp only [nw, Nat.pow_succ]
   have h3 : (n + 1) * (19 * 57 ^ n) ≤ 3 * (19 * 57 ^ n) := Nat.mul_le_mul_right _ hn
   omega
  ·have := akh M n (57 ^ n) hn hp (M.getD 0 []) q1 q2 hM (fun r h => (OC r h).1) (fun j => nw n (mF j M)) hD (n + 1) 0 0 1 (by omega) (.inl rfl) (by simp)
   simp only [List.drop_zero, Int.zero_add] at this
   refine Ev.step (fun k => ?_) this
   simp only [aI.f]
   rw [if_neg (by omega), if_pos (by omega)]
   rfl
theorem zl (l : List Int) (h : l.length < 17592186044416) : dA.f l = some l := by
 unfold dA.f
 rw [if_pos h]
theorem adu (l : List Int) (j : Nat) (h : j < l.length) : eS.f l (j : Int) ((j + 1 : Nat) : Int) = some (cut j l) := by
 unfold eS.f cut
 rw [if_pos ⟨by omega, by omega, by omega⟩, Int.toNat_natCast, Int.toNat_natCast]
theorem aki (x0 : List (List Int)) (x3 x4 : Int) (tc xe : Int) (j : Nat) (hj1 : j ≤ 1000) (row : List Int) (h0 : 0 < x0.length) (yn : aJ x0 0 = row) (hjr : j < row.length) (R : List (List Int)) (hR : ∀ r ∈ R, j < r.length ∧ r.length ≤ 1000) (hl : R.length ≤ 1000) (v : Int)
  (f_ : Ev (fun k => (bJ.f k (R.map (cut j))).bind fun t => bJ.l0 k x0 (wrap64 (x3 + wrap64 (wrap64 (x4 * row[j]) * t))) (wrap64 (-x4)) tc (wrap64 (xe + 1))) v) (d : Nat) :
  ∀ i : Nat, i + d = R.length → Ev (fun k => bJ.l1 k x0 x3 x4 (j : Int) ((R.take i).map (cut j)) tc xe R (R.length : Int) (i : Int)) v := by
 induction d with
 | zero =>
  intro i hi
  rw [List.take_of_length_le (by omega)]
  refine Ev.step (fun k => ?_) f_
  simp only [bJ.l1]
  rw [if_neg (by omega), if_pos (by omega), if_pos (by omega), yn, if_pos (by omega), b9 hjr]
 | succ d ih =>
  intro i hi
  have h1 : i < R.length := by omega
  obtain ⟨r1, r2⟩ := hR _ (List.getElem_mem h1)
  refine Ev.step (f := fun k => bJ.l1 k x0 x3 x4 (j : Int) ((R.take (i + 1)).map (cut j)) tc xe R (R.length : Int) ((i + 1 : Nat) : Int)) (fun k => ?_) (ih (i + 1) (by omega))
  simp only [bJ.l1]
  have er : aJ R (i : Int) = R[i] := by simp [aJ, List.getD, List.getElem?_eq_getElem h1]
  have ej : wrap64 ((j : Int) + 1) = ((j + 1 : Nat) : Int) := by unfold wrap64; omega
  have ei : wrap64 ((i : Int) + 1) = ((i + 1 : Nat) : Int) := by unfold wrap64; omega
  rw [if_pos (by omega), if_pos (by omega), if_pos (by omega), er, zl _ (by omega), Option.bind_some, ej, adu _ _ r1, Option.bind_some, if_pos (by simp; omega), ei, List.take_succ_eq_append_getElem h1, List.map_append]
  rfl
theorem akj (M : List (List Int)) (n B : Nat) (hn : n + 1 ≤ 3) (hB : B ≤ 3249) (row : List Int) (yn : row.length = n + 1) (hr : ∀ a ∈ row, a.natAbs ≤ 19) (hM : M.length = n + 1) (gD : aJ M 0 = row) (OC : ∀ r ∈ M, r.length = n + 1) (D : Nat → Int) (hD : ∀ j, j < n + 1 → (D j).natAbs ≤ B ∧ Ev (fun k => bJ.f k (mF j M)) (D j)) (d : Nat) :
  ∀ (i : Nat) (acc s : Int), i + d = n + 1 → (s = 1 ∨ s = -1) → acc.natAbs ≤ i * 61731 → Ev (fun k => bJ.l0 k M acc s (M.length : Int) (i : Int)) (acc + D0 D s i (row.drop i)) := by
 induction d with
 | zero =>
  intro i acc s hi hs ha
  rw [List.drop_eq_nil_of_le (by omega)]
  simp only [D0, Int.add_zero]
  exact Ev.step (fun k => by simp only [bJ.l0]; rw [if_neg (by omega)]) (Ev.now acc)
 | succ d ih =>
  intro i acc s hi hs ha
  have h1 : i < row.length := by omega
  obtain ⟨b1, e1⟩ := hD i (by omega)
  have hai := hr _ (List.getElem_mem h1)
  obtain ⟨m1, m2⟩ := Lk hs hai b1 hB
  have R7 := aki M acc s (M.length : Int) (i : Int) i (by omega) row (by omega) gD h1 (M.drop 1) (fun r h => by have := OC r (List.mem_of_mem_drop h); omega) (by rw [List.length_drop]; omega) (acc + D0 D s i (row.drop i))
  rw [List.drop_eq_getElem_cons h1] at R7 ⊢
  simp only [D0] at R7 ⊢
  have ei : wrap64 ((i : Int) + 1) = ((i + 1 : Nat) : Int) := by unfold wrap64; omega
  have es : wrap64 (-s) = -s := dC (by omega) (by omega)
  generalize hx : row[i] = x at m1 m2 R7 ⊢
  generalize hP : s * x * D i = P at m1 m2 R7 ⊢
  have b2 : (acc + P).natAbs ≤ (i + 1) * 61731 := by
   have := Int.natAbs_add_le acc P
   omega
  have ew : wrap64 (acc + P) = acc + P := dC (by omega) (by omega)
  have key := ih (i + 1) (acc + P) (-s) (by omega) (by omega) b2
  rw [Int.add_assoc] at key
  refine Ev.step (f := fun k => bJ.l1 k M acc s (i : Int) (((M.drop 1).take 0).map (cut i)) (M.length : Int) (i : Int) (M.drop 1) ((M.drop 1).length : Int) ((0 : Nat) : Int)) (fun k => ?_)
   (R7 ?_ (M.drop 1).length 0 (by omega))
  ·simp only [bJ.l0]
   rw [if_pos (by omega), if_pos (by omega), Option.bind_some]
   rfl
  ·refine Ev.bind (a := D i) e1 ?_
   refine Ev.congr (f := fun k => bJ.l0 k M (acc + P) (-s) (M.length : Int) ((i + 1 : Nat) : Int)) (fun k => ?_) key
   rw [m1, ew, es, ei]
theorem Ll : ∀ (n : Nat), 1 ≤ n → n ≤ 3 → ∀ M : List (List Int), M.length = n → (∀ r ∈ M, r.length = n ∧ ∀ a ∈ r, a.natAbs ≤ 19) → Ev (fun k => bJ.f k M) (nw n M)
 | 0, h, _, _, _, _ => by omega
 | n + 1, _, hn, M, hM, OC => by
  have gD : aJ M 0 = M.getD 0 [] := rfl
  have hlen : (M.getD 0 []) ∈ M := by
   rw [List.getD_eq_getElem?_getD, List.getElem?_eq_getElem (show 0 < M.length by omega)]
   exact List.getElem_mem _
  obtain ⟨q1, q2⟩ := OC _ hlen
  by_cases n0 : n = 0
  ·subst n0
   have h0 : 0 < (M.getD 0 []).length := by omega
   have e : nw (0 + 1) M = (M.getD 0 [])[0] := by
    obtain ⟨a, ha⟩ := List.length_eq_one_iff.mp (show (M.getD 0 []).length = 1 by omega)
    simp only [nw, ha, D0]
    simp
   rw [e]
   refine Ev.step (f := fun _ => some (M.getD 0 [])[0]) (fun k => ?_) (Ev.now _)
   simp only [bJ.f]
   rw [if_pos (by omega), if_pos (by omega), gD, if_pos (by omega)]
   have := b9 h0
   simp only [Int.natCast_zero] at this
   rw [← this]
  ·have hD : ∀ j, j < n + 1 → (nw n (mF j M)).natAbs ≤ 57 ^ n ∧ Ev (fun k => bJ.f k (mF j M)) (nw n (mF j M)) := fun j hj => by
    obtain ⟨a, b⟩ := Fj hM OC hj
    exact ⟨(D1 n (by omega) _ a b).1, Ll n (by omega) (by omega) _ a b⟩
   have hp : 57 ^ n ≤ 3249 := by
    have : n = 1 ∨ n = 2 := by omega
    rcases this with rfl | rfl <;> decide
   have := akj M n (57 ^ n) hn hp (M.getD 0 []) q1 q2 hM gD (fun r h => (OC r h).1) (fun j => nw n (mF j M)) hD (n + 1) 0 0 1 (by omega) (.inl rfl) (by simp)
   simp only [List.drop_zero, Int.zero_add] at this
   refine Ev.step (fun k => ?_) this
   simp only [bJ.f]
   rw [if_neg (by omega)]
   rfl
theorem akk (a : Int) : nw 1 [[a]] = a := by simp [nw, D0]
theorem akl (a b c d : Int) : nw 2 [[a, b], [c, d]] = a * d - b * c := by
 simp [nw, D0, mF, cut]
 grind
theorem akm (a b c d e f g h i : Int) : nw 3 [[a, b, c], [d, e, f], [g, h, i]] = a * (e * i - f * h) - b * (d * i - f * g) + c * (d * h - e * g) := by
 simp [nw, D0, mF, cut]
 grind
end Go.Proofs.YtggiicplcglalaaGreat.GmDet
end
section
namespace Go.Proofs.YtggiicplcglalaaGreat.LH
set_option linter.unusedSectionVars false
set_option autoImplicit true
set_option linter.unusedVariables false
section
variable {α β : Type} [DecidableEq α] [DecidableEq β]
def lV (V : List α) (dg : α → Nat → Bool) (al : α → Nat → α × Nat) : Prop :=
 ∀ p ∈ V, ∀ l, dg p l = true → (al p l).1 ∈ V ∧ (al p l).1 ≠ p ∧ dg p (al p l).2 = false ∧ (∀ j, dg (al p l).1 j = true ↔ ((dg p j = true ∧ j ≠ l) ∨ j = (al p l).2)) ∧ ∀ q ∈ V, q ≠ p → (∀ j, dg p j = true → j ≠ l → dg q j = true) → q = (al p l).1
theorem zm {V : List α} {dg : α → Nat → Bool} {al : α → Nat → α × Nat} (h : lV V dg al) {p : α} (hp : p ∈ V) {l : Nat} (hl : dg p l = true) :
  dg (al p l).1 (al p l).2 = true ∧ al (al p l).1 (al p l).2 = (p, l) := by
 obtain ⟨hq, fv, hk, hj, hu⟩ := h p hp l hl
 have hlk : l ≠ (al p l).2 := by intro e; rw [← e, hl] at hk; exact absurd hk (by decide)
 have hqk : dg (al p l).1 (al p l).2 = true := (hj _).mpr (.inr rfl)
 obtain ⟨hq2, awg, hk2, R8, hu2⟩ := h _ hq _ hqk
 have e1 : p = (al (al p l).1 (al p l).2).1 := hu2 p hp (fun e => fv e.symm) (fun j h1 h2 => by
  rcases (hj j).mp h1 with h3 | h3
  ·exact h3.1
  ·exact absurd h3 h2)
 have Tp : dg (al p l).1 l = false := by
  cases e : dg (al p l).1 l with
  | false => rfl
  | true =>
   rcases (hj l).mp e with h3 | h3
   ·exact absurd rfl h3.2
   ·exact absurd h3 hlk
 have e2 : l = (al (al p l).1 (al p l).2).2 := by
  have := (R8 l).mp (by rw [← e1]; exact hl)
  rcases this with h3 | h3
  ·rw [Tp] at h3; exact absurd h3.1 (by decide)
  ·exact h3
 refine ⟨hqk, ?_⟩
 exact Prod.ext e1.symm e2.symm
def Rest (f g : Nat → Bool) (N l k : Nat) : Prop := f k = true ∧ ∀ j, j < N → ((f j && decide (j ≠ k)) ^^ g j) = decide (j ≠ l)
def Full (f g : Nat → Bool) (N : Nat) : Prop := ∀ j, j < N → (f j ^^ g j) = true
theorem xC {f g : Nat → Bool} {N l k k' : Nat} (h : Rest f g N l k) (h' : Rest f g N l k') (hk : k < N) : k = k' := by
 rcases Nat.decEq k k' with fv | he
 ·have h1 := h.2 k hk
  have h2 := h'.2 k hk
  rw [h.1] at h1 h2
  simp [fv] at h1 h2
  rw [h1] at h2
  by_cases c : k = l <;> simp [c] at h2
 ·exact he
theorem Iv {V : List α} {dg : α → Nat → Bool} {al : α → Nat → α × Nat} (h : lV V dg al) {p : α} (hp : p ∈ V) {g : Nat → Bool} {N l k : Nat} (hr : Rest (dg p) g N l k) :
  Rest (dg (al p k).1) g N l (al p k).2 := by
 obtain ⟨hq, fv, hk, hj, hu⟩ := h p hp k hr.1
 refine ⟨(hj _).mpr (.inr rfl), fun j hjN => ?_⟩
 rw [← hr.2 j hjN]
 congr 1
 have := hj j
 by_cases c : j = (al p k).2
 ·rw [← c] at hk
  simp [c]
  rw [← c, hk]; simp
 ·have e : dg (al p k).1 j = (dg p j && decide (j ≠ k)) := by
   rw [Bool.eq_iff_iff, this]
   simp [c]
  rw [e]; simp [c]
end
end Go.Proofs.YtggiicplcglalaaGreat.LH
end
section
namespace Go.Proofs.YtggiicplcglalaaGreat.LH
set_option linter.unusedSectionVars false
set_option autoImplicit true
set_option linter.unusedVariables false
abbrev H := Int × Int × Int × Int
def ev (f x : H) : Int := f.1 * x.1 + f.2.1 * x.2.1 + f.2.2.1 * x.2.2.1 + f.2.2.2 * x.2.2.2
def fs (f g h : H) : Int := f.1 * (g.2.1 * h.2.2.1 - g.2.2.1 * h.2.1) - f.2.1 * (g.1 * h.2.2.1 - g.2.2.1 * h.1) + f.2.2.1 * (g.1 * h.2.1 - g.2.1 * h.1)
def sw (f g : H) : H := (f.2.1 * g.2.2.1 - f.2.2.1 * g.2.1, f.2.2.1 * g.1 - f.1 * g.2.2.1, f.1 * g.2.1 - f.2.1 * g.1, 0)
def mix (u : Int) (x : H) (v : Int) (y : H) : H := (u * x.1 + v * y.1, u * x.2.1 + v * y.2.1, u * x.2.2.1 + v * y.2.2.1, u * x.2.2.2 + v * y.2.2.2)
theorem oc (f : H) (u : Int) (x : H) (v : Int) (y : H) : ev f (mix u x v y) = u * ev f x + v * ev f y := by
 simp only [ev, mix]; grind
theorem OD (f g : H) : ev f (sw f g) = 0 := by simp only [ev, sw]; grind
theorem OE (f g : H) : ev g (sw f g) = 0 := by simp only [ev, sw]; grind
theorem Bo (f g h : H) : ev h (sw f g) = fs f g h := by simp only [ev, sw, fs]; grind
theorem Lm {f g h x : H} (hd : fs f g h ≠ 0) (hx : x.2.2.2 = 0) (h1 : ev f x = 0) (h2 : ev g x = 0) (h3 : ev h x = 0) : x = (0, 0, 0, 0) := by
 obtain ⟨x1, x2, x3, x4⟩ := x
 obtain ⟨f1, f2, f3, f4⟩ := f
 obtain ⟨g1, g2, g3, g4⟩ := g
 obtain ⟨i1, i2, i3, i4⟩ := h
 simp only at hx
 subst hx
 simp only [ev, fs] at hd h1 h2 h3
 have a1 : (f1 * (g2 * i3 - g3 * i2) - f2 * (g1 * i3 - g3 * i1) + f3 * (g1 * i2 - g2 * i1)) * x1 = 0 := by grind
 have a2 : (f1 * (g2 * i3 - g3 * i2) - f2 * (g1 * i3 - g3 * i1) + f3 * (g1 * i2 - g2 * i1)) * x2 = 0 := by grind
 have a3 : (f1 * (g2 * i3 - g3 * i2) - f2 * (g1 * i3 - g3 * i1) + f3 * (g1 * i2 - g2 * i1)) * x3 = 0 := by grind
 rcases Int.mul_eq_zero.mp a1 with c | c
 ·exact absurd c hd
 rcases Int.mul_eq_zero.mp a2 with c2 | c2
 ·exact absurd c2 hd
 rcases Int.mul_eq_zero.mp a3 with c3 | c3
 ·exact absurd c3 hd
 rw [c, c2, c3]
def l_ (x : H) : Nat := Nat.gcd (Nat.gcd (Nat.gcd x.1.natAbs x.2.1.natAbs) x.2.2.1.natAbs) x.2.2.2.natAbs
theorem ui (u : Int) (x : H) : l_ (u * x.1, u * x.2.1, u * x.2.2.1, u * x.2.2.2) = u.natAbs * l_ x := by
 simp only [l_, Int.natAbs_mul, Nat.gcd_mul_left]
theorem Vk {p q : H} (hp : 0 < p.2.2.2) (hq : 0 < q.2.2.2) (gp : l_ p = 1) (gq : l_ q = 1) (h : mix p.2.2.2 q (-q.2.2.2) p = (0, 0, 0, 0)) : p = q := by
 obtain ⟨p1, p2, p3, p4⟩ := p
 obtain ⟨q1, q2, q3, q4⟩ := q
 simp only [mix, Prod.mk.injEq] at h hp hq
 obtain ⟨h1, h2, h3, _⟩ := h
 have e1 : p4 * q1 = q4 * p1 := by grind
 have e2 : p4 * q2 = q4 * p2 := by grind
 have e3 : p4 * q3 = q4 * p3 := by grind
 have a := ui p4 (q1, q2, q3, q4)
 have b := ui q4 (p1, p2, p3, p4)
 simp only at a b
 rw [e1, e2, e3, Int.mul_comm p4 q4, b, gp, gq] at a
 have e4 : p4 = q4 := by omega
 subst e4
 have c1 := Int.eq_of_mul_eq_mul_left (by omega) e1
 have c2 := Int.eq_of_mul_eq_mul_left (by omega) e2
 have c3 := Int.eq_of_mul_eq_mul_left (by omega) e3
 rw [c1, c2, c3]
theorem uj {f g h p q : H} (hd : fs f g h ≠ 0) (hp : 0 < p.2.2.2) (hq : 0 < q.2.2.2) (gp : l_ p = 1) (gq : l_ q = 1) (a1 : ev f p = 0) (a2 : ev g p = 0) (a3 : ev h p = 0) (b1 : ev f q = 0) (b2 : ev g q = 0) (b3 : ev h q = 0) : p = q := by
 refine Vk hp hq gp gq (Lm hd ?_ ?_ ?_ ?_)
 ·simp only [mix]; grind
 ·rw [oc, a1, b1]; omega
 ·rw [oc, a2, b2]; omega
 ·rw [oc, a3, b3]; omega
theorem Vl (x : H) (hx : 0 < x.2.2.2) : ∃ (y : H) (m : Int), 0 < m ∧ 0 < y.2.2.2 ∧ l_ y = 1 ∧ x = (m * y.1, m * y.2.1, m * y.2.2.1, m * y.2.2.2) := by
 obtain ⟨x1, x2, x3, x4⟩ := x
 simp only at hx
 have hd4 : l_ (x1, x2, x3, x4) ∣ x4.natAbs := Nat.gcd_dvd_right _ _
 have hA : l_ (x1, x2, x3, x4) ∣ Nat.gcd (Nat.gcd x1.natAbs x2.natAbs) x3.natAbs := Nat.gcd_dvd_left _ _
 have hd3 : l_ (x1, x2, x3, x4) ∣ x3.natAbs := Nat.dvd_trans hA (Nat.gcd_dvd_right _ _)
 have hd2 : l_ (x1, x2, x3, x4) ∣ x2.natAbs := Nat.dvd_trans hA (Nat.dvd_trans (Nat.gcd_dvd_left _ _) (Nat.gcd_dvd_right _ _))
 have hd1 : l_ (x1, x2, x3, x4) ∣ x1.natAbs := Nat.dvd_trans hA (Nat.dvd_trans (Nat.gcd_dvd_left _ _) (Nat.gcd_dvd_left _ _))
 have xm : 0 < l_ (x1, x2, x3, x4) := Nat.pos_of_dvd_of_pos hd4 (by omega)
 obtain ⟨y1, e1⟩ := Int.ofNat_dvd_left.mpr hd1
 obtain ⟨y2, e2⟩ := Int.ofNat_dvd_left.mpr hd2
 obtain ⟨y3, e3⟩ := Int.ofNat_dvd_left.mpr hd3
 obtain ⟨y4, e4⟩ := Int.ofNat_dvd_left.mpr hd4
 generalize hm : l_ (x1, x2, x3, x4) = m at e1 e2 e3 e4 xm
 have hm' := ui (m : Int) (y1, y2, y3, y4)
 simp only at hm'
 rw [← e1, ← e2, ← e3, ← e4, hm] at hm'
 refine ⟨(y1, y2, y3, y4), m, by omega, ?_, ?_, ?_⟩
 ·show 0 < y4
  rw [e4] at hx
  exact Int.pos_of_mul_pos_right hx (by omega)
 ·have : m * 1 = m * l_ (y1, y2, y3, y4) := by rw [Nat.mul_one]; simpa using hm'
  exact (Nat.eq_of_mul_eq_mul_left xm this).symm
 ·simp only [e1, e2, e3, e4]
theorem Fk (f : H) (m : Int) (y : H) : ev f (m * y.1, m * y.2.1, m * y.2.2.1, m * y.2.2.2) = m * ev f y := by
 simp only [ev]; grind
theorem R9 (P : Nat → Prop) (r : Nat → Nat → Prop) (tot : ∀ i j, P i → P j → r i j ∨ r j i) (tr : ∀ i j k, P i → P j → P k → r i j → r j k → r i k) : ∀ (N : Nat), (∃ k, k < N ∧ P k) → ∃ k, k < N ∧ P k ∧ ∀ j, j < N → P j → r k j := by
 intro N
 induction N with
 | zero => rintro ⟨k, hk, _⟩; omega
 | succ N ih =>
  intro hex
  by_cases c : ∃ k, k < N ∧ P k
  ·obtain ⟨k, hk, hp, hm⟩ := ih c
   by_cases cN : P N
   ·rcases tot k N hp cN with h | h
    ·exact ⟨k, by omega, hp, fun j hj pj => by
      by_cases e : j = N
      ·subst e; exact h
      ·exact hm j (by omega) pj⟩
    ·exact ⟨N, by omega, cN, fun j hj pj => by
      by_cases e : j = N
      ·subst e; rcases tot j j pj pj with a | a <;> exact a
      ·exact tr N k j cN hp pj h (hm j (by omega) pj)⟩
   ·exact ⟨k, by omega, hp, fun j hj pj => hm j (by
     rcases Nat.lt_succ_iff_lt_or_eq.mp hj with h | h
     ·exact h
     ·subst h; exact absurd pj cN) pj⟩
  ·obtain ⟨k, hk, pk⟩ := hex
   have : k = N := by
    rcases Nat.lt_succ_iff_lt_or_eq.mp hk with h | h
    ·exact absurd ⟨k, h, pk⟩ c
    ·exact h
   subst this
   exact ⟨k, hk, pk, fun j hj pj => by
    rcases Nat.lt_succ_iff_lt_or_eq.mp hj with h | h
    ·exact absurd ⟨j, h, pj⟩ c
    ·subst h; rcases tot j j pj pj with a | a <;> exact a⟩
theorem mw {τ : Type} [DecidableEq τ] : ∀ (A B : List τ), A.Nodup → (∀ x ∈ A, x ∈ B) → B.length ≤ A.length → ∀ x ∈ B, x ∈ A := by
 intro A
 induction A with
 | nil => intro B _ _ h x hx; cases B with
  | nil => exact hx
  | cons b B => simp at h
 | cons a A ih =>
  intro B hn hs hl x hx
  have Yw := List.nodup_cons.mp hn
  have haB := hs a (by simp)
  by_cases e : x = a
  ·subst e; simp
  ·have := ih (B.erase a) Yw.2 (fun y hy => (List.mem_erase_of_ne (by intro e2; subst e2; exact Yw.1 hy)).mpr (hs y (by simp [hy]))) (by rw [List.length_erase_of_mem haB]; simp at hl; omega) x ((List.mem_erase_of_ne e).mpr hx)
   simp [this]
section
variable (F : Nat → H) (N : Nat) (D : List H)
def tight (p : H) (k : Nat) : Bool := decide (k < N) && decide (ev (F k) p = 0)
def jL (p : H) : List Nat := (List.range N).filter fun k => decide (ev (F k) p = 0)
theorem iA {p : H} {k : Nat} : k ∈ jL F N p ↔ tight F N p k = true := by
 simp [jL, tight]
theorem nZ (p : H) : (jL F N p).Nodup := List.nodup_range.filter _
def Ln (dim : Nat) (V : List H) : Prop :=
 (∀ x : H, x.2.2.2 = 0 → (∀ f ∈ D, ev f x = 0) → (∀ k, k < N → 0 ≤ ev (F k) x) → x = (0, 0, 0, 0)) ∧
 (∀ p ∈ V, 0 < p.2.2.2 ∧ l_ p = 1 ∧ (∀ k, k < N → 0 ≤ ev (F k) p) ∧ (∀ f ∈ D, ev f p = 0) ∧ (jL F N p).length = dim) ∧
 (∀ p ∈ V, ∀ l, tight F N p l = true → ∃ f g : H, fs f g (F l) ≠ 0 ∧ (∀ x : H, (ev f x = 0 ∧ ev g x = 0) ↔ ((∀ f ∈ D, ev f x = 0) ∧ ∀ k, k ≠ l → tight F N p k = true → ev (F k) x = 0)) ∧
  ∀ q : H, 0 < q.2.2.2 → l_ q = 1 → (∀ k, k < N → 0 ≤ ev (F k) q) → ev f q = 0 → ev g q = 0 → ∀ k, k < N → ev (F k) q = 0 → fs f g (F k) ≠ 0 → q ∈ V)
variable {F N D}
theorem adv {dim : Nat} {V : List H} (hC : Ln F N D dim V) {p : H} (hp : p ∈ V) {l : Nat} (hl : tight F N p l = true) :
  ∃ (q : H) (k : Nat), q ∈ V ∧ q ≠ p ∧ tight F N p k = false ∧ (∀ j, tight F N q j = true ↔ ((tight F N p j = true ∧ j ≠ l) ∨ j = k)) ∧ ∀ q' ∈ V, q' ≠ p → (∀ j, tight F N p j = true → j ≠ l → tight F N q' j = true) → q' = q := by
 obtain ⟨hB, hV, hE⟩ := hC
 obtain ⟨f, g, mQ, hK, lS⟩ := hE p hp l hl
 obtain ⟨pd, pg, pF, pD, pn⟩ := hV p hp
 have hlN : l < N := by simp [tight] at hl; exact hl.1
 have Iw : ev (F l) p = 0 := by simp [tight] at hl; exact hl.2
 obtain ⟨pf, pg'⟩ := (hK p).mpr ⟨pD, fun k _ hk => by simp [tight] at hk; exact hk.2⟩
 obtain ⟨s, hs, NX⟩ : ∃ s : Int, (s = 1 ∨ s = -1) ∧ 0 < s * fs f g (F l) := by
  by_cases c : 0 < fs f g (F l)
  ·exact ⟨1, .inl rfl, by omega⟩
  ·exact ⟨-1, .inr rfl, by omega⟩
 obtain ⟨e, he⟩ : ∃ e : H, e = mix s (sw f g) 0 (sw f g) := ⟨_, rfl⟩
 have Vm : ∀ h, ev h e = s * ev h (sw f g) := by intro h; rw [he, oc]; omega
 have ef : ev f e = 0 := by rw [Vm, OD]; omega
 have eg : ev g e = 0 := by rw [Vm, OE]; omega
 have el : 0 < ev (F l) e := by rw [Vm, Bo]; exact NX
 have ed : e.2.2.2 = 0 := by rw [he]; simp only [mix, sw]; omega
 obtain ⟨eD, eK⟩ := (hK e).mp ⟨ef, eg⟩
 have akn : ∃ k, k < N ∧ ev (F k) e < 0 := by
  apply Classical.byContradiction
  intro tP
  have := hB e ed eD (fun k hk => by
   apply Classical.byContradiction
   intro adw
   exact tP ⟨k, hk, by omega⟩)
  rw [this] at el
  simp [ev] at el
 obtain ⟨k, Tc, hke, Ix⟩ := R9 (fun k => ev (F k) e < 0) (fun i j => ev (F i) p * (-ev (F j) e) ≤ ev (F j) p * (-ev (F i) e)) (fun i j _ _ => by
   have := Int.le_total (ev (F i) p * (-ev (F j) e)) (ev (F j) p * (-ev (F i) e))
   exact this) (fun i j k hi hj hk h1 h2 => by
   have a := Int.mul_le_mul_of_nonneg_right h1 (show (0 : Int) ≤ -ev (F k) e by omega)
   have b := Int.mul_le_mul_of_nonneg_right h2 (show (0 : Int) ≤ -ev (F i) e by omega)
   have c : ev (F i) p * -ev (F k) e * (-ev (F j) e) ≤ ev (F k) p * -ev (F i) e * (-ev (F j) e) := by grind
   exact Int.le_of_mul_le_mul_right c (by omega)) N akn
 have HV : 0 < ev (F k) p := by
  have h0 := pF k Tc
  rcases Int.lt_or_eq_of_le h0 with h | h
  ·exact h
  ·exfalso
   by_cases c : k = l
   ·subst c; omega
   ·have := eK k c (by simp [tight, Tc, ← h])
    omega
 obtain ⟨x, hx⟩ : ∃ x : H, x = mix (-ev (F k) e) p (ev (F k) p) e := ⟨_, rfl⟩
 have xd : 0 < x.2.2.2 := by
  rw [hx]; simp only [mix, ed]
  have := Int.mul_pos (show 0 < -ev (F k) e by omega) pd
  omega
 obtain ⟨q, m, hm, qd, qg, hq⟩ := Vl x xd
 have Vn : ∀ h, m * ev h q = -ev (F k) e * ev h p + ev (F k) p * ev h e := by
  intro h
  rw [← Fk, ← hq, hx, oc]
 have Fl : ∀ h, ev h p = 0 → ev h e = 0 → ev h q = 0 := by
  intro h a b
  have := Vn h
  rw [a, b] at this
  rcases Int.mul_eq_zero.mp (this.trans (by omega)) with c | c
  ·omega
  ·exact c
 have qF : ∀ j, j < N → 0 ≤ ev (F j) q := by
  intro j hj
  have Xo : 0 ≤ m * ev (F j) q := by
   rw [Vn]
   have h0 := pF j hj
   by_cases c : ev (F j) e < 0
   ·have := Ix j hj c
    have e1 : -ev (F k) e * ev (F j) p + ev (F k) p * ev (F j) e = ev (F j) p * (-ev (F k) e) - ev (F k) p * (-ev (F j) e) := by grind
    rw [e1]; omega
   ·have a := Int.mul_nonneg (show 0 ≤ -ev (F k) e by omega) h0
    have b := Int.mul_nonneg (show 0 ≤ ev (F k) p by omega) (show 0 ≤ ev (F j) e by omega)
    omega
  exact Int.nonneg_of_mul_nonneg_right Xo hm
 have qk : ev (F k) q = 0 := by
  have := Vn (F k)
  have e1 : -ev (F k) e * ev (F k) p + ev (F k) p * ev (F k) e = 0 := by grind
  rw [e1] at this
  rcases Int.mul_eq_zero.mp this with c | c
  ·omega
  ·exact c
 have hdk : fs f g (F k) ≠ 0 := by
  intro c
  have := Vm (F k)
  rw [Bo, c] at this
  omega
 have qV : q ∈ V := lS q qd qg qF (Fl f pf ef) (Fl g pg' eg) k Tc qk hdk
 have ql : 0 < ev (F l) q := by
  have h1 := Vn (F l)
  rw [Iw] at h1
  have h2 := Int.mul_pos HV el
  have h3 : 0 < m * ev (F l) q := by rw [h1]; omega
  exact Int.pos_of_mul_pos_right h3 (by omega)
 have R_ : q ≠ p := by intro c; rw [c, Iw] at ql; omega
 have Bp : tight F N p k = false := by
  simp [tight]
  intro _
  omega
 have hkl : k ≠ l := by intro c; subst c; omega
 have sub : ∀ j ∈ ((jL F N p).erase l ++ [k]), j ∈ jL F N q := by
  intro j hj
  rcases List.mem_append.mp hj with h | h
  ·have hjp : j ∈ jL F N p := List.mem_of_mem_erase h
   have H2 : j ≠ l := by intro c; subst c; exact List.Nodup.not_mem_erase (nZ F N p) h
   have ht := (iA F N).mp hjp
   refine (iA F N).mpr ?_
   have h1 : j < N ∧ ev (F j) p = 0 := by simpa [tight] using ht
   simp [tight, h1.1, Fl (F j) h1.2 (eK j H2 ht)]
  ·have : j = k := by simpa using h
   subst this
   exact (iA F N).mpr (by simp [tight, Tc, qk])
 have hlm : l ∈ jL F N p := (iA F N).mpr hl
 have hnd : ((jL F N p).erase l ++ [k]).Nodup := by
  refine List.nodup_append.mpr ⟨(nZ F N p).erase _, by simp, ?_⟩
  intro a ha b hb
  have : b = k := by simpa using hb
  subst this
  intro c
  subst c
  have := (iA F N).mp (List.mem_of_mem_erase ha)
  rw [Bp] at this
  exact absurd this (by decide)
 obtain ⟨_, _, _, _, qn⟩ := hV q qV
 have awh : 0 < (jL F N p).length := List.length_pos_of_mem hlm
 have sup := mw _ _ hnd sub (by rw [List.length_append, List.length_erase_of_mem hlm, qn]; simp; omega)
 have aru : ∀ j, tight F N q j = true ↔ ((tight F N p j = true ∧ j ≠ l) ∨ j = k) := by
  intro j
  rw [← iA, ← iA]
  constructor
  ·intro hj
   rcases List.mem_append.mp (sup j hj) with h | h
   ·exact .inl ⟨List.mem_of_mem_erase h, by intro c; subst c; exact List.Nodup.not_mem_erase (nZ F N p) h⟩
   ·exact .inr (by simpa using h)
  ·rintro (h | h)
   ·exact sub j (List.mem_append.mpr (.inl ((List.mem_erase_of_ne h.2).mpr h.1)))
   ·subst h; exact sub j (by simp)
 refine ⟨q, k, qV, R_, Bp, aru, ?_⟩
 intro q' hq' fv BG
 obtain ⟨qd', qg', qF', qD', qn'⟩ := hV q' hq'
 obtain ⟨qf', qg2⟩ := (hK q').mpr ⟨qD', fun j hj ht => by have := BG j ht hj; simp [tight] at this; exact this.2⟩
 obtain ⟨y, hy⟩ : ∃ y : H, y = mix p.2.2.2 q' (-q'.2.2.2) p := ⟨_, rfl⟩
 have Ra : ∀ h, ev h y = p.2.2.2 * ev h q' - q'.2.2.2 * ev h p := by intro h; rw [hy, oc]; grind
 have yl : ev (F l) y = p.2.2.2 * ev (F l) q' := by rw [Ra, Iw]; grind
 have hz := Lm (x := mix (ev (F l) e) y (-ev (F l) y) e) mQ (by simp only [mix, ed, hy]; grind) (by rw [oc, Ra, qf', pf, ef]; grind) (by rw [oc, Ra, qg2, pg', eg]; grind) (by rw [oc]; grind)
 have ako : ∀ h, ev (F l) e * ev h y = ev (F l) y * ev h e := by
  intro h
  have := congrArg (ev h) hz
  rw [oc] at this
  have z : ev h (0, 0, 0, 0) = 0 := by simp [ev]
  rw [z] at this
  grind
 have ql' : 0 < ev (F l) q' := by
  have h0 := qF' l hlN
  rcases Int.lt_or_eq_of_le h0 with h | h
  ·exact h
  ·exfalso
   apply fv
   exact (uj mQ pd qd' pg qg' pf pg' Iw qf' qg2 h.symm).symm
 have hex : ∃ k', k' ∈ jL F N q' ∧ k' ∉ (jL F N p).erase l := by
  apply Classical.byContradiction
  intro tP
  have h1 : ∀ j ∈ jL F N q', j ∈ (jL F N p).erase l := fun j hj => by
   apply Classical.byContradiction
   intro c
   exact tP ⟨j, hj, c⟩
  have h2 : (jL F N p).erase l = (jL F N p).erase l := rfl
  have h3 := mw (jL F N q') ((jL F N p).erase l) (nZ F N q') h1 (by rw [List.length_erase_of_mem hlm, qn', pn]; omega)
  have h4 : (jL F N q').length ≤ ((jL F N p).erase l).length := Iy _ _ (nZ F N q') h1
  rw [List.length_erase_of_mem hlm] at h4
  omega
 obtain ⟨k', hk', hk2⟩ := hex
 have arv := (iA F N).mp hk'
 have Vo : k' < N ∧ ev (F k') q' = 0 := by simpa [tight] using arv
 have arw : k' ≠ l := by intro c; subst c; omega
 have arx : 0 < ev (F k') p := by
  have h0 := pF k' Vo.1
  rcases Int.lt_or_eq_of_le h0 with h | h
  ·exact h
  ·exfalso
   exact hk2 ((List.mem_erase_of_ne arw).mpr ((iA F N).mpr (by simp [tight, Vo.1, ← h])))
 have z1 := ako (F k')
 rw [Ra, Vo.2, yl] at z1
 have hA : 0 < p.2.2.2 * ev (F l) q' := Int.mul_pos pd ql'
 have hB' : 0 < ev (F l) e * (q'.2.2.2 * ev (F k') p) := Int.mul_pos el (Int.mul_pos qd' arx)
 have ary : ev (F k') e < 0 := by
  have : p.2.2.2 * ev (F l) q' * ev (F k') e < 0 := by grind
  exact Int.neg_of_mul_neg_right this hA
 have z2 := ako (F k)
 rw [Ra, yl] at z2
 have akp := Ix k' Vo.1 ary
 have arz := qF' k Tc
 have qk' : ev (F k) q' = 0 := by
  rcases Int.lt_or_eq_of_le arz with h | h
  ·exfalso
   have t1 : 0 < ev (F l) e * (p.2.2.2 * ev (F k) q') := Int.mul_pos el (Int.mul_pos pd h)
   have t2 := Int.mul_pos t1 (show 0 < -ev (F k') e by omega)
   have t3 := Int.mul_le_mul_of_nonneg_left akp (show 0 ≤ ev (F l) e * q'.2.2.2 from Int.le_of_lt (Int.mul_pos el qd'))
   have r1 : ev (F l) e * (p.2.2.2 * ev (F k) q') = ev (F l) e * q'.2.2.2 * ev (F k) p + p.2.2.2 * ev (F l) q' * ev (F k) e := by grind
   have r2 : ev (F l) e * q'.2.2.2 * ev (F k') p = p.2.2.2 * ev (F l) q' * (-ev (F k') e) := by grind
   have r3 : ev (F l) e * q'.2.2.2 * (ev (F k) p * -ev (F k') e) ≤ p.2.2.2 * ev (F l) q' * (-ev (F k') e) * (-ev (F k) e) := by rw [← r2]; grind
   rw [r1] at t2
   have r4 : (ev (F l) e * q'.2.2.2 * ev (F k) p + p.2.2.2 * ev (F l) q' * ev (F k) e) * -ev (F k') e = ev (F l) e * q'.2.2.2 * (ev (F k) p * -ev (F k') e) - p.2.2.2 * ev (F l) q' * (-ev (F k') e) * (-ev (F k) e) := by grind
   rw [r4] at t2
   omega
  ·exact h.symm
 exact (uj hdk qd qd' qg qg' (Fl f pf ef) (Fl g pg' eg) qk qf' qg2 qk').symm
where
 Iy {τ : Type} [DecidableEq τ] (A B : List τ) (hn : A.Nodup) (hs : ∀ x ∈ A, x ∈ B) : A.length ≤ B.length := by
  induction A generalizing B with
  | nil => simp
  | cons a A ih =>
   have Yw := List.nodup_cons.mp hn
   have haB := hs a (by simp)
   have := ih (B.erase a) Yw.2 (fun y hy => (List.mem_erase_of_ne (by intro e2; subst e2; exact Yw.1 hy)).mpr (hs y (by simp [hy])))
   rw [List.length_erase_of_mem haB] at this
   have := List.length_pos_of_mem haB
   simp; omega
end
end Go.Proofs.YtggiicplcglalaaGreat.LH
end
