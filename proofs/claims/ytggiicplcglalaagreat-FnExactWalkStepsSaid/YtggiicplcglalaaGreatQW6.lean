/- Part of the proof that FnExactWalkSteps answers true. -/
import Derived.Test.YtggiicplcglalaaGreatQW5
namespace Go.Proofs.YtggiicplcglalaaGreat.All
open Go.RowKit YtggiicplcglalaaGreatW.PrintWords YtggiicplcglalaaGreatW.PrintLast YtggiicplcglalaaGreatW.PrintMore
attribute [local go_sem] max2_int min2_int max_two min_two max_three min_three max_four min_four
set_option linter.unusedVariables false
set_option linter.unusedSimpArgs false
set_option maxHeartbeats 8000000
set_option maxRecDepth 100000
mutual
def aA.l0 : Nat → Int → Int → Int → List (bm) → List (bm) → Int → Int → List (List Int) → List (List Int) → Option (Int × (List (bm)))
 | 0, _, _, _, _, _, _, _, _, _ => none
 | k + 1, x1, x5, x6, x8, x9, Z9, Ma, iC, iD => if Ma < Z9 then ((kd.f Ma x5).bind fun t175 => (if x8.length < 3518437208883 then (aA.l0 k x1 x5 x6 (x8 ++ [(⟨t175, 0, true⟩ : bm)]) x9 Z9 (wrap64 (Ma + 1)) iC iD) else (none))) else (aA.l1 k x1 x5 x8 x9 x6 0 iC iD)
def aA.l1 : Nat → Int → Int → List (bm) → List (bm) → Int → Int → List (List Int) → List (List Int) → Option (Int × (List (bm)))
 | 0, _, _, _, _, _, _, _, _ => none
 | k + 1, x1, x5, x8, x9, sc, De, iC, iD => if De < sc then ((la.f De iC iD).bind fun t193 => (aA.uz k x1 x5 x8 x9 t193 sc De (t193.length : Int) 0 iC iD)) else (if x1 = 2 then ((aX.f k (([x9, x8] : List (List (bm))))).bind fun t184 => (some (x5, t184))) else ((aX.f k (([x8, x9] : List (List (bm))))).bind fun t190 => (some (x5, t190))))
def aA.uz : Nat → Int → Int → List (bm) → List (bm) → List Int → Int → Int → Int → Int → List (List Int) → List (List Int) → Option (Int × (List (bm)))
 | 0, _, _, _, _, _, _, _, _, _, _, _ => none
 | k + 1, x1, x5, x8, x9, oE, sc, De, x48, Oe, iC, iD => if Oe < x48 then (if 0 ≤ Oe then (if Oe < (oE.length : Int) then (aA.uz k x1 x5 x8 x9 (oE.set (Oe : Int).toNat (wrap64 ((rd oE Oe) + 10))) sc De x48 (wrap64 (Oe + 1)) iC iD) else (none)) else (none)) else (if x9.length < 3518437208883 then (aA.l1 k x1 x5 x8 (x9 ++ [(⟨oE, 1, false⟩ : bm)]) sc (wrap64 (De + 1)) iC iD) else (none))
def aA.sf : Nat → Int → Int → Int → List (bm) → List (bm) → Int → Int → List (List Int) → List (List Int) → Option (Int × (List (bm)))
 | 0, _, _, _, _, _, _, _, _, _ => none
 | k + 1, x1, x5, x6, x8, x9, Z9, Ma, iC, iD => if Ma < Z9 then ((kd.f Ma x5).bind fun t207 => (if x8.length < 3518437208883 then (aA.sf k x1 x5 x6 (x8 ++ [(⟨t207, 0, true⟩ : bm)]) x9 Z9 (wrap64 (Ma + 1)) iC iD) else (none))) else (aA.ux k x1 x5 x8 x9 x6 0 iC iD)
def aA.ux : Nat → Int → Int → List (bm) → List (bm) → Int → Int → List (List Int) → List (List Int) → Option (Int × (List (bm)))
 | 0, _, _, _, _, _, _, _, _ => none
 | k + 1, x1, x5, x8, x9, sc, De, iC, iD => if De < sc then ((jO.f k De iC iD).bind fun t225 => (aA.uy k x1 x5 x8 x9 t225 sc De (t225.length : Int) 0 iC iD)) else (if x1 = 2 then ((aX.f k (([x9, x8] : List (List (bm))))).bind fun t216 => (some (x5, t216))) else ((aX.f k (([x8, x9] : List (List (bm))))).bind fun t222 => (some (x5, t222))))
def aA.uy : Nat → Int → Int → List (bm) → List (bm) → List Int → Int → Int → Int → Int → List (List Int) → List (List Int) → Option (Int × (List (bm)))
 | 0, _, _, _, _, _, _, _, _, _, _, _ => none
 | k + 1, x1, x5, x8, x9, oE, sc, De, x48, Oe, iC, iD => if Oe < x48 then (if 0 ≤ Oe then (if Oe < (oE.length : Int) then (aA.uy k x1 x5 x8 x9 (oE.set (Oe : Int).toNat (wrap64 ((rd oE Oe) + 10))) sc De x48 (wrap64 (Oe + 1)) iC iD) else (none)) else (none)) else (if x9.length < 3518437208883 then (aA.ux k x1 x5 x8 (x9 ++ [(⟨oE, 1, false⟩ : bm)]) sc (wrap64 (De + 1)) iC iD) else (none))
end
def aA.f (k : Nat) (aD : List (List Int)) (aG : List (List Int)) (a1 : Int) : Option (Int × (List (bm))) := (dU.f aD aG).bind fun t165 => ((dd.f aD aG).bind fun t166 => (if a1 = 2 then ((dd.f aD aG).bind fun t167 => ((dU.f aD aG).bind fun t168 => (aA.l0 k a1 t167 t168 (([] : List (bm))) (([] : List (bm))) t167 0 aD aG))) else (aA.sf k a1 t165 t166 (([] : List (bm))) (([] : List (bm))) t165 0 aD aG)))
theorem aA.bG : ∀ k, (∀ y0 y1 y2 y3 y4 y5 y6 y7 y8, bB (aA.l0 k y0 y1 y2 y3 y4 y5 y6 y7 y8) (aA.l0 (k + 1) y0 y1 y2 y3 y4 y5 y6 y7 y8)) ∧ (∀ y0 y1 y2 y3 y4 y5 y6 y7, bB (aA.l1 k y0 y1 y2 y3 y4 y5 y6 y7) (aA.l1 (k + 1) y0 y1 y2 y3 y4 y5 y6 y7)) ∧ (∀ y0 y1 y2 y3 y4 y5 y6 y7 y8 y9 zB, bB (aA.uz k y0 y1 y2 y3 y4 y5 y6 y7 y8 y9 zB) (aA.uz (k + 1) y0 y1 y2 y3 y4 y5 y6 y7 y8 y9 zB)) ∧ (∀ y0 y1 y2 y3 y4 y5 y6 y7 y8, bB (aA.sf k y0 y1 y2 y3 y4 y5 y6 y7 y8) (aA.sf (k + 1) y0 y1 y2 y3 y4 y5 y6 y7 y8)) ∧ (∀ y0 y1 y2 y3 y4 y5 y6 y7, bB (aA.ux k y0 y1 y2 y3 y4 y5 y6 y7) (aA.ux (k + 1) y0 y1 y2 y3 y4 y5 y6 y7)) ∧ (∀ y0 y1 y2 y3 y4 y5 y6 y7 y8 y9 zB, bB (aA.uy k y0 y1 y2 y3 y4 y5 y6 y7 y8 y9 zB) (aA.uy (k + 1) y0 y1 y2 y3 y4 y5 y6 y7 y8 y9 zB))
 | 0 => ⟨fun _ _ _ _ _ _ _ _ _ r h => by simp [aA.l0] at h, fun _ _ _ _ _ _ _ _ r h => by simp [aA.l1] at h, fun _ _ _ _ _ _ _ _ _ _ _ r h => by simp [aA.uz] at h, fun _ _ _ _ _ _ _ _ _ r h => by simp [aA.sf] at h, fun _ _ _ _ _ _ _ _ r h => by simp [aA.ux] at h, fun _ _ _ _ _ _ _ _ _ _ _ r h => by simp [aA.uy] at h⟩
 | k + 1 => by
  obtain ⟨eQ, kP, sn, Q6, ih4, ih5⟩ := aA.bG k
  refine ⟨?_, ?_, ?_, ?_, ?_, ?_⟩ <;> intros <;> (first | unfold aA.l0 | unfold aA.l1 | unfold aA.uz | unfold aA.sf | unfold aA.ux | unfold aA.uy)
  all_goals repeat' first
  | (with_reducible exact eQ ..)
  | (with_reducible exact kP ..)
  | (with_reducible exact sn ..)
  | (with_reducible exact Q6 ..)
  | (with_reducible exact ih4 ..)
  | (with_reducible exact ih5 ..)
  | (with_reducible exact aX.mono ..)
  | (with_reducible exact jO.mono ..)
  | (with_reducible exact bB.refl _)
  | (with_reducible exact bB.none _)
  | (with_reducible refine bB.ite ?_ ?_)
  | (with_reducible refine bB.bind ?_ (fun _ => ?_))
theorem aA.mono : ∀ a0 a1 a2 k, bB (aA.f k a0 a1 a2) (aA.f (k + 1) a0 a1 a2) := by
 intro a0 a1 a2 k
 obtain ⟨eQ, kP, sn, Q6, ih4, ih5⟩ := aA.bG k
 unfold aA.f
 repeat' first
   | (with_reducible exact eQ ..)
   | (with_reducible exact kP ..)
   | (with_reducible exact sn ..)
   | (with_reducible exact Q6 ..)
   | (with_reducible exact ih4 ..)
   | (with_reducible exact ih5 ..)
   | (with_reducible exact aX.mono ..)
   | (with_reducible exact jO.mono ..)
   | (with_reducible exact bB.refl _)
   | (with_reducible exact bB.none _)
   | (with_reducible refine bB.ite ?_ ?_)
   | (with_reducible refine bB.bind ?_ (fun _ => ?_))
def aA.T1 : Bool × List (List Nat × List Nat) := (true, [([], []), ([0], [0]), ([], []), ([2, 1], [2]), ([], []), ([1, 3, 0, 1], [1]), ([3, 5, 0, 1, 2, 3, 5], [3]), ([4, 6, 0, 1, 2, 3, 4, 5, 6], [4])])
def aA.B1 : List Nat := [0, 1, 0, 7, 0, 15, 47, 127]
theorem aA.mc : fh .any (opsOf Tryz.f64 1) = aA.T1 := by kernel_rfl
theorem aA.jY : fG aA.T1.2 aA.B1 = true := by kernel_rfl
def aA.T3 : Bool × List (List Nat × List Nat) := (true, [([], []), ([0], [0]), ([], []), ([2, 1], [2]), ([], []), ([1, 3, 0, 1], [1]), ([3, 5, 0, 1, 2, 3, 5], [3]), ([4, 6, 0, 1, 2, 3, 4, 5, 6], [4])])
def aA.B3 : List Nat := [0, 1, 0, 7, 0, 15, 47, 127]
theorem aA.asu : fh .any (opsOf Tryz.f64 3) = aA.T3 := by kernel_rfl
theorem aA.alX : fG aA.T3.2 aA.B3 = true := by kernel_rfl
theorem aA.calls (k : Nat) (ay : Option Addr) (ap : Nat) (aD : List (List Int)) (ae : Option Addr) (a8 : Nat) (aG : List (List Int)) (a1 : Int) (r1 : Int) (r2 : List (bm)) (w : World) (db : Kd.C (Kd.slice 3 (Kd.int .i64)) w ay aD.length aD) (dc : aD.length ≤ ap) (dH : Kd.C (Kd.slice 3 (Kd.int .i64)) w ae aG.length aG) (dI : aG.length ≤ a8) (h : aA.f k aD aG a1 = some (r1, r2)) :
  Calls Tryz.prog 64 #[.agg #[.slice ay aD.length ap, .slice ae aG.length a8], .int .i64 a1] w fun e w' => ∃ Ox : Value, e = .returned (.agg #[.int .i64 r1, Ox]) ∧ Kd.N eB 113 w' w.heap.size (fun k_ => (w.heap.size ≤ k_)) Ox r2 ∧ Below w.heap.size w w' := by
 have rD := Tryz.underlying28
 have Tr := Tryz.underlying77
 have KE := Tryz.underlying113
 have bl := Aside0.mk db
 have bz := Aside0.mk dc
 clear db dc
 have bx := Aside0.mk dH
 have cE := Aside0.mk dI
 clear dH dI
 have HB := Aside0.mk (Below.refl w.heap.size w)
 have H : ((dU.f aD aG).bind fun t165 => ((dd.f aD aG).bind fun t166 => (if a1 = 2 then ((dd.f aD aG).bind fun t167 => ((dU.f aD aG).bind fun t168 => (aA.l0 k a1 t167 t168 (([] : List (bm))) (([] : List (bm))) t167 0 aD aG))) else (aA.sf k a1 t165 t166 (([] : List (bm))) (([] : List (bm))) t165 0 aD aG)))) = some (r1, r2) := h
 clear h
 replace H := bZ H; obtain ⟨t165, A3, H⟩ := H
 replace H := bZ H; obtain ⟨t166, A4, H⟩ := H
 by_cases c5 : a1 = 2
 ·rw [if_pos c5] at H
  have jR := il c5
  have Au := im c5
  clear c5
  replace H := bZ H; obtain ⟨t167, A6, H⟩ := H
  replace H := bZ H; obtain ⟨t168, A7, H⟩ := H
  replace H := br (([] : List (bm))) (fun XE => (aA.l0 k a1 t167 t168 XE (([] : List (bm))) t167 0 aD aG) = some (r1, r2)) H; obtain ⟨XE, Z_, H⟩ := H
  replace H := br (([] : List (bm))) (fun Of => (aA.l0 k a1 t167 t168 XE Of t167 0 aD aG) = some (r1, r2)) H; obtain ⟨Of, Za, H⟩ := H
  have H' := Aside0.mk H
  clear H
  have alY : ∀ args w, (callFunc 123 args).run Tryz.prog w = .ok (.enter 123 args) w := enters_of Tryz.func123 (by kernel_rfl) rfl
  have alZ : ∀ args w, (callFunc 125 args).run Tryz.prog w = .ok (.enter 125 args) w := enters_of Tryz.func125 (by kernel_rfl) rfl
  go_enter Tryz.func64, Tryz.ntmps64
  try go_wp2_with (first | ((with_reducible refine ah (N := 2) rfl ?_); refine bE 2 #[.slice ay aD.length ap, .slice ae aG.length a8] 28 ?_; intro bV hg w8 bO hb; have bL := am (bO); have Ss := gW HB hg; have al0 := Ss; replace HB := bS HB hb; clear hb bO hg) | ((with_reducible refine ah (N := 4) rfl ?_); refine bE 4 #[.int .i64 0, .slice none 0 0] 77 ?_; intro bW hg w9 bO hb; have bP := am (bO); have Su := gW HB hg; have al3 := Su; replace HB := bS HB hb; have pX := am ((by rw [hg]; exact Nat.ne_of_lt (d_ (g := bV) (o := .cells #[.slice ay aD.length ap, .slice ae aG.length a8] 28 (0, 0)) (ct bL.out)) : bV ≠ bW)); have pZ := am ((by rw [hg]; exact Nat.ne_of_gt (d_ (g := bV) (o := .cells #[.slice ay aD.length ap, .slice ae aG.length a8] 28 (0, 0)) (ct bL.out)) : bW ≠ bV)); replace bL := kS bL hb; clear hb bO hg))
  replace bL := am (az bL.out)
  replace bP := am (az bP.out)
  replace HB := am (bd HB.out)
  refine fA (n := 8) (S := fun w' => w'.cell? ⟨bV, 0, none⟩ = some (.slice ay aD.length ap) ∧ w'.cell? ⟨bV, 1, none⟩ = some (.slice ae aG.length a8)) (ds := []) (Array.replicate 8 false) (by kernel_rfl) rfl rfl ⟨(aQ bL.out 0).trans rfl, (aQ bL.out 1).trans rfl⟩ (fun ai => ?_); refine cv aA.mc aA.jY (fun ak fz => ?_)
  generalize w9.drew = BZ at bL bP HB ai ⊢
  refine pY 4 18 ak ?_
  refine tY 0 14 ak fz ai ?_
  refine tY 2 16 ak fz ai ?_
  refine oY 1 15 ak (fun K hK => ?_)
  refine gY Tryz.func77 #[.agg #[.slice ay aD.length ap, .slice ae aG.length a8]] ?_
  with_reducible refine (dU.calls _ _ aD _ _ aG t165 _ ?aT ?aU ?ao ?ar A3.out).mono ?_
  (case aT => exact cB bl HB)
  (case aU => exact bz.out)
  (case ao => exact cB bx HB)
  (case ar => exact cE.out)
  rintro e tu ⟨rfl, hb⟩
  refine ⟨_, rfl, ?_⟩
  replace bL := kS bL hb
  replace bP := kS bP hb
  replace HB := bS HB hb
  (try clear hb)
  (try clear sj)
  (try clear hk)
  (try clear hi)
  refine hK.out _ _ ⟨(aQ bL.out 0).trans rfl, (aQ bL.out 1).trans rfl⟩ (fun ai => ?_)
  clear hK K
  refine nY 15 ?_
  refine oY 3 17 ak (fun K hK => ?_)
  refine gY Tryz.func78 #[.agg #[.slice ay aD.length ap, .slice ae aG.length a8]] ?_
  with_reducible refine (dd.calls _ _ aD _ _ aG t166 _ ?aT ?aU ?ao ?ar A4.out).mono ?_
  (case aT => exact cB bl HB)
  (case aU => exact bz.out)
  (case ao => exact cB bx HB)
  (case ar => exact cE.out)
  rintro e Ou ⟨rfl, hb⟩
  refine ⟨_, rfl, ?_⟩
  replace bL := kS bL hb
  replace bP := kS bP hb
  replace HB := bS HB hb
  (try clear hb)
  (try clear sj)
  (try clear hk)
  (try clear hi)
  refine hK.out _ _ ⟨(aQ bL.out 0).trans rfl, (aQ bL.out 1).trans rfl⟩ (fun ai => ?_)
  clear hK K
  refine nY 17 ?_
  refine pY 5 5 ak ?_
  refine pY 6 6 ak ?_
  refine pY 7 7 ak ?_
  refine dY ak ?_
  try go_wp2
  replace bL := am (az bL.out)
  replace bP := am (az bP.out)
  replace HB := am (bd HB.out)
  refine fA (n := 8) (S := fun w' => w'.cell? ⟨bV, 0, none⟩ = some (.slice ay aD.length ap) ∧ w'.cell? ⟨bV, 1, none⟩ = some (.slice ae aG.length a8)) (ds := []) (Array.replicate 8 false) (by kernel_rfl) rfl rfl ⟨(aQ bL.out 0).trans rfl, (aQ bL.out 1).trans rfl⟩ (fun ai => ?_); refine cv aA.asu aA.alX (fun ak fz => ?_)
  generalize Ou.drew = E2 at bL bP HB ai ⊢
  refine pY 4 25 ak ?_
  refine tY 0 21 ak fz ai ?_
  refine tY 2 23 ak fz ai ?_
  refine oY 1 22 ak (fun K hK => ?_)
  refine gY Tryz.func78 #[.agg #[.slice ay aD.length ap, .slice ae aG.length a8]] ?_
  with_reducible refine (dd.calls _ _ aD _ _ aG t167 _ ?aT ?aU ?ao ?ar A6.out).mono ?_
  (case aT => exact cB bl HB)
  (case aU => exact bz.out)
  (case ao => exact cB bx HB)
  (case ar => exact cE.out)
  rintro e w14 ⟨rfl, hb⟩
  refine ⟨_, rfl, ?_⟩
  replace bL := kS bL hb
  replace bP := kS bP hb
  replace HB := bS HB hb
  (try clear hb)
  (try clear sj)
  (try clear hk)
  (try clear hi)
  refine hK.out _ _ ⟨(aQ bL.out 0).trans rfl, (aQ bL.out 1).trans rfl⟩ (fun ai => ?_)
  clear hK K
  refine nY 22 ?_
  refine oY 3 24 ak (fun K hK => ?_)
  refine gY Tryz.func77 #[.agg #[.slice ay aD.length ap, .slice ae aG.length a8]] ?_
  with_reducible refine (dU.calls _ _ aD _ _ aG t168 _ ?aT ?aU ?ao ?ar A7.out).mono ?_
  (case aT => exact cB bl HB)
  (case aU => exact bz.out)
  (case ao => exact cB bx HB)
  (case ar => exact cE.out)
  rintro e NQ ⟨rfl, hb⟩
  refine ⟨_, rfl, ?_⟩
  replace bL := kS bL hb
  replace bP := kS bP hb
  replace HB := bS HB hb
  (try clear hb)
  (try clear sj)
  (try clear hk)
  (try clear hi)
  refine hK.out _ _ ⟨(aQ bL.out 0).trans rfl, (aQ bL.out 1).trans rfl⟩ (fun ai => ?_)
  clear hK K
  refine nY 24 ?_
  refine pY 5 5 ak ?_
  refine pY 6 6 ak ?_
  refine pY 7 7 ak ?_
  refine dY ak ?_
  try go_wp2_with (first | ((with_reducible refine ah (N := 26) rfl ?_); refine Kd.nK eB _ 113 ?hg (N' := 26) ?hd (xs := ([] : List (bm))) (inner := []) (ok := (fun k_ => (w.heap.size ≤ k_) ∧ k_ ≠ bV ∧ k_ ≠ bW)) (okp := (fun k_ => (w.heap.size ≤ k_) ∧ k_ ≠ bV ∧ k_ ≠ bW)) ?hr ?hp (fun _ hk => hk) ((show ∀ k_, NQ.heap.size ≤ k_ → (fun k_ => (w.heap.size ≤ k_) ∧ k_ ≠ bV ∧ k_ ≠ bW) k_ from fun k_ hk => ⟨(Nat.le_trans (aC (mb HB.out)) hk), Kd.du (g := bV) (o := .cells #[.slice ay aD.length ap, .slice ae aG.length a8] 28 (0, 0)) (ct bL.out) k_ hk, Kd.du (g := bW) (o := .cells #[.int .i64 0, .slice none 0 0] 77 (0, 0)) (ct bP.out) k_ hk⟩) _ (Nat.le_refl _)) (Below.refl _ _) (Nat.le_refl _) (by simp) ?_; (case hd => rfl); (case hg => rfl); (case hr => first | (go_simp; done) | (go_simp; rfl)); (case hp => exact (cV.none _ _)); intro v170 NO tL hb jn dB; clear jn dB; (first | rw [← Z_.out] at tL | (simp only [Int.reduceToNat] at tL; rw [← Z_.out] at tL)); have Mb := am (Kd.fT tL (aC (mb HB.out))); replace bL := kS bL hb; replace bP := kS bP hb; replace HB := bS HB hb; clear hb tL) | ((with_reducible refine ah (N := 27) rfl ?_); refine Kd.nK eB _ 113 ?hg (N' := 27) ?hd (xs := ([] : List (bm))) (inner := []) (ok := (fun k_ => (w.heap.size ≤ k_) ∧ some k_ ≠ (v170 : Value).ownBlock ∧ k_ ≠ bV ∧ k_ ≠ bW)) (okp := (fun k_ => (w.heap.size ≤ k_) ∧ some k_ ≠ (v170 : Value).ownBlock ∧ k_ ≠ bV ∧ k_ ≠ bW)) ?hr ?hp (fun _ hk => hk) ((show ∀ k_, NO.heap.size ≤ k_ → (fun k_ => (w.heap.size ≤ k_) ∧ some k_ ≠ (v170 : Value).ownBlock ∧ k_ ≠ bV ∧ k_ ≠ bW) k_ from fun k_ hk => ⟨(Nat.le_trans (aC (mb HB.out)) hk), Kd.dz (Kd.rH (dX Mb.out)) k_ hk, Kd.du (g := bV) (o := .cells #[.slice ay aD.length ap, .slice ae aG.length a8] 28 (0, 0)) (ct bL.out) k_ hk, Kd.du (g := bW) (o := .cells #[.int .i64 0, .slice none 0 0] 77 (0, 0)) (ct bP.out) k_ hk⟩) _ (Nat.le_refl _)) (Below.refl _ _) (Nat.le_refl _) (by simp) ?_; (case hd => rfl); (case hg => rfl); (case hr => first | (go_simp; done) | (go_simp; rfl)); (case hp => exact (cV.none _ _)); intro v173 Ow Og hb jn dB; clear jn dB; (first | rw [← Za.out] at Og | (simp only [Int.reduceToNat] at Og; rw [← Za.out] at Og)); replace Mb := am (Kd.cw (dX Mb.out) (Kd.gv Og) hb); have al4 := am (Kd.fT Og (aC (mb HB.out))); replace bL := kS bL hb; replace bP := kS bP hb; replace HB := bS HB hb; clear hb Og))
  go_loopg [8, 29] k (fun kq v8 v29 w' => ∃ (cK : List (bm)) (mI : Int), v29 = .int .i64 mI ∧ Aside0 (aA.l0 kq a1 t167 t168 cK Of t167 mI aD aG = some (r1, r2)) ∧ Aside0 (kq ≤ k) ∧ Aside0 (Kd.N eB 113 w' w.heap.size (fun k_ => (w.heap.size ≤ k_) ∧ some k_ ≠ (v173 : Value).ownBlock ∧ k_ ≠ bV ∧ k_ ≠ bW) v8 cK) ∧ Aside0 (Kd.N eB 113 w' w.heap.size (fun k_ => (w.heap.size ≤ k_) ∧ some k_ ≠ (v8 : Value).ownBlock ∧ k_ ≠ bV ∧ k_ ≠ bW) v173 Of) ∧ Aside0 (w'.heap[bV]? = some (.cells #[(.slice ay aD.length ap), (.slice ae aG.length a8)] 28 (0, 0))) ∧ Aside0 (w'.heap[bW]? = some (.cells #[.int .i64 0, (.slice none 0 0)] 77 (0, 0))) ∧ Aside0 (Below w.heap.size w w'))
  case atStart => exact ⟨(XE), (0), dM, H', ⟨Nat.le_refl _⟩, ⟨Kd.bK (dX Mb.out) (fun _ hk => ⟨hk.1.1, ⟨hk.2, ⟨hk.1.2.1, hk.1.2.2⟩⟩⟩)⟩, ⟨dX al4.out⟩, ⟨ct bL.out⟩, ⟨ct bP.out⟩, ⟨mb HB.out⟩⟩
  case round =>
   clear H'
   try clear p2
   try clear c5
   try clear jR
   try clear Au
   try clear c6
   try clear c7
   obtain ⟨cK, mI, rfl, HA, dP, dZ, ch, bL, bP, HB⟩ := hrel
   cases gk with
   | zero => exact absurd HA.out (by simp [aA.l0])
   | succ k1 =>
    have H := HA.out
    clear HA
    simp only [aA.l0] at H
    by_cases zN : mI < t167
    ·rw [if_pos zN] at H
     have uH := decide_eq_true zN
     clear zN
     replace H := bZ H; obtain ⟨t175, A21, H⟩ := H
     replace H := np H; obtain ⟨FO, H⟩ := H
     replace H := br (cK ++ [(⟨t175, 0, true⟩ : bm)]) (fun ae' => (aA.l0 k1 a1 t167 t168 ae' Of t167 (wrap64 (mI + 1)) aD aG) = some (r1, r2)) H; obtain ⟨ae', al5, H⟩ := H
     have H' := Aside0.mk H
     clear H
     go_wp2_with (first | ((with_reducible refine gC 80 rfl ?_); refine gL 35 Tryz.func80 #[.int .i64 mI, .int .i64 t167] ?_; (with_reducible refine (kd.calls mI t167 t175 _ A21.out).mono ?_); rintro e T7 ⟨v176, rfl, cC, hb⟩; refine ⟨_, rfl, ?_⟩; replace dZ := am (Kd.cw (dX dZ.out) (Kd.bf cC) hb); replace ch := am (Kd.cw (dX ch.out) (Kd.bf cC) hb); have Mc := am (Kd.cO (Kd.jQ (M := fun k_ => (w.heap.size ≤ k_)) cC (aC (mb HB.out)) (fun k_ h_ => h_)) (aC (mb HB.out))); replace bL := kS bL hb; replace bP := kS bP hb; replace HB := bS HB hb; (try clear hb cC); obtain ⟨kp, kg, Hb⟩ := Kd.cH Mc.out; subst Hb) | ((with_reducible refine bC (b := .append) (xs := #[.tmp 32, .tmp 37]) rfl ?_); at_builtin; refine Kd.iX eB (w0 := w) w.heap.size rfl (.tmp 32) (.tmp 37) 75 113 (.agg #[(.slice none 0 0), (.int .i64 0), (.bool false)]) 40 rfl Tryz.underlying75 pr rfl (by decide) (by omega) u8 cK (⟨t175, 0, true⟩ : bm) [.slice kp t175.length kg, .int .i64 0, .bool true] (fun k_ => (w.heap.size ≤ k_) ∧ some k_ ≠ (v173 : Value).ownBlock ∧ k_ ≠ bV ∧ k_ ≠ bW) (fun k_ => ((fun k_ => (w.heap.size ≤ k_) ∧ some k_ ≠ (v173 : Value).ownBlock ∧ k_ ≠ bV ∧ k_ ≠ bW)) k_ ∧ some k_ ≠ (u8 : Value).ownBlock) rfl rfl ?aP (fun _ hk => hk) ?aF ?aO ?aB ?aS ?aL ?_; (case aP => exact (rJ _ _ (⟨t175, 0, true⟩ : bm) (Kd.aq (Kd.bD (ok' := (fun k_ => ((fun k_ => (w.heap.size ≤ k_) ∧ some k_ ≠ (v173 : Value).ownBlock ∧ k_ ≠ bV ∧ k_ ≠ bW)) k_ ∧ some k_ ≠ (u8 : Value).ownBlock)) (Kd.dL (Kd.dL (Kd.cX (Kd.cX (Mc.out) (Kd.dy ch.out) (by decide)) (Kd.dy dZ.out) (by decide)) bL.out (by decide)) bP.out (by decide)) (fun k_ hk => ⟨⟨hk.1.1.1.1.1, ⟨hk.1.1.1.2, ⟨hk.1.2, hk.2⟩⟩⟩, hk.1.1.2⟩))).2.1 (Kd.R_F (Kd.bD (ok' := (fun k_ => ((fun k_ => (w.heap.size ≤ k_) ∧ some k_ ≠ (v173 : Value).ownBlock ∧ k_ ≠ bV ∧ k_ ≠ bW)) k_ ∧ some k_ ≠ (u8 : Value).ownBlock)) (Kd.dL (Kd.dL (Kd.cX (Kd.cX (Mc.out) (Kd.dy ch.out) (by decide)) (Kd.dy dZ.out) (by decide)) bL.out (by decide)) bP.out (by decide)) (fun k_ hk => ⟨⟨hk.1.1.1.1.1, ⟨hk.1.1.1.2, ⟨hk.1.2, hk.2⟩⟩⟩, hk.1.1.2⟩))))); (case aB => exact (mb HB.out)); (case aF => exact (fun k_ hk => ⟨(Nat.le_trans (aC (mb HB.out)) hk), Kd.dz (Kd.rH (dX ch.out)) k_ hk, Kd.du (g := bV) (o := .cells #[.slice ay aD.length ap, .slice ae aG.length a8] 28 (0, 0)) (ct bL.out) k_ hk, Kd.du (g := bW) (o := .cells #[.int .i64 0, .slice none 0 0] 77 (0, 0)) (ct bP.out) k_ hk⟩)); (case aO => exact (Kd.bK (dX dZ.out) (fun _ hk => ⟨hk.1.1, ⟨hk.1.2.1, ⟨hk.1.2.2.1, hk.1.2.2.2⟩⟩⟩))); (case aS => exact (aC (mb HB.out))); (case aL => have := FO.out; omega); intro v179 w25 ho hb hg bk; rw [← al5.out] at ho; replace ch := am (Kd.dJ (ok := (fun k_ => (w.heap.size ≤ k_) ∧ some k_ ≠ (.slice kp t175.length kg : Value).ownBlock ∧ k_ ≠ bV ∧ k_ ≠ bW)) (Kd.bK (dX ch.out) (fun _ hk => ⟨⟨hk.1.1, ⟨hk.2, ⟨hk.1.2.2.1, hk.1.2.2.2⟩⟩⟩, hk.1.2.1⟩)) hg bk); replace bL := am (di (ct bL.out) hg (Kd.Aq dZ.out bL.out (by decide))); replace bP := am (di (ct bP.out) hg (Kd.Aq dZ.out bP.out (by decide))); replace HB := am (hb); have al6 := am (ho); clear dZ; clear Mc; clear ho hb hg bk))
     go_roundg k1
     case measure => have := dP.out; omega
     case rel => exact ⟨(ae'), (wrap64 (mI + 1)), dM, H', ⟨by have := dP.out; omega⟩, ⟨dX al6.out⟩, ⟨Kd.bK (dX ch.out) (fun _ hk => ⟨hk.1.1, ⟨hk.2, ⟨hk.1.2.2.1, hk.1.2.2.2⟩⟩⟩)⟩, ⟨ct bL.out⟩, ⟨ct bP.out⟩, ⟨mb HB.out⟩⟩
    rw [if_neg zN] at H
    have uH := decide_eq_false zN
    clear zN
    have H' := Aside0.mk H
    clear H
    go_wp2
    go_loopg [9, 41] k1 (fun kq v9 v41 w' => ∃ (gl : List (bm)) (lK : Int), v41 = .int .i64 lK ∧ Aside0 (aA.l1 kq a1 t167 cK gl t168 lK aD aG = some (r1, r2)) ∧ Aside0 (kq ≤ k1) ∧ Aside0 (Kd.N eB 113 w' w.heap.size (fun k_ => (w.heap.size ≤ k_) ∧ some k_ ≠ (v9 : Value).ownBlock ∧ k_ ≠ bV ∧ k_ ≠ bW) u8 cK) ∧ Aside0 (Kd.N eB 113 w' w.heap.size (fun k_ => (w.heap.size ≤ k_) ∧ some k_ ≠ (u8 : Value).ownBlock ∧ k_ ≠ bV ∧ k_ ≠ bW) v9 gl) ∧ Aside0 (w'.heap[bV]? = some (.cells #[(.slice ay aD.length ap), (.slice ae aG.length a8)] 28 (0, 0))) ∧ Aside0 (w'.heap[bW]? = some (.cells #[.int .i64 0, (.slice none 0 0)] 77 (0, 0))) ∧ Aside0 (Below w.heap.size w w'))
    case atStart => exact ⟨(Of), (0), dM, H', ⟨Nat.le_refl _⟩, ⟨dX dZ.out⟩, ⟨dX ch.out⟩, ⟨ct bL.out⟩, ⟨ct bP.out⟩, ⟨mb HB.out⟩⟩
    case round =>
     clear H'
     try clear c2
     try clear p2
     try clear c5
     try clear jR
     try clear Au
     try clear c6
     try clear p6
     try clear c7
     try clear c8
     try clear zN
     try clear uH
     try clear rE
     try clear p2
     obtain ⟨gl, lK, rfl, HA, ft, dZ, ch, bL, bP, HB⟩ := hrel
     cases gk with
     | zero => exact absurd HA.out (by simp [aA.l1])
     | succ k2 =>
      have H := HA.out
      clear HA
      simp only [aA.l1] at H
      by_cases Ah : lK < t168
      rotate_left
      ·rw [if_neg Ah] at H
       have sq := decide_eq_false Ah
       (try rw [eA] at sq)
       clear Ah
       by_cases Tg : a1 = 2
       rotate_left
       ·rw [if_neg Tg] at H
        have Md := iQ Tg
        have Me := iR Tg
        replace H := br (([cK, gl] : List (List (bm)))) (fun XF => ((aX.f k2 XF).bind fun t190 => (some (t167, t190))) = some (r1, r2)) H; obtain ⟨XF, Zb, H⟩ := H
        replace H := bZ H; obtain ⟨t190, A49, H⟩ := H
        simp only [Option.some.injEq, Prod.mk.injEq] at H
        obtain ⟨rfl, rfl⟩ := H
        obtain ⟨al7, al8, asv⟩ := Kd.da dZ.out
        subst asv
        obtain ⟨al9, al_, asw⟩ := Kd.da ch.out
        subst asw
        go_wp2_with (first | ((with_reducible refine ah (N := 72) rfl ?_); refine Kd.nK (Kd.slice 113 eB) _ 75 ?hg (N' := 72) ?hd (xs := ([cK, gl] : List (List (bm)))) (inner := [.slice al7 cK.length al8, .slice al9 gl.length al_]) (ok := (fun k_ => (w.heap.size ≤ k_) ∧ k_ ≠ bV ∧ k_ ≠ bW)) (okp := (fun k_ => (w.heap.size ≤ k_) ∧ k_ ≠ bV ∧ k_ ≠ bW)) ?hr ?hp (fun _ hk => hk) ((show ∀ k_, wr.heap.size ≤ k_ → (fun k_ => (w.heap.size ≤ k_) ∧ k_ ≠ bV ∧ k_ ≠ bW) k_ from fun k_ hk => ⟨(Nat.le_trans (aC (mb HB.out)) hk), Kd.du (g := bV) (o := .cells #[.slice ay aD.length ap, .slice ae aG.length a8] 28 (0, 0)) (ct bL.out) k_ hk, Kd.du (g := bW) (o := .cells #[.int .i64 0, .slice none 0 0] 77 (0, 0)) (ct bP.out) k_ hk⟩) _ (Nat.le_refl _)) (Below.refl _ _) (Nat.le_refl _) (by simp) ?_; (case hd => rfl); (case hg => rfl); (case hr => first | (go_simp; done) | (go_simp; rfl)); (case hp => exact (cV.one (show Kd.FK (Kd.slice 113 eB) _ _ cK [.slice al7 cK.length al8] from (Kd.fP (Kd.cZ (Kd.bK (ok' := (fun k_ => (w.heap.size ≤ k_) ∧ k_ ≠ bV ∧ k_ ≠ bW)) (dZ.out) (fun k_ hk => ⟨hk.1, ⟨hk.2.2.1, hk.2.2.2⟩⟩))).2.1 (Kd.Wd (Kd.bK (ok' := (fun k_ => (w.heap.size ≤ k_) ∧ k_ ≠ bV ∧ k_ ≠ bW)) (dZ.out) (fun k_ hk => ⟨hk.1, ⟨hk.2.2.1, hk.2.2.2⟩⟩))))) (cV.one (show Kd.FK (Kd.slice 113 eB) _ _ gl [.slice al9 gl.length al_] from (Kd.fP (Kd.cZ (Kd.bK (ok' := (fun k_ => (w.heap.size ≤ k_) ∧ k_ ≠ bV ∧ k_ ≠ bW)) (ch.out) (fun k_ hk => ⟨hk.1, ⟨hk.2.2.1, hk.2.2.2⟩⟩))).2.1 (Kd.Wd (Kd.bK (ok' := (fun k_ => (w.heap.size ≤ k_) ∧ k_ ≠ bV ∧ k_ ≠ bW)) (ch.out) (fun k_ hk => ⟨hk.1, ⟨hk.2.2.1, hk.2.2.2⟩⟩))))) (cV.none _ _)))); intro v188 w52 Sv hb jn dB; clear jn dB; (first | rw [← Zb.out] at Sv | (simp only [Int.reduceToNat] at Sv; rw [← Zb.out] at Sv)); have Mf := am (Kd.fT Sv (aC (mb HB.out))); replace bL := kS bL hb; replace bP := kS bP hb; replace HB := bS HB hb; clear dZ; clear ch; clear hb Sv; obtain ⟨Nh, Nk, acs⟩ := Kd.da Mf.out; subst acs) | ((with_reducible refine gC 127 rfl ?_); refine gL 73 Tryz.func127 #[.slice Nh XF.length Nk] ?_; (with_reducible refine (aX.calls k2 (fun k_ => ((w.heap.size ≤ k_) ∧ (k_ ≠ bV ∧ k_ ≠ bW))) _ _ XF t190 _ ?aT A49.out).mono ?_); (case aT => exact Kd.PU (Mf.out)); rintro e w55 ⟨v191, rfl, cC, hb⟩; refine ⟨_, rfl, ?_⟩; replace Mf := am (Kd.cw (dX Mf.out) (Kd.gv cC) hb); have Zc := am (Kd.fT (Kd.bK (ok' := fun k_ => (w.heap.size ≤ k_) ∧ k_ ≠ bV ∧ k_ ≠ bW) cC (fun k_ gH => ⟨Or.elim gH (fun jT => jT.1) (fun nS => (Nat.le_trans (aC (mb HB.out)) nS)), Or.elim gH (fun jT => jT.2.1) (fun nS => (Kd.du (g := bV) (o := .cells #[.slice ay aD.length ap, .slice ae aG.length a8] 28 (0, 0)) (ct bL.out) k_ nS)), Or.elim gH (fun jT => jT.2.2) (fun nS => (Kd.du (g := bW) (o := .cells #[.int .i64 0, .slice none 0 0] 77 (0, 0)) (ct bP.out) k_ nS))⟩)) (aC (mb HB.out))); replace bL := kS bL hb; replace bP := kS bP hb; replace HB := bS HB hb; (try clear hb cC); obtain ⟨al', ama, asx⟩ := Kd.da Zc.out; subst asx; have avc := pZ.out; have avd := pX.out; have EH := cG bP.out; have EI := cR bP.out; have EJ := aH bP.out 0; have EK := aH bP.out 1))
        refine bodyPost_ret (results_cell_row rfl _ _ bW 77 #[.int .i64 t167, .slice al' t190.length ama] (0, 0) _ rfl (by (with_reducible repeat (first | refine ba ?_ _ | refine az ?_ | refine b_ ?_ _)); refine dS (cs := #[.int .i64 t167, .slice none 0 0]) ?_ 1 _ rfl; (with_reducible repeat (first | refine ba ?_ _ | refine az ?_ | refine b_ ?_ _)); refine dS (cs := #[.int .i64 0, .slice none 0 0]) ?_ 0 _ rfl; exact ct bP.out) Tryz.underlying77 rfl (by kernel_rfl)) rfl ?_
        exact ⟨_, jC, by (with_reducible repeat (first | apply Kd.gJ | apply Kd.gK | apply Kd.iy)); exact Kd.bK (Kd.mW (p := ⟨bW, 1, none⟩) (Kd.mW (p := ⟨bW, 0, none⟩) (Kd.bK Zc.out (fun k_ hk => (⟨hk, hk.2.2⟩ : _ ∧ k_ ≠ bW))) (fun _ hk => hk.2) (.int .i64 t167)) (fun _ hk => hk.2) (.slice al' t190.length ama)) (fun _ hk => hk.1.1), mb HB.out⟩
       rw [if_pos Tg] at H
       have Md := il Tg
       have Me := im Tg
       clear Tg
       replace H := br (([gl, cK] : List (List (bm)))) (fun XG => ((aX.f k2 XG).bind fun t184 => (some (t167, t184))) = some (r1, r2)) H; obtain ⟨XG, Zd, H⟩ := H
       replace H := bZ H; obtain ⟨t184, A39, H⟩ := H
       simp only [Option.some.injEq, Prod.mk.injEq] at H
       obtain ⟨rfl, rfl⟩ := H
       obtain ⟨amb, amc, asy⟩ := Kd.da ch.out
       subst asy
       obtain ⟨Vg, Vh, Vi⟩ := Kd.da dZ.out
       subst Vi
       go_wp2_with (first | ((with_reducible refine ah (N := 72) rfl ?_); refine Kd.nK (Kd.slice 113 eB) _ 75 ?hg (N' := 72) ?hd (xs := ([gl, cK] : List (List (bm)))) (inner := [.slice amb gl.length amc, .slice Vg cK.length Vh]) (ok := (fun k_ => (w.heap.size ≤ k_) ∧ k_ ≠ bV ∧ k_ ≠ bW)) (okp := (fun k_ => (w.heap.size ≤ k_) ∧ k_ ≠ bV ∧ k_ ≠ bW)) ?hr ?hp (fun _ hk => hk) ((show ∀ k_, wr.heap.size ≤ k_ → (fun k_ => (w.heap.size ≤ k_) ∧ k_ ≠ bV ∧ k_ ≠ bW) k_ from fun k_ hk => ⟨(Nat.le_trans (aC (mb HB.out)) hk), Kd.du (g := bV) (o := .cells #[.slice ay aD.length ap, .slice ae aG.length a8] 28 (0, 0)) (ct bL.out) k_ hk, Kd.du (g := bW) (o := .cells #[.int .i64 0, .slice none 0 0] 77 (0, 0)) (ct bP.out) k_ hk⟩) _ (Nat.le_refl _)) (Below.refl _ _) (Nat.le_refl _) (by simp) ?_; (case hd => rfl); (case hg => rfl); (case hr => first | (go_simp; done) | (go_simp; rfl)); (case hp => exact (cV.one (show Kd.FK (Kd.slice 113 eB) _ _ gl [.slice amb gl.length amc] from (Kd.fP (Kd.cZ (Kd.bK (ok' := (fun k_ => (w.heap.size ≤ k_) ∧ k_ ≠ bV ∧ k_ ≠ bW)) (ch.out) (fun k_ hk => ⟨hk.1, ⟨hk.2.2.1, hk.2.2.2⟩⟩))).2.1 (Kd.Wd (Kd.bK (ok' := (fun k_ => (w.heap.size ≤ k_) ∧ k_ ≠ bV ∧ k_ ≠ bW)) (ch.out) (fun k_ hk => ⟨hk.1, ⟨hk.2.2.1, hk.2.2.2⟩⟩))))) (cV.one (show Kd.FK (Kd.slice 113 eB) _ _ cK [.slice Vg cK.length Vh] from (Kd.fP (Kd.cZ (Kd.bK (ok' := (fun k_ => (w.heap.size ≤ k_) ∧ k_ ≠ bV ∧ k_ ≠ bW)) (dZ.out) (fun k_ hk => ⟨hk.1, ⟨hk.2.2.1, hk.2.2.2⟩⟩))).2.1 (Kd.Wd (Kd.bK (ok' := (fun k_ => (w.heap.size ≤ k_) ∧ k_ ≠ bV ∧ k_ ≠ bW)) (dZ.out) (fun k_ hk => ⟨hk.1, ⟨hk.2.2.1, hk.2.2.2⟩⟩))))) (cV.none _ _)))); intro v182 w42 Sw hb jn dB; clear jn dB; (first | rw [← Zd.out] at Sw | (simp only [Int.reduceToNat] at Sw; rw [← Zd.out] at Sw)); have Mg := am (Kd.fT Sw (aC (mb HB.out))); replace bL := kS bL hb; replace bP := kS bP hb; replace HB := bS HB hb; clear dZ; clear ch; clear hb Sw; obtain ⟨ahD, ahE, aa6⟩ := Kd.da Mg.out; subst aa6) | ((with_reducible refine gC 127 rfl ?_); refine gL 73 Tryz.func127 #[.slice ahD XG.length ahE] ?_; (with_reducible refine (aX.calls k2 (fun k_ => ((w.heap.size ≤ k_) ∧ (k_ ≠ bV ∧ k_ ≠ bW))) _ _ XG t184 _ ?aT A39.out).mono ?_); (case aT => exact Kd.PU (Mg.out)); rintro e w45 ⟨v185, rfl, cC, hb⟩; refine ⟨_, rfl, ?_⟩; replace Mg := am (Kd.cw (dX Mg.out) (Kd.gv cC) hb); have Ze := am (Kd.fT (Kd.bK (ok' := fun k_ => (w.heap.size ≤ k_) ∧ k_ ≠ bV ∧ k_ ≠ bW) cC (fun k_ gH => ⟨Or.elim gH (fun jT => jT.1) (fun nS => (Nat.le_trans (aC (mb HB.out)) nS)), Or.elim gH (fun jT => jT.2.1) (fun nS => (Kd.du (g := bV) (o := .cells #[.slice ay aD.length ap, .slice ae aG.length a8] 28 (0, 0)) (ct bL.out) k_ nS)), Or.elim gH (fun jT => jT.2.2) (fun nS => (Kd.du (g := bW) (o := .cells #[.int .i64 0, .slice none 0 0] 77 (0, 0)) (ct bP.out) k_ nS))⟩)) (aC (mb HB.out))); replace bL := kS bL hb; replace bP := kS bP hb; replace HB := bS HB hb; (try clear hb cC); obtain ⟨amd, ame, asz⟩ := Kd.da Ze.out; subst asz; have ave := pZ.out; have avf := pX.out; have yA := cG bP.out; have yB := cR bP.out; have yC := aH bP.out 0; have yD := aH bP.out 1))
       refine bodyPost_ret (results_cell_row rfl _ _ bW 77 #[.int .i64 t167, .slice amd t184.length ame] (0, 0) _ rfl (by (with_reducible repeat (first | refine ba ?_ _ | refine az ?_ | refine b_ ?_ _)); refine dS (cs := #[.int .i64 t167, .slice none 0 0]) ?_ 1 _ rfl; (with_reducible repeat (first | refine ba ?_ _ | refine az ?_ | refine b_ ?_ _)); refine dS (cs := #[.int .i64 0, .slice none 0 0]) ?_ 0 _ rfl; exact ct bP.out) Tryz.underlying77 rfl (by kernel_rfl)) rfl ?_
       exact ⟨_, jC, by (with_reducible repeat (first | apply Kd.gJ | apply Kd.gK | apply Kd.iy)); exact Kd.bK (Kd.mW (p := ⟨bW, 1, none⟩) (Kd.mW (p := ⟨bW, 0, none⟩) (Kd.bK Ze.out (fun k_ hk => (⟨hk, hk.2.2⟩ : _ ∧ k_ ≠ bW))) (fun _ hk => hk.2) (.int .i64 t167)) (fun _ hk => hk.2) (.slice amd t184.length ame)) (fun _ hk => hk.1.1), mb HB.out⟩
      rw [if_pos Ah] at H
      have sq := decide_eq_true Ah
      clear Ah
      replace H := bZ H; obtain ⟨t193, pa, H⟩ := H
      have H' := Aside0.mk H
      clear H
      go_wp2_with (first | (go_at_fn 125; (refine (la.calls lK bV ay ap aD ae a8 aG t193 _ ?aT ?aU ?ao ?ar ?gy ?nW pa.out).mono ?_); (case aT => exact (aQ (g := bV) (cs := #[.slice ay aD.length ap, .slice ae aG.length a8]) (t := 28) (ct bL.out) 0).trans rfl); (case aU => exact cB bl HB); (case ao => exact bz.out); (case ar => exact (aQ (g := bV) (cs := #[.slice ay aD.length ap, .slice ae aG.length a8]) (t := 28) (ct bL.out) 1).trans rfl); (case gy => exact cB bx HB); (case nW => exact cE.out); rintro e w28 ⟨v194, rfl, cC, hb⟩; replace dZ := am (Kd.cw (dX dZ.out) (Kd.bf cC) hb); replace ch := am (Kd.cw (dX ch.out) (Kd.bf cC) hb); have Zf := am (Kd.cO (Kd.jQ (M := fun k_ => (w.heap.size ≤ k_)) cC (aC (mb HB.out)) (fun k_ h_ => h_)) (aC (mb HB.out))); replace bL := kS bL hb; replace bP := kS bP hb; replace HB := bS HB hb; (try clear hb cC); obtain ⟨I0, xk, ack⟩ := Kd.cH Zf.out; subst ack))
      go_loopg [49] k2 (fun kq v49 w' => ∃ (dh : List Int) (fj : Int), v49 = .int .i64 fj ∧ Aside0 (aA.uz kq a1 t167 cK gl dh t168 lK (t193.length : Int) fj aD aG = some (r1, r2)) ∧ Aside0 (kq ≤ k2) ∧ Aside0 (Kd.N eB 113 w' w.heap.size (fun k_ => (w.heap.size ≤ k_) ∧ some k_ ≠ (u9 : Value).ownBlock ∧ some k_ ≠ ((.slice I0 t193.length xk) : Value).ownBlock ∧ k_ ≠ bV ∧ k_ ≠ bW) u8 cK) ∧ Aside0 (Kd.N eB 113 w' w.heap.size (fun k_ => (w.heap.size ≤ k_) ∧ some k_ ≠ (u8 : Value).ownBlock ∧ some k_ ≠ ((.slice I0 t193.length xk) : Value).ownBlock ∧ k_ ≠ bV ∧ k_ ≠ bW) u9 gl) ∧ Aside0 (Kd.R (Kd.int .i64) 3 w' w.heap.size (fun k_ => (w.heap.size ≤ k_)) (.slice I0 t193.length xk) dh) ∧ Aside0 (w'.heap[bV]? = some (.cells #[(.slice ay aD.length ap), (.slice ae aG.length a8)] 28 (0, 0))) ∧ Aside0 (w'.heap[bW]? = some (.cells #[.int .i64 0, (.slice none 0 0)] 77 (0, 0))) ∧ Aside0 (Below w.heap.size w w'))
      case atStart => exact ⟨(t193), (0), dM, H', ⟨Nat.le_refl _⟩, ⟨Kd.bK (dX dZ.out) (fun _ hk => ⟨hk.1.1, ⟨hk.1.2.1, ⟨hk.2, ⟨hk.1.2.2.1, hk.1.2.2.2⟩⟩⟩⟩)⟩, ⟨Kd.bK (dX ch.out) (fun _ hk => ⟨hk.1.1, ⟨hk.1.2.1, ⟨hk.2, ⟨hk.1.2.2.1, hk.1.2.2.2⟩⟩⟩⟩)⟩, ⟨Kd.bD (ci Zf.out) (fun _ hk => hk.1)⟩, ⟨ct bL.out⟩, ⟨ct bP.out⟩, ⟨mb HB.out⟩⟩
      case round =>
       clear H'
       try clear c1
       try clear c2
       try clear p2
       try clear c5
       try clear jR
       try clear Au
       try clear c6
       try clear p6
       try clear c7
       try clear c8
       try clear uF
       try clear zN
       try clear uH
       try clear rE
       try clear Ah
       try clear sq
       try clear p2
       try clear p6
       obtain ⟨dh, fj, rfl, HA, nQ, dZ, ch, ij, bL, bP, HB⟩ := hrel
       have eA := (Kd.aq ij.out).1
       rw [eA] at ij
       (try simp only [eA])
       (try simp only [eA] at bL)
       (try simp only [eA] at bP)
       (try simp only [eA] at dZ)
       (try simp only [eA] at ch)
       cases gk with
       | zero => exact absurd HA.out (by simp [aA.uz])
       | succ k3 =>
        have H := HA.out
        clear HA
        simp only [aA.uz] at H
        by_cases Aj : fj < (t193.length : Int)
        rotate_left
        ·rw [if_neg Aj] at H
         have xA := decide_eq_false Aj
         (try rw [eA] at xA)
         clear Aj
         replace H := np H; obtain ⟨amf, H⟩ := H
         replace H := br (gl ++ [(⟨dh, 1, false⟩ : bm)]) (fun afa => (aA.l1 k3 a1 t167 cK afa t168 (wrap64 (lK + 1)) aD aG) = some (r1, r2)) H; obtain ⟨afa, amg, H⟩ := H
         have H' := Aside0.mk H
         clear H
         go_wp2_with (first | ((with_reducible refine bC (b := .append) (xs := #[.tmp 59, .tmp 62]) rfl ?_); at_builtin; refine Kd.iX eB (w0 := w) w.heap.size rfl (.tmp 59) (.tmp 62) 75 113 (.agg #[(.slice none 0 0), (.int .i64 0), (.bool false)]) 40 rfl Tryz.underlying75 pr rfl (by decide) (by omega) u9 gl (⟨dh, 1, false⟩ : bm) [.slice I0 dh.length xk, .int .i64 1, .bool false] (fun k_ => (w.heap.size ≤ k_) ∧ some k_ ≠ (u8 : Value).ownBlock ∧ k_ ≠ bV ∧ k_ ≠ bW) (fun k_ => ((fun k_ => (w.heap.size ≤ k_) ∧ some k_ ≠ (u8 : Value).ownBlock ∧ k_ ≠ bV ∧ k_ ≠ bW)) k_ ∧ some k_ ≠ (u9 : Value).ownBlock) rfl rfl ?aP (fun _ hk => hk) ?aF ?aO ?aB ?aS ?aL ?_; (case aP => exact (rJ _ _ (⟨dh, 1, false⟩ : bm) (Kd.aq (Kd.bD (ok' := (fun k_ => ((fun k_ => (w.heap.size ≤ k_) ∧ some k_ ≠ (u8 : Value).ownBlock ∧ k_ ≠ bV ∧ k_ ≠ bW)) k_ ∧ some k_ ≠ (u9 : Value).ownBlock)) (Kd.dL (Kd.dL (Kd.cX (Kd.cX (ij.out) (Kd.dy dZ.out) (by decide)) (Kd.dy ch.out) (by decide)) bL.out (by decide)) bP.out (by decide)) (fun k_ hk => ⟨⟨hk.1.1.1.1, ⟨hk.1.1.1.2, ⟨hk.1.2, hk.2⟩⟩⟩, hk.1.1.2⟩))).2.1 (Kd.R_F (Kd.bD (ok' := (fun k_ => ((fun k_ => (w.heap.size ≤ k_) ∧ some k_ ≠ (u8 : Value).ownBlock ∧ k_ ≠ bV ∧ k_ ≠ bW)) k_ ∧ some k_ ≠ (u9 : Value).ownBlock)) (Kd.dL (Kd.dL (Kd.cX (Kd.cX (ij.out) (Kd.dy dZ.out) (by decide)) (Kd.dy ch.out) (by decide)) bL.out (by decide)) bP.out (by decide)) (fun k_ hk => ⟨⟨hk.1.1.1.1, ⟨hk.1.1.1.2, ⟨hk.1.2, hk.2⟩⟩⟩, hk.1.1.2⟩))))); (case aB => exact (mb HB.out)); (case aF => exact (fun k_ hk => ⟨(Nat.le_trans (aC (mb HB.out)) hk), Kd.dz (Kd.rH (dX dZ.out)) k_ hk, Kd.du (g := bV) (o := .cells #[.slice ay aD.length ap, .slice ae aG.length a8] 28 (0, 0)) (ct bL.out) k_ hk, Kd.du (g := bW) (o := .cells #[.int .i64 0, .slice none 0 0] 77 (0, 0)) (ct bP.out) k_ hk⟩)); (case aO => exact (Kd.bK (dX ch.out) (fun _ hk => ⟨hk.1, ⟨hk.2.1, ⟨hk.2.2.2.1, hk.2.2.2.2⟩⟩⟩))); (case aS => exact (aC (mb HB.out))); (case aL => have := amf.out; omega); intro v199 w37 ho hb hg bk; rw [← amg.out] at ho; replace dZ := am (Kd.dJ (ok := (fun k_ => (w.heap.size ≤ k_) ∧ some k_ ≠ (.slice I0 dh.length xk : Value).ownBlock ∧ k_ ≠ bV ∧ k_ ≠ bW)) (Kd.bK (dX dZ.out) (fun _ hk => ⟨⟨hk.1, ⟨hk.2.2.1, ⟨hk.2.2.2.1, hk.2.2.2.2⟩⟩⟩, hk.2.1⟩)) hg bk); replace bL := am (di (ct bL.out) hg (Kd.Aq ch.out bL.out (by decide))); replace bP := am (di (ct bP.out) hg (Kd.Aq ch.out bP.out (by decide))); replace HB := am (hb); have amh := am (ho); clear ch; clear ij; clear ho hb hg bk))
         (try simp only [← eA])
         go_roundg k3
         case measure => have := dP.out; have := ft.out; have := nQ.out; omega
         case rel => exact ⟨(afa), (wrap64 (lK + 1)), dM, H', ⟨by have := dP.out; have := ft.out; have := nQ.out; omega⟩, ⟨by (try simp only [eA]); (with_reducible repeat (first | apply Kd.gJ | apply Kd.gK | apply Kd.iy)); exact Kd.bK dZ.out (fun _ hk => ⟨hk.1.1, ⟨hk.2, ⟨hk.1.2.2.1, hk.1.2.2.2⟩⟩⟩)⟩, ⟨by (try simp only [eA]); (with_reducible repeat (first | apply Kd.gJ | apply Kd.gK | apply Kd.iy)); exact amh.out⟩, ⟨by (try simp only [eA]); exact ct bL.out⟩, ⟨by (try simp only [eA]); exact ct bP.out⟩, ⟨mb HB.out⟩⟩
        rw [if_pos Aj] at H
        have xA := decide_eq_true Aj
        clear Aj
        replace H := fW H; obtain ⟨Sx, H⟩ := H
        replace H := fW H; obtain ⟨zg, H⟩ := H
        replace H := br (dh.set (fj : Int).toNat (wrap64 ((rd dh fj) + 10))) (fun XH => (aA.uz k3 a1 t167 cK gl XH t168 lK (t193.length : Int) (wrap64 (fj + 1)) aD aG) = some (r1, r2)) H; obtain ⟨XH, ami, H⟩ := H
        have H' := Aside0.mk H
        clear H
        have Oh : 0 ≤ (fj : Int) := bX
        have Oi : fj < (dh.length : Int) := bX
        obtain ⟨avg, asA, ye⟩ := Kd.bi (Kd.aq ij.out).2.2 fj Oh Oi
        cases asA
        replace Oh := eq_true Oh
        replace Oi := eq_true Oi
        have XI : 0 ≤ (fj : Int) := bX
        have XJ : (fj : Int) < ((dh.length : Int) : Int) := bX
        obtain ⟨Jc, aa3, UX, amj, asB, awr, amk⟩ := Kd.lZ ij.out (by omega)
        (first | cases UX | (injection UX with kF wB wC; (first | subst kF | (injection kF with kF; subst kF)); subst wC; clear wB))
        have asC := Aside0.mk amj
        have aws := Aside0.mk amk
        clear amj asB amk
        (first | simp only [add_plain] at ye | skip)
        obtain ⟨Jd, asD⟩ := Kd.gx 0 ij.out (fj : Int) XI XJ
        replace XI := eq_true XI
        replace XJ := eq_true XJ
        have Je := Kd.nI ij.out (fj : Int) (wrap64 ((rd dh fj) + 10))
        go_wp2_with (first | ((with_reducible refine fo (t := 3) (p := 57) rfl ?_); refine fM (t := 3) (p := 57) (v := ?afb) (w1 := (wr.setCell ⟨Jc, (fj : Int).toNat, none⟩ (.int .i64 (wrap64 ((rd dh fj) + 10))))) ?hg ?ho ?hn ?hr ?_; (case ho => rfl); (case hg => rfl); (case hn => rfl); (case hr => first | (go_simp; done) | (go_simp; rfl)); intro Qo hw; have hg : wr.grownBy Qo (some Jc) := (by rw [hw]; exact Je.2); have rR : Kd.R (Kd.int .i64) 3 Qo w.heap.size (fun k_ => (w.heap.size ≤ k_)) (.slice (some ⟨Jc, 0, none⟩) dh.length xk) XH := (by rw [hw, ami.out]; exact Je.1); clear Je; replace dZ := am (Kd.dJ (v := (.slice (some ⟨Jc, 0, none⟩) dh.length xk)) (v1 := (.slice (some ⟨Jc, 0, none⟩) dh.length xk)) (ok := (fun k_ => (w.heap.size ≤ k_) ∧ some k_ ≠ (u9 : Value).ownBlock ∧ k_ ≠ bV ∧ k_ ≠ bW)) (Kd.bK (dX dZ.out) (fun _ hk => ⟨⟨hk.1, ⟨hk.2.1, ⟨hk.2.2.2.1, hk.2.2.2.2⟩⟩⟩, hk.2.2.1⟩)) hg (.inl rfl)); replace ch := am (Kd.dJ (v := (.slice (some ⟨Jc, 0, none⟩) dh.length xk)) (v1 := (.slice (some ⟨Jc, 0, none⟩) dh.length xk)) (ok := (fun k_ => (w.heap.size ≤ k_) ∧ some k_ ≠ (u8 : Value).ownBlock ∧ k_ ≠ bV ∧ k_ ≠ bW)) (Kd.bK (dX ch.out) (fun _ hk => ⟨⟨hk.1, ⟨hk.2.1, ⟨hk.2.2.2.1, hk.2.2.2.2⟩⟩⟩, hk.2.2.1⟩)) hg (.inl rfl)); replace bL := am (di (ct bL.out) hg (Kd.sW ij.out bL.out (by decide))); replace bP := am (di (ct bP.out) hg (Kd.sW ij.out bP.out (by decide))); replace ij := am (rR); replace HB := am ((by rw [hw]; exact dj (HB.out) asC.out : Below w.heap.size w Qo)); clear hg hw rR))
        (try simp only [← eA])
        go_roundg k3
        case measure => have := dP.out; have := ft.out; have := nQ.out; omega
        case rel => exact ⟨(XH), (wrap64 (fj + 1)), dM, H', ⟨by have := dP.out; have := ft.out; have := nQ.out; omega⟩, ⟨by (try simp only [eA]); (with_reducible repeat (first | apply Kd.gJ | apply Kd.gK | apply Kd.iy)); exact Kd.bK dZ.out (fun _ hk => ⟨hk.1.1, ⟨hk.1.2.1, ⟨hk.2, ⟨hk.1.2.2.1, hk.1.2.2.2⟩⟩⟩⟩)⟩, ⟨by (try simp only [eA]); (with_reducible repeat (first | apply Kd.gJ | apply Kd.gK | apply Kd.iy)); exact Kd.bK ch.out (fun _ hk => ⟨hk.1.1, ⟨hk.1.2.1, ⟨hk.2, ⟨hk.1.2.2.1, hk.1.2.2.2⟩⟩⟩⟩)⟩, ⟨by (try simp only [eA]); (with_reducible repeat (first | apply Kd.ff | apply Kd.fg | apply Kd.gu)); exact ij.out⟩, ⟨by (try simp only [eA]); exact ct bL.out⟩, ⟨by (try simp only [eA]); exact ct bP.out⟩, ⟨mb HB.out⟩⟩
 rw [if_neg c5] at H
 have jR := iQ c5
 have Au := iR c5
 replace H := br (([] : List (bm))) (fun XK => (aA.sf k a1 t165 t166 XK (([] : List (bm))) t165 0 aD aG) = some (r1, r2)) H; obtain ⟨XK, Zg, H⟩ := H
 replace H := br (([] : List (bm))) (fun Oj => (aA.sf k a1 t165 t166 XK Oj t165 0 aD aG) = some (r1, r2)) H; obtain ⟨Oj, Zh, H⟩ := H
 have H' := Aside0.mk H
 clear H
 have alY : ∀ args w, (callFunc 123 args).run Tryz.prog w = .ok (.enter 123 args) w := enters_of Tryz.func123 (by kernel_rfl) rfl
 have alZ : ∀ args w, (callFunc 125 args).run Tryz.prog w = .ok (.enter 125 args) w := enters_of Tryz.func125 (by kernel_rfl) rfl
 go_enter Tryz.func64, Tryz.ntmps64
 try go_wp2_with (first | ((with_reducible refine ah (N := 2) rfl ?_); refine bE 2 #[.slice ay aD.length ap, .slice ae aG.length a8] 28 ?_; intro bV hg w59 bO hb; have bL := am (bO); have Ss := gW HB hg; have al0 := Ss; replace HB := bS HB hb; clear hb bO hg) | ((with_reducible refine ah (N := 4) rfl ?_); refine bE 4 #[.int .i64 0, .slice none 0 0] 77 ?_; intro bW hg w60 bO hb; have bP := am (bO); have Su := gW HB hg; have al3 := Su; replace HB := bS HB hb; have pX := am ((by rw [hg]; exact Nat.ne_of_lt (d_ (g := bV) (o := .cells #[.slice ay aD.length ap, .slice ae aG.length a8] 28 (0, 0)) (ct bL.out)) : bV ≠ bW)); have pZ := am ((by rw [hg]; exact Nat.ne_of_gt (d_ (g := bV) (o := .cells #[.slice ay aD.length ap, .slice ae aG.length a8] 28 (0, 0)) (ct bL.out)) : bW ≠ bV)); replace bL := kS bL hb; clear hb bO hg))
 replace bL := am (az bL.out)
 replace bP := am (az bP.out)
 replace HB := am (bd HB.out)
 refine fA (n := 8) (S := fun w' => w'.cell? ⟨bV, 0, none⟩ = some (.slice ay aD.length ap) ∧ w'.cell? ⟨bV, 1, none⟩ = some (.slice ae aG.length a8)) (ds := []) (Array.replicate 8 false) (by kernel_rfl) rfl rfl ⟨(aQ bL.out 0).trans rfl, (aQ bL.out 1).trans rfl⟩ (fun ai => ?_); refine cv aA.mc aA.jY (fun ak fz => ?_)
 generalize w60.drew = w61 at bL bP HB ai ⊢
 refine pY 4 18 ak ?_
 refine tY 0 14 ak fz ai ?_
 refine tY 2 16 ak fz ai ?_
 refine oY 1 15 ak (fun K hK => ?_)
 refine gY Tryz.func77 #[.agg #[.slice ay aD.length ap, .slice ae aG.length a8]] ?_
 with_reducible refine (dU.calls _ _ aD _ _ aG t165 _ ?aT ?aU ?ao ?ar A3.out).mono ?_
 (case aT => exact cB bl HB)
 (case aU => exact bz.out)
 (case ao => exact cB bx HB)
 (case ar => exact cE.out)
 rintro e w62 ⟨rfl, hb⟩
 refine ⟨_, rfl, ?_⟩
 replace bL := kS bL hb
 replace bP := kS bP hb
 replace HB := bS HB hb
 (try clear hb)
 (try clear sj)
 (try clear hk)
 (try clear hi)
 refine hK.out _ _ ⟨(aQ bL.out 0).trans rfl, (aQ bL.out 1).trans rfl⟩ (fun ai => ?_)
 clear hK K
 refine nY 15 ?_
 refine oY 3 17 ak (fun K hK => ?_)
 refine gY Tryz.func78 #[.agg #[.slice ay aD.length ap, .slice ae aG.length a8]] ?_
 with_reducible refine (dd.calls _ _ aD _ _ aG t166 _ ?aT ?aU ?ao ?ar A4.out).mono ?_
 (case aT => exact cB bl HB)
 (case aU => exact bz.out)
 (case ao => exact cB bx HB)
 (case ar => exact cE.out)
 rintro e w63 ⟨rfl, hb⟩
 refine ⟨_, rfl, ?_⟩
 replace bL := kS bL hb
 replace bP := kS bP hb
 replace HB := bS HB hb
 (try clear hb)
 (try clear sj)
 (try clear hk)
 (try clear hi)
 refine hK.out _ _ ⟨(aQ bL.out 0).trans rfl, (aQ bL.out 1).trans rfl⟩ (fun ai => ?_)
 clear hK K
 refine nY 17 ?_
 refine pY 5 5 ak ?_
 refine pY 6 6 ak ?_
 refine pY 7 7 ak ?_
 refine dY ak ?_
 try go_wp2_with (first | ((with_reducible refine ah (N := 26) rfl ?_); refine Kd.nK eB _ 113 ?hg (N' := 26) ?hd (xs := ([] : List (bm))) (inner := []) (ok := (fun k_ => (w.heap.size ≤ k_) ∧ k_ ≠ bV ∧ k_ ≠ bW)) (okp := (fun k_ => (w.heap.size ≤ k_) ∧ k_ ≠ bV ∧ k_ ≠ bW)) ?hr ?hp (fun _ hk => hk) ((show ∀ k_, w63.heap.size ≤ k_ → (fun k_ => (w.heap.size ≤ k_) ∧ k_ ≠ bV ∧ k_ ≠ bW) k_ from fun k_ hk => ⟨(Nat.le_trans (aC (mb HB.out)) hk), Kd.du (g := bV) (o := .cells #[.slice ay aD.length ap, .slice ae aG.length a8] 28 (0, 0)) (ct bL.out) k_ hk, Kd.du (g := bW) (o := .cells #[.int .i64 0, .slice none 0 0] 77 (0, 0)) (ct bP.out) k_ hk⟩) _ (Nat.le_refl _)) (Below.refl _ _) (Nat.le_refl _) (by simp) ?_; (case hd => rfl); (case hg => rfl); (case hr => first | (go_simp; done) | (go_simp; rfl)); (case hp => exact (cV.none _ _)); intro v202 w64 Sy hb jn dB; clear jn dB; (first | rw [← Zg.out] at Sy | (simp only [Int.reduceToNat] at Sy; rw [← Zg.out] at Sy)); have Mh := am (Kd.fT Sy (aC (mb HB.out))); replace bL := kS bL hb; replace bP := kS bP hb; replace HB := bS HB hb; clear hb Sy) | ((with_reducible refine ah (N := 27) rfl ?_); refine Kd.nK eB _ 113 ?hg (N' := 27) ?hd (xs := ([] : List (bm))) (inner := []) (ok := (fun k_ => (w.heap.size ≤ k_) ∧ some k_ ≠ (v202 : Value).ownBlock ∧ k_ ≠ bV ∧ k_ ≠ bW)) (okp := (fun k_ => (w.heap.size ≤ k_) ∧ some k_ ≠ (v202 : Value).ownBlock ∧ k_ ≠ bV ∧ k_ ≠ bW)) ?hr ?hp (fun _ hk => hk) ((show ∀ k_, w64.heap.size ≤ k_ → (fun k_ => (w.heap.size ≤ k_) ∧ some k_ ≠ (v202 : Value).ownBlock ∧ k_ ≠ bV ∧ k_ ≠ bW) k_ from fun k_ hk => ⟨(Nat.le_trans (aC (mb HB.out)) hk), Kd.dz (Kd.rH (dX Mh.out)) k_ hk, Kd.du (g := bV) (o := .cells #[.slice ay aD.length ap, .slice ae aG.length a8] 28 (0, 0)) (ct bL.out) k_ hk, Kd.du (g := bW) (o := .cells #[.int .i64 0, .slice none 0 0] 77 (0, 0)) (ct bP.out) k_ hk⟩) _ (Nat.le_refl _)) (Below.refl _ _) (Nat.le_refl _) (by simp) ?_; (case hd => rfl); (case hg => rfl); (case hr => first | (go_simp; done) | (go_simp; rfl)); (case hp => exact (cV.none _ _)); intro v205 w66 Ol hb jn dB; clear jn dB; (first | rw [← Zh.out] at Ol | (simp only [Int.reduceToNat] at Ol; rw [← Zh.out] at Ol)); replace Mh := am (Kd.cw (dX Mh.out) (Kd.gv Ol) hb); have aml := am (Kd.fT Ol (aC (mb HB.out))); replace bL := kS bL hb; replace bP := kS bP hb; replace HB := bS HB hb; clear hb Ol))
 go_loopg [8, 29] k (fun kq v8 v29 w' => ∃ (cK : List (bm)) (mI : Int), v29 = .int .i64 mI ∧ Aside0 (aA.sf kq a1 t165 t166 cK Oj t165 mI aD aG = some (r1, r2)) ∧ Aside0 (kq ≤ k) ∧ Aside0 (Kd.N eB 113 w' w.heap.size (fun k_ => (w.heap.size ≤ k_) ∧ some k_ ≠ (v205 : Value).ownBlock ∧ k_ ≠ bV ∧ k_ ≠ bW) v8 cK) ∧ Aside0 (Kd.N eB 113 w' w.heap.size (fun k_ => (w.heap.size ≤ k_) ∧ some k_ ≠ (v8 : Value).ownBlock ∧ k_ ≠ bV ∧ k_ ≠ bW) v205 Oj) ∧ Aside0 (w'.heap[bV]? = some (.cells #[(.slice ay aD.length ap), (.slice ae aG.length a8)] 28 (0, 0))) ∧ Aside0 (w'.heap[bW]? = some (.cells #[.int .i64 0, (.slice none 0 0)] 77 (0, 0))) ∧ Aside0 (Below w.heap.size w w'))
 case atStart => exact ⟨(XK), (0), dM, H', ⟨Nat.le_refl _⟩, ⟨Kd.bK (dX Mh.out) (fun _ hk => ⟨hk.1.1, ⟨hk.2, ⟨hk.1.2.1, hk.1.2.2⟩⟩⟩)⟩, ⟨dX aml.out⟩, ⟨ct bL.out⟩, ⟨ct bP.out⟩, ⟨mb HB.out⟩⟩
 case round =>
  clear H'
  try clear c1
  try clear p1
  try clear q1
  try clear Te
  try clear c2
  try clear p2
  try clear c3
  try clear p3
  try clear q3
  try clear hx3
  try clear hf3
  try clear c4
  try clear c5
  try clear jR
  try clear Au
  try clear c6
  try clear p6
  try clear c7
  try clear c8
  try clear uF
  try clear p19
  try clear Yh
  try clear amm
  try clear zN
  try clear uH
  try clear rE
  try clear Ah
  try clear sq
  try clear Aj
  try clear xA
  try clear Ov
  try clear Sx
  try clear E6
  try clear zg
  try clear XI
  try clear XJ
  try clear amn
  try clear amo
  try clear c36
  try clear Tg
  try clear Md
  try clear Me
  try clear c47
  try clear c57
  try clear c64
  try clear p64
  try clear yA
  try clear yB
  try clear EH
  try clear EI
  try clear yC
  try clear yD
  try clear EJ
  try clear EK
  try clear ye
  try clear Jd
  try clear Oh
  try clear p2
  try clear XI
  try clear p6
  try clear Oi
  try clear XJ
  obtain ⟨cK, mI, rfl, HA, dP, dZ, ch, bL, bP, HB⟩ := hrel
  cases gk with
  | zero => exact absurd HA.out (by simp [aA.sf])
  | succ k1 =>
   have H := HA.out
   clear HA
   simp only [aA.sf] at H
   by_cases Zi : mI < t165
   ·rw [if_pos Zi] at H
    have FU := decide_eq_true Zi
    clear Zi
    replace H := bZ H; obtain ⟨t207, A69, H⟩ := H
    replace H := np H; obtain ⟨amp, H⟩ := H
    replace H := br (cK ++ [(⟨t207, 0, true⟩ : bm)]) (fun afc => (aA.sf k1 a1 t165 t166 afc Oj t165 (wrap64 (mI + 1)) aD aG) = some (r1, r2)) H; obtain ⟨afc, amq, H⟩ := H
    have H' := Aside0.mk H
    clear H
    go_wp2_with (first | ((with_reducible refine gC 80 rfl ?_); refine gL 35 Tryz.func80 #[.int .i64 mI, .int .i64 t165] ?_; (with_reducible refine (kd.calls mI t165 t207 _ A69.out).mono ?_); rintro e w71 ⟨v208, rfl, cC, hb⟩; refine ⟨_, rfl, ?_⟩; replace dZ := am (Kd.cw (dX dZ.out) (Kd.bf cC) hb); replace ch := am (Kd.cw (dX ch.out) (Kd.bf cC) hb); have Mi := am (Kd.cO (Kd.jQ (M := fun k_ => (w.heap.size ≤ k_)) cC (aC (mb HB.out)) (fun k_ h_ => h_)) (aC (mb HB.out))); replace bL := kS bL hb; replace bP := kS bP hb; replace HB := bS HB hb; (try clear hb cC); obtain ⟨amr, ams, asE⟩ := Kd.cH Mi.out; subst asE) | ((with_reducible refine bC (b := .append) (xs := #[.tmp 32, .tmp 37]) rfl ?_); at_builtin; refine Kd.iX eB (w0 := w) w.heap.size rfl (.tmp 32) (.tmp 37) 75 113 (.agg #[(.slice none 0 0), (.int .i64 0), (.bool false)]) 40 rfl Tryz.underlying75 pr rfl (by decide) (by omega) u8 cK (⟨t207, 0, true⟩ : bm) [.slice amr t207.length ams, .int .i64 0, .bool true] (fun k_ => (w.heap.size ≤ k_) ∧ some k_ ≠ (v205 : Value).ownBlock ∧ k_ ≠ bV ∧ k_ ≠ bW) (fun k_ => ((fun k_ => (w.heap.size ≤ k_) ∧ some k_ ≠ (v205 : Value).ownBlock ∧ k_ ≠ bV ∧ k_ ≠ bW)) k_ ∧ some k_ ≠ (u8 : Value).ownBlock) rfl rfl ?aP (fun _ hk => hk) ?aF ?aO ?aB ?aS ?aL ?_; (case aP => exact (rJ _ _ (⟨t207, 0, true⟩ : bm) (Kd.aq (Kd.bD (ok' := (fun k_ => ((fun k_ => (w.heap.size ≤ k_) ∧ some k_ ≠ (v205 : Value).ownBlock ∧ k_ ≠ bV ∧ k_ ≠ bW)) k_ ∧ some k_ ≠ (u8 : Value).ownBlock)) (Kd.dL (Kd.dL (Kd.cX (Kd.cX (Mi.out) (Kd.dy ch.out) (by decide)) (Kd.dy dZ.out) (by decide)) bL.out (by decide)) bP.out (by decide)) (fun k_ hk => ⟨⟨hk.1.1.1.1.1, ⟨hk.1.1.1.2, ⟨hk.1.2, hk.2⟩⟩⟩, hk.1.1.2⟩))).2.1 (Kd.R_F (Kd.bD (ok' := (fun k_ => ((fun k_ => (w.heap.size ≤ k_) ∧ some k_ ≠ (v205 : Value).ownBlock ∧ k_ ≠ bV ∧ k_ ≠ bW)) k_ ∧ some k_ ≠ (u8 : Value).ownBlock)) (Kd.dL (Kd.dL (Kd.cX (Kd.cX (Mi.out) (Kd.dy ch.out) (by decide)) (Kd.dy dZ.out) (by decide)) bL.out (by decide)) bP.out (by decide)) (fun k_ hk => ⟨⟨hk.1.1.1.1.1, ⟨hk.1.1.1.2, ⟨hk.1.2, hk.2⟩⟩⟩, hk.1.1.2⟩))))); (case aB => exact (mb HB.out)); (case aF => exact (fun k_ hk => ⟨(Nat.le_trans (aC (mb HB.out)) hk), Kd.dz (Kd.rH (dX ch.out)) k_ hk, Kd.du (g := bV) (o := .cells #[.slice ay aD.length ap, .slice ae aG.length a8] 28 (0, 0)) (ct bL.out) k_ hk, Kd.du (g := bW) (o := .cells #[.int .i64 0, .slice none 0 0] 77 (0, 0)) (ct bP.out) k_ hk⟩)); (case aO => exact (Kd.bK (dX dZ.out) (fun _ hk => ⟨hk.1.1, ⟨hk.1.2.1, ⟨hk.1.2.2.1, hk.1.2.2.2⟩⟩⟩))); (case aS => exact (aC (mb HB.out))); (case aL => have := amp.out; omega); intro v211 w73 ho hb hg bk; rw [← amq.out] at ho; replace ch := am (Kd.dJ (ok := (fun k_ => (w.heap.size ≤ k_) ∧ some k_ ≠ (.slice amr t207.length ams : Value).ownBlock ∧ k_ ≠ bV ∧ k_ ≠ bW)) (Kd.bK (dX ch.out) (fun _ hk => ⟨⟨hk.1.1, ⟨hk.2, ⟨hk.1.2.2.1, hk.1.2.2.2⟩⟩⟩, hk.1.2.1⟩)) hg bk); replace bL := am (di (ct bL.out) hg (Kd.Aq dZ.out bL.out (by decide))); replace bP := am (di (ct bP.out) hg (Kd.Aq dZ.out bP.out (by decide))); replace HB := am (hb); have amt := am (ho); clear dZ; clear Mi; clear ho hb hg bk))
    go_roundg k1
    case measure => have := dP.out; omega
    case rel => exact ⟨(afc), (wrap64 (mI + 1)), dM, H', ⟨by have := dP.out; omega⟩, ⟨dX amt.out⟩, ⟨Kd.bK (dX ch.out) (fun _ hk => ⟨hk.1.1, ⟨hk.2, ⟨hk.1.2.2.1, hk.1.2.2.2⟩⟩⟩)⟩, ⟨ct bL.out⟩, ⟨ct bP.out⟩, ⟨mb HB.out⟩⟩
   rw [if_neg Zi] at H
   have FU := decide_eq_false Zi
   (try rw [eA] at FU)
   clear Zi
   have H' := Aside0.mk H
   clear H
   go_wp2
   go_loopg [9, 41] k1 (fun kq v9 v41 w' => ∃ (gl : List (bm)) (lK : Int), v41 = .int .i64 lK ∧ Aside0 (aA.ux kq a1 t165 cK gl t166 lK aD aG = some (r1, r2)) ∧ Aside0 (kq ≤ k1) ∧ Aside0 (Kd.N eB 113 w' w.heap.size (fun k_ => (w.heap.size ≤ k_) ∧ some k_ ≠ (v9 : Value).ownBlock ∧ k_ ≠ bV ∧ k_ ≠ bW) u8 cK) ∧ Aside0 (Kd.N eB 113 w' w.heap.size (fun k_ => (w.heap.size ≤ k_) ∧ some k_ ≠ (u8 : Value).ownBlock ∧ k_ ≠ bV ∧ k_ ≠ bW) v9 gl) ∧ Aside0 (w'.heap[bV]? = some (.cells #[(.slice ay aD.length ap), (.slice ae aG.length a8)] 28 (0, 0))) ∧ Aside0 (w'.heap[bW]? = some (.cells #[.int .i64 0, (.slice none 0 0)] 77 (0, 0))) ∧ Aside0 (Below w.heap.size w w'))
   case atStart => exact ⟨(Oj), (0), dM, H', ⟨Nat.le_refl _⟩, ⟨dX dZ.out⟩, ⟨dX ch.out⟩, ⟨ct bL.out⟩, ⟨ct bP.out⟩, ⟨mb HB.out⟩⟩
   case round =>
    clear H'
    try clear c1
    try clear p1
    try clear q1
    try clear Te
    try clear c2
    try clear p2
    try clear c3
    try clear p3
    try clear q3
    try clear hx3
    try clear hf3
    try clear c4
    try clear c5
    try clear jR
    try clear Au
    try clear c6
    try clear p6
    try clear c7
    try clear c8
    try clear uF
    try clear p19
    try clear Yh
    try clear amm
    try clear zN
    try clear uH
    try clear rE
    try clear Ah
    try clear sq
    try clear Aj
    try clear xA
    try clear Ov
    try clear Sx
    try clear E6
    try clear zg
    try clear XI
    try clear XJ
    try clear amn
    try clear amo
    try clear c36
    try clear Tg
    try clear Md
    try clear Me
    try clear c47
    try clear c57
    try clear c64
    try clear p64
    try clear Zi
    try clear FU
    try clear c70
    try clear yA
    try clear yB
    try clear EH
    try clear EI
    try clear yC
    try clear yD
    try clear EJ
    try clear EK
    try clear ye
    try clear Jd
    try clear p1
    try clear p19
    try clear Oh
    try clear p2
    try clear p3
    try clear XI
    try clear p6
    try clear p64
    try clear q1
    try clear Yh
    try clear Oi
    try clear q3
    try clear XJ
    obtain ⟨gl, lK, rfl, HA, ft, dZ, ch, bL, bP, HB⟩ := hrel
    cases gk with
    | zero => exact absurd HA.out (by simp [aA.ux])
    | succ k2 =>
     have H := HA.out
     clear HA
     simp only [aA.ux] at H
     by_cases c74 : lK < t166
     rotate_left
     ·rw [if_neg c74] at H
      have Sz := decide_eq_false c74
      (try rw [eA] at Sz)
      clear c74
      by_cases c86 : a1 = 2
      ·rw [if_pos c86] at H
       have amu := il c86
       have amv := im c86
       clear c86
       replace H := br (([gl, cK] : List (List (bm)))) (fun XL => ((aX.f k2 XL).bind fun t216 => (some (t165, t216))) = some (r1, r2)) H; obtain ⟨XL, Zj, H⟩ := H
       replace H := bZ H; obtain ⟨t216, A87, H⟩ := H
       simp only [Option.some.injEq, Prod.mk.injEq] at H
       obtain ⟨rfl, rfl⟩ := H
       obtain ⟨amw, amx, asF⟩ := Kd.da ch.out
       subst asF
       obtain ⟨amy, amz, asG⟩ := Kd.da dZ.out
       subst asG
       go_wp2_with (first | ((with_reducible refine ah (N := 72) rfl ?_); refine Kd.nK (Kd.slice 113 eB) _ 75 ?hg (N' := 72) ?hd (xs := ([gl, cK] : List (List (bm)))) (inner := [.slice amw gl.length amx, .slice amy cK.length amz]) (ok := (fun k_ => (w.heap.size ≤ k_) ∧ k_ ≠ bV ∧ k_ ≠ bW)) (okp := (fun k_ => (w.heap.size ≤ k_) ∧ k_ ≠ bV ∧ k_ ≠ bW)) ?hr ?hp (fun _ hk => hk) ((show ∀ k_, wr.heap.size ≤ k_ → (fun k_ => (w.heap.size ≤ k_) ∧ k_ ≠ bV ∧ k_ ≠ bW) k_ from fun k_ hk => ⟨(Nat.le_trans (aC (mb HB.out)) hk), Kd.du (g := bV) (o := .cells #[.slice ay aD.length ap, .slice ae aG.length a8] 28 (0, 0)) (ct bL.out) k_ hk, Kd.du (g := bW) (o := .cells #[.int .i64 0, .slice none 0 0] 77 (0, 0)) (ct bP.out) k_ hk⟩) _ (Nat.le_refl _)) (Below.refl _ _) (Nat.le_refl _) (by simp) ?_; (case hd => rfl); (case hg => rfl); (case hr => first | (go_simp; done) | (go_simp; rfl)); (case hp => exact (cV.one (show Kd.FK (Kd.slice 113 eB) _ _ gl [.slice amw gl.length amx] from (Kd.fP (Kd.cZ (Kd.bK (ok' := (fun k_ => (w.heap.size ≤ k_) ∧ k_ ≠ bV ∧ k_ ≠ bW)) (ch.out) (fun k_ hk => ⟨hk.1, ⟨hk.2.2.1, hk.2.2.2⟩⟩))).2.1 (Kd.Wd (Kd.bK (ok' := (fun k_ => (w.heap.size ≤ k_) ∧ k_ ≠ bV ∧ k_ ≠ bW)) (ch.out) (fun k_ hk => ⟨hk.1, ⟨hk.2.2.1, hk.2.2.2⟩⟩))))) (cV.one (show Kd.FK (Kd.slice 113 eB) _ _ cK [.slice amy cK.length amz] from (Kd.fP (Kd.cZ (Kd.bK (ok' := (fun k_ => (w.heap.size ≤ k_) ∧ k_ ≠ bV ∧ k_ ≠ bW)) (dZ.out) (fun k_ hk => ⟨hk.1, ⟨hk.2.2.1, hk.2.2.2⟩⟩))).2.1 (Kd.Wd (Kd.bK (ok' := (fun k_ => (w.heap.size ≤ k_) ∧ k_ ≠ bV ∧ k_ ≠ bW)) (dZ.out) (fun k_ hk => ⟨hk.1, ⟨hk.2.2.1, hk.2.2.2⟩⟩))))) (cV.none _ _)))); intro v214 w90 TA hb jn dB; clear jn dB; (first | rw [← Zj.out] at TA | (simp only [Int.reduceToNat] at TA; rw [← Zj.out] at TA)); have Mj := am (Kd.fT TA (aC (mb HB.out))); replace bL := kS bL hb; replace bP := kS bP hb; replace HB := bS HB hb; clear dZ; clear ch; clear hb TA; obtain ⟨asH, asI, asJ⟩ := Kd.da Mj.out; subst asJ) | ((with_reducible refine gC 127 rfl ?_); refine gL 73 Tryz.func127 #[.slice asH XL.length asI] ?_; (with_reducible refine (aX.calls k2 (fun k_ => ((w.heap.size ≤ k_) ∧ (k_ ≠ bV ∧ k_ ≠ bW))) _ _ XL t216 _ ?aT A87.out).mono ?_); (case aT => exact Kd.PU (Mj.out)); rintro e w93 ⟨v217, rfl, cC, hb⟩; refine ⟨_, rfl, ?_⟩; replace Mj := am (Kd.cw (dX Mj.out) (Kd.gv cC) hb); have Zk := am (Kd.fT (Kd.bK (ok' := fun k_ => (w.heap.size ≤ k_) ∧ k_ ≠ bV ∧ k_ ≠ bW) cC (fun k_ gH => ⟨Or.elim gH (fun jT => jT.1) (fun nS => (Nat.le_trans (aC (mb HB.out)) nS)), Or.elim gH (fun jT => jT.2.1) (fun nS => (Kd.du (g := bV) (o := .cells #[.slice ay aD.length ap, .slice ae aG.length a8] 28 (0, 0)) (ct bL.out) k_ nS)), Or.elim gH (fun jT => jT.2.2) (fun nS => (Kd.du (g := bW) (o := .cells #[.int .i64 0, .slice none 0 0] 77 (0, 0)) (ct bP.out) k_ nS))⟩)) (aC (mb HB.out))); replace bL := kS bL hb; replace bP := kS bP hb; replace HB := bS HB hb; (try clear hb cC); obtain ⟨amA, amB, asK⟩ := Kd.da Zk.out; subst asK; have avh := pZ.out; have avi := pX.out; have apj := cG bP.out; have apk := cR bP.out; have apl := aH bP.out 0; have apm := aH bP.out 1))
       refine bodyPost_ret (results_cell_row rfl _ _ bW 77 #[.int .i64 t165, .slice amA t216.length amB] (0, 0) _ rfl (by (with_reducible repeat (first | refine ba ?_ _ | refine az ?_ | refine b_ ?_ _)); refine dS (cs := #[.int .i64 t165, .slice none 0 0]) ?_ 1 _ rfl; (with_reducible repeat (first | refine ba ?_ _ | refine az ?_ | refine b_ ?_ _)); refine dS (cs := #[.int .i64 0, .slice none 0 0]) ?_ 0 _ rfl; exact ct bP.out) Tryz.underlying77 rfl (by kernel_rfl)) rfl ?_
       exact ⟨_, jC, by (with_reducible repeat (first | apply Kd.gJ | apply Kd.gK | apply Kd.iy)); exact Kd.bK (Kd.mW (p := ⟨bW, 1, none⟩) (Kd.mW (p := ⟨bW, 0, none⟩) (Kd.bK Zk.out (fun k_ hk => (⟨hk, hk.2.2⟩ : _ ∧ k_ ≠ bW))) (fun _ hk => hk.2) (.int .i64 t165)) (fun _ hk => hk.2) (.slice amA t216.length amB)) (fun _ hk => hk.1.1), mb HB.out⟩
      rw [if_neg c86] at H
      have amu := iQ c86
      have amv := iR c86
      replace H := br (([cK, gl] : List (List (bm)))) (fun XM => ((aX.f k2 XM).bind fun t222 => (some (t165, t222))) = some (r1, r2)) H; obtain ⟨XM, Zl, H⟩ := H
      replace H := bZ H; obtain ⟨t222, A97, H⟩ := H
      simp only [Option.some.injEq, Prod.mk.injEq] at H
      obtain ⟨rfl, rfl⟩ := H
      obtain ⟨amC, amD, asL⟩ := Kd.da dZ.out
      subst asL
      obtain ⟨amE, amF, asM⟩ := Kd.da ch.out
      subst asM
      go_wp2_with (first | ((with_reducible refine ah (N := 72) rfl ?_); refine Kd.nK (Kd.slice 113 eB) _ 75 ?hg (N' := 72) ?hd (xs := ([cK, gl] : List (List (bm)))) (inner := [.slice amC cK.length amD, .slice amE gl.length amF]) (ok := (fun k_ => (w.heap.size ≤ k_) ∧ k_ ≠ bV ∧ k_ ≠ bW)) (okp := (fun k_ => (w.heap.size ≤ k_) ∧ k_ ≠ bV ∧ k_ ≠ bW)) ?hr ?hp (fun _ hk => hk) ((show ∀ k_, wr.heap.size ≤ k_ → (fun k_ => (w.heap.size ≤ k_) ∧ k_ ≠ bV ∧ k_ ≠ bW) k_ from fun k_ hk => ⟨(Nat.le_trans (aC (mb HB.out)) hk), Kd.du (g := bV) (o := .cells #[.slice ay aD.length ap, .slice ae aG.length a8] 28 (0, 0)) (ct bL.out) k_ hk, Kd.du (g := bW) (o := .cells #[.int .i64 0, .slice none 0 0] 77 (0, 0)) (ct bP.out) k_ hk⟩) _ (Nat.le_refl _)) (Below.refl _ _) (Nat.le_refl _) (by simp) ?_; (case hd => rfl); (case hg => rfl); (case hr => first | (go_simp; done) | (go_simp; rfl)); (case hp => exact (cV.one (show Kd.FK (Kd.slice 113 eB) _ _ cK [.slice amC cK.length amD] from (Kd.fP (Kd.cZ (Kd.bK (ok' := (fun k_ => (w.heap.size ≤ k_) ∧ k_ ≠ bV ∧ k_ ≠ bW)) (dZ.out) (fun k_ hk => ⟨hk.1, ⟨hk.2.2.1, hk.2.2.2⟩⟩))).2.1 (Kd.Wd (Kd.bK (ok' := (fun k_ => (w.heap.size ≤ k_) ∧ k_ ≠ bV ∧ k_ ≠ bW)) (dZ.out) (fun k_ hk => ⟨hk.1, ⟨hk.2.2.1, hk.2.2.2⟩⟩))))) (cV.one (show Kd.FK (Kd.slice 113 eB) _ _ gl [.slice amE gl.length amF] from (Kd.fP (Kd.cZ (Kd.bK (ok' := (fun k_ => (w.heap.size ≤ k_) ∧ k_ ≠ bV ∧ k_ ≠ bW)) (ch.out) (fun k_ hk => ⟨hk.1, ⟨hk.2.2.1, hk.2.2.2⟩⟩))).2.1 (Kd.Wd (Kd.bK (ok' := (fun k_ => (w.heap.size ≤ k_) ∧ k_ ≠ bV ∧ k_ ≠ bW)) (ch.out) (fun k_ hk => ⟨hk.1, ⟨hk.2.2.1, hk.2.2.2⟩⟩))))) (cV.none _ _)))); intro v220 awt Gn hb jn dB; clear jn dB; (first | rw [← Zl.out] at Gn | (simp only [Int.reduceToNat] at Gn; rw [← Zl.out] at Gn)); have Mk := am (Kd.fT Gn (aC (mb HB.out))); replace bL := kS bL hb; replace bP := kS bP hb; replace HB := bS HB hb; clear dZ; clear ch; clear hb Gn; obtain ⟨amG, amH, amI⟩ := Kd.da Mk.out; subst amI) | ((with_reducible refine gC 127 rfl ?_); refine gL 73 Tryz.func127 #[.slice amG XM.length amH] ?_; (with_reducible refine (aX.calls k2 (fun k_ => ((w.heap.size ≤ k_) ∧ (k_ ≠ bV ∧ k_ ≠ bW))) _ _ XM t222 _ ?aT A97.out).mono ?_); (case aT => exact Kd.PU (Mk.out)); rintro e awu ⟨v223, rfl, cC, hb⟩; refine ⟨_, rfl, ?_⟩; replace Mk := am (Kd.cw (dX Mk.out) (Kd.gv cC) hb); have Zm := am (Kd.fT (Kd.bK (ok' := fun k_ => (w.heap.size ≤ k_) ∧ k_ ≠ bV ∧ k_ ≠ bW) cC (fun k_ gH => ⟨Or.elim gH (fun jT => jT.1) (fun nS => (Nat.le_trans (aC (mb HB.out)) nS)), Or.elim gH (fun jT => jT.2.1) (fun nS => (Kd.du (g := bV) (o := .cells #[.slice ay aD.length ap, .slice ae aG.length a8] 28 (0, 0)) (ct bL.out) k_ nS)), Or.elim gH (fun jT => jT.2.2) (fun nS => (Kd.du (g := bW) (o := .cells #[.int .i64 0, .slice none 0 0] 77 (0, 0)) (ct bP.out) k_ nS))⟩)) (aC (mb HB.out))); replace bL := kS bL hb; replace bP := kS bP hb; replace HB := bS HB hb; (try clear hb cC); obtain ⟨Zn, Zo, amJ⟩ := Kd.da Zm.out; subst amJ; have asN := pZ.out; have asO := pX.out; have amK := cG bP.out; have amL := cR bP.out; have amM := aH bP.out 0; have amN := aH bP.out 1))
      refine bodyPost_ret (results_cell_row rfl _ _ bW 77 #[.int .i64 t165, .slice Zn t222.length Zo] (0, 0) _ rfl (by (with_reducible repeat (first | refine ba ?_ _ | refine az ?_ | refine b_ ?_ _)); refine dS (cs := #[.int .i64 t165, .slice none 0 0]) ?_ 1 _ rfl; (with_reducible repeat (first | refine ba ?_ _ | refine az ?_ | refine b_ ?_ _)); refine dS (cs := #[.int .i64 0, .slice none 0 0]) ?_ 0 _ rfl; exact ct bP.out) Tryz.underlying77 rfl (by kernel_rfl)) rfl ?_
      exact ⟨_, jC, by (with_reducible repeat (first | apply Kd.gJ | apply Kd.gK | apply Kd.iy)); exact Kd.bK (Kd.mW (p := ⟨bW, 1, none⟩) (Kd.mW (p := ⟨bW, 0, none⟩) (Kd.bK Zm.out (fun k_ hk => (⟨hk, hk.2.2⟩ : _ ∧ k_ ≠ bW))) (fun _ hk => hk.2) (.int .i64 t165)) (fun _ hk => hk.2) (.slice Zn t222.length Zo)) (fun _ hk => hk.1.1), mb HB.out⟩
     rw [if_pos c74] at H
     have Sz := decide_eq_true c74
     clear c74
     replace H := bZ H; obtain ⟨t225, A75, H⟩ := H
     have H' := Aside0.mk H
     clear H
     go_wp2_with (first | (go_at_fn 123; (refine (jO.calls k2 lK bV ay ap aD ae a8 aG t225 _ ?aT ?aU ?ao ?ar ?gy ?nW A75.out).mono ?_); (case aT => exact (aQ (g := bV) (cs := #[.slice ay aD.length ap, .slice ae aG.length a8]) (t := 28) (ct bL.out) 0).trans rfl); (case aU => exact cB bl HB); (case ao => exact bz.out); (case ar => exact (aQ (g := bV) (cs := #[.slice ay aD.length ap, .slice ae aG.length a8]) (t := 28) (ct bL.out) 1).trans rfl); (case gy => exact cB bx HB); (case nW => exact cE.out); rintro e w76 ⟨v226, rfl, cC, hb⟩; replace dZ := am (Kd.cw (dX dZ.out) (Kd.bf cC) hb); replace ch := am (Kd.cw (dX ch.out) (Kd.bf cC) hb); have Zp := am (Kd.cO (Kd.jQ (M := fun k_ => (w.heap.size ≤ k_)) cC (aC (mb HB.out)) (fun k_ h_ => h_)) (aC (mb HB.out))); replace bL := kS bL hb; replace bP := kS bP hb; replace HB := bS HB hb; (try clear hb cC); obtain ⟨TB, BP, asP⟩ := Kd.cH Zp.out; subst asP))
     go_loopg [49] k2 (fun kq v49 w' => ∃ (dh : List Int) (fj : Int), v49 = .int .i64 fj ∧ Aside0 (aA.uy kq a1 t165 cK gl dh t166 lK (t225.length : Int) fj aD aG = some (r1, r2)) ∧ Aside0 (kq ≤ k2) ∧ Aside0 (Kd.N eB 113 w' w.heap.size (fun k_ => (w.heap.size ≤ k_) ∧ some k_ ≠ (u9 : Value).ownBlock ∧ some k_ ≠ ((.slice TB t225.length BP) : Value).ownBlock ∧ k_ ≠ bV ∧ k_ ≠ bW) u8 cK) ∧ Aside0 (Kd.N eB 113 w' w.heap.size (fun k_ => (w.heap.size ≤ k_) ∧ some k_ ≠ (u8 : Value).ownBlock ∧ some k_ ≠ ((.slice TB t225.length BP) : Value).ownBlock ∧ k_ ≠ bV ∧ k_ ≠ bW) u9 gl) ∧ Aside0 (Kd.R (Kd.int .i64) 3 w' w.heap.size (fun k_ => (w.heap.size ≤ k_)) (.slice TB t225.length BP) dh) ∧ Aside0 (w'.heap[bV]? = some (.cells #[(.slice ay aD.length ap), (.slice ae aG.length a8)] 28 (0, 0))) ∧ Aside0 (w'.heap[bW]? = some (.cells #[.int .i64 0, (.slice none 0 0)] 77 (0, 0))) ∧ Aside0 (Below w.heap.size w w'))
     case atStart => exact ⟨(t225), (0), dM, H', ⟨Nat.le_refl _⟩, ⟨Kd.bK (dX dZ.out) (fun _ hk => ⟨hk.1.1, ⟨hk.1.2.1, ⟨hk.2, ⟨hk.1.2.2.1, hk.1.2.2.2⟩⟩⟩⟩)⟩, ⟨Kd.bK (dX ch.out) (fun _ hk => ⟨hk.1.1, ⟨hk.1.2.1, ⟨hk.2, ⟨hk.1.2.2.1, hk.1.2.2.2⟩⟩⟩⟩)⟩, ⟨Kd.bD (ci Zp.out) (fun _ hk => hk.1)⟩, ⟨ct bL.out⟩, ⟨ct bP.out⟩, ⟨mb HB.out⟩⟩
     case round =>
      clear H'
      try clear c1
      try clear p1
      try clear q1
      try clear Te
      try clear c2
      try clear p2
      try clear c3
      try clear p3
      try clear q3
      try clear hx3
      try clear hf3
      try clear c4
      try clear c5
      try clear jR
      try clear Au
      try clear c6
      try clear p6
      try clear c7
      try clear c8
      try clear uF
      try clear p19
      try clear Yh
      try clear amm
      try clear zN
      try clear uH
      try clear rE
      try clear Ah
      try clear sq
      try clear Aj
      try clear xA
      try clear Ov
      try clear Sx
      try clear E6
      try clear zg
      try clear XI
      try clear XJ
      try clear amn
      try clear amo
      try clear c36
      try clear Tg
      try clear Md
      try clear Me
      try clear c47
      try clear c57
      try clear c64
      try clear p64
      try clear Zi
      try clear FU
      try clear c70
      try clear c74
      try clear Sz
      try clear c77
      try clear yA
      try clear yB
      try clear EH
      try clear EI
      try clear yC
      try clear yD
      try clear EJ
      try clear EK
      try clear ye
      try clear Jd
      try clear p1
      try clear p19
      try clear Oh
      try clear p2
      try clear p3
      try clear XI
      try clear p6
      try clear p64
      try clear q1
      try clear Yh
      try clear Oi
      try clear q3
      try clear XJ
      obtain ⟨dh, fj, rfl, HA, nQ, dZ, ch, ij, bL, bP, HB⟩ := hrel
      have eA := (Kd.aq ij.out).1
      rw [eA] at ij
      (try simp only [eA])
      (try simp only [eA] at bL)
      (try simp only [eA] at bP)
      (try simp only [eA] at dZ)
      (try simp only [eA] at ch)
      cases gk with
      | zero => exact absurd HA.out (by simp [aA.uy])
      | succ k3 =>
       have H := HA.out
       clear HA
       simp only [aA.uy] at H
       by_cases c78 : fj < (t225.length : Int)
       rotate_left
       ·rw [if_neg c78] at H
        have Zq := decide_eq_false c78
        (try rw [eA] at Zq)
        clear c78
        replace H := np H; obtain ⟨amO, H⟩ := H
        replace H := br (gl ++ [(⟨dh, 1, false⟩ : bm)]) (fun aff => (aA.ux k3 a1 t165 cK aff t166 (wrap64 (lK + 1)) aD aG) = some (r1, r2)) H; obtain ⟨aff, amP, H⟩ := H
        have H' := Aside0.mk H
        clear H
        go_wp2_with (first | ((with_reducible refine bC (b := .append) (xs := #[.tmp 59, .tmp 62]) rfl ?_); at_builtin; refine Kd.iX eB (w0 := w) w.heap.size rfl (.tmp 59) (.tmp 62) 75 113 (.agg #[(.slice none 0 0), (.int .i64 0), (.bool false)]) 40 rfl Tryz.underlying75 pr rfl (by decide) (by omega) u9 gl (⟨dh, 1, false⟩ : bm) [.slice TB dh.length BP, .int .i64 1, .bool false] (fun k_ => (w.heap.size ≤ k_) ∧ some k_ ≠ (u8 : Value).ownBlock ∧ k_ ≠ bV ∧ k_ ≠ bW) (fun k_ => ((fun k_ => (w.heap.size ≤ k_) ∧ some k_ ≠ (u8 : Value).ownBlock ∧ k_ ≠ bV ∧ k_ ≠ bW)) k_ ∧ some k_ ≠ (u9 : Value).ownBlock) rfl rfl ?aP (fun _ hk => hk) ?aF ?aO ?aB ?aS ?aL ?_; (case aP => exact (rJ _ _ (⟨dh, 1, false⟩ : bm) (Kd.aq (Kd.bD (ok' := (fun k_ => ((fun k_ => (w.heap.size ≤ k_) ∧ some k_ ≠ (u8 : Value).ownBlock ∧ k_ ≠ bV ∧ k_ ≠ bW)) k_ ∧ some k_ ≠ (u9 : Value).ownBlock)) (Kd.dL (Kd.dL (Kd.cX (Kd.cX (ij.out) (Kd.dy dZ.out) (by decide)) (Kd.dy ch.out) (by decide)) bL.out (by decide)) bP.out (by decide)) (fun k_ hk => ⟨⟨hk.1.1.1.1, ⟨hk.1.1.1.2, ⟨hk.1.2, hk.2⟩⟩⟩, hk.1.1.2⟩))).2.1 (Kd.R_F (Kd.bD (ok' := (fun k_ => ((fun k_ => (w.heap.size ≤ k_) ∧ some k_ ≠ (u8 : Value).ownBlock ∧ k_ ≠ bV ∧ k_ ≠ bW)) k_ ∧ some k_ ≠ (u9 : Value).ownBlock)) (Kd.dL (Kd.dL (Kd.cX (Kd.cX (ij.out) (Kd.dy dZ.out) (by decide)) (Kd.dy ch.out) (by decide)) bL.out (by decide)) bP.out (by decide)) (fun k_ hk => ⟨⟨hk.1.1.1.1, ⟨hk.1.1.1.2, ⟨hk.1.2, hk.2⟩⟩⟩, hk.1.1.2⟩))))); (case aB => exact (mb HB.out)); (case aF => exact (fun k_ hk => ⟨(Nat.le_trans (aC (mb HB.out)) hk), Kd.dz (Kd.rH (dX dZ.out)) k_ hk, Kd.du (g := bV) (o := .cells #[.slice ay aD.length ap, .slice ae aG.length a8] 28 (0, 0)) (ct bL.out) k_ hk, Kd.du (g := bW) (o := .cells #[.int .i64 0, .slice none 0 0] 77 (0, 0)) (ct bP.out) k_ hk⟩)); (case aO => exact (Kd.bK (dX ch.out) (fun _ hk => ⟨hk.1, ⟨hk.2.1, ⟨hk.2.2.2.1, hk.2.2.2.2⟩⟩⟩))); (case aS => exact (aC (mb HB.out))); (case aL => have := amO.out; omega); intro v231 w85 ho hb hg bk; rw [← amP.out] at ho; replace dZ := am (Kd.dJ (ok := (fun k_ => (w.heap.size ≤ k_) ∧ some k_ ≠ (.slice TB dh.length BP : Value).ownBlock ∧ k_ ≠ bV ∧ k_ ≠ bW)) (Kd.bK (dX dZ.out) (fun _ hk => ⟨⟨hk.1, ⟨hk.2.2.1, ⟨hk.2.2.2.1, hk.2.2.2.2⟩⟩⟩, hk.2.1⟩)) hg bk); replace bL := am (di (ct bL.out) hg (Kd.Aq ch.out bL.out (by decide))); replace bP := am (di (ct bP.out) hg (Kd.Aq ch.out bP.out (by decide))); replace HB := am (hb); have amQ := am (ho); clear ch; clear ij; clear ho hb hg bk))
        (try simp only [← eA])
        go_roundg k3
        case measure => have := dP.out; have := ft.out; have := nQ.out; omega
        case rel => exact ⟨(aff), (wrap64 (lK + 1)), dM, H', ⟨by have := dP.out; have := ft.out; have := nQ.out; omega⟩, ⟨by (try simp only [eA]); (with_reducible repeat (first | apply Kd.gJ | apply Kd.gK | apply Kd.iy)); exact Kd.bK dZ.out (fun _ hk => ⟨hk.1.1, ⟨hk.2, ⟨hk.1.2.2.1, hk.1.2.2.2⟩⟩⟩)⟩, ⟨by (try simp only [eA]); (with_reducible repeat (first | apply Kd.gJ | apply Kd.gK | apply Kd.iy)); exact amQ.out⟩, ⟨by (try simp only [eA]); exact ct bL.out⟩, ⟨by (try simp only [eA]); exact ct bP.out⟩, ⟨mb HB.out⟩⟩
       rw [if_pos c78] at H
       have Zq := decide_eq_true c78
       clear c78
       replace H := fW H; obtain ⟨avj, H⟩ := H
       replace H := fW H; obtain ⟨avk, H⟩ := H
       replace H := br (dh.set (fj : Int).toNat (wrap64 ((rd dh fj) + 10))) (fun XN => (aA.uy k3 a1 t165 cK gl XN t166 lK (t225.length : Int) (wrap64 (fj + 1)) aD aG) = some (r1, r2)) H; obtain ⟨XN, amR, H⟩ := H
       have H' := Aside0.mk H
       clear H
       have afg : 0 ≤ (fj : Int) := bX
       have afh : fj < (dh.length : Int) := bX
       obtain ⟨avl, asQ, XO⟩ := Kd.bi (Kd.aq ij.out).2.2 fj afg afh
       cases asQ
       replace afg := eq_true afg
       replace afh := eq_true afh
       have p81 : 0 ≤ (fj : Int) := bX
       have q81 : (fj : Int) < ((dh.length : Int) : Int) := bX
       obtain ⟨Jf, aqy, Ur, amS, asR, awv, amT⟩ := Kd.lZ ij.out (by omega)
       (first | cases Ur | (injection Ur with kF wB wC; (first | subst kF | (injection kF with kF; subst kF)); subst wC; clear wB))
       have asS := Aside0.mk amS
       have aww := Aside0.mk amT
       clear amS asR amT
       (first | simp only [add_plain] at XO | skip)
       obtain ⟨asT, asU⟩ := Kd.gx 0 ij.out (fj : Int) p81 q81
       replace p81 := eq_true p81
       replace q81 := eq_true q81
       have afi := Kd.nI ij.out (fj : Int) (wrap64 ((rd dh fj) + 10))
       go_wp2_with (first | ((with_reducible refine fo (t := 3) (p := 57) rfl ?_); refine fM (t := 3) (p := 57) (v := ?asV) (w1 := (wr.setCell ⟨Jf, (fj : Int).toNat, none⟩ (.int .i64 (wrap64 ((rd dh fj) + 10))))) ?hg ?ho ?hn ?hr ?_; (case ho => rfl); (case hg => rfl); (case hn => rfl); (case hr => first | (go_simp; done) | (go_simp; rfl)); intro w83 hw; have hg : wr.grownBy w83 (some Jf) := (by rw [hw]; exact afi.2); have rR : Kd.R (Kd.int .i64) 3 w83 w.heap.size (fun k_ => (w.heap.size ≤ k_)) (.slice (some ⟨Jf, 0, none⟩) dh.length BP) XN := (by rw [hw, amR.out]; exact afi.1); clear afi; replace dZ := am (Kd.dJ (v := (.slice (some ⟨Jf, 0, none⟩) dh.length BP)) (v1 := (.slice (some ⟨Jf, 0, none⟩) dh.length BP)) (ok := (fun k_ => (w.heap.size ≤ k_) ∧ some k_ ≠ (u9 : Value).ownBlock ∧ k_ ≠ bV ∧ k_ ≠ bW)) (Kd.bK (dX dZ.out) (fun _ hk => ⟨⟨hk.1, ⟨hk.2.1, ⟨hk.2.2.2.1, hk.2.2.2.2⟩⟩⟩, hk.2.2.1⟩)) hg (.inl rfl)); replace ch := am (Kd.dJ (v := (.slice (some ⟨Jf, 0, none⟩) dh.length BP)) (v1 := (.slice (some ⟨Jf, 0, none⟩) dh.length BP)) (ok := (fun k_ => (w.heap.size ≤ k_) ∧ some k_ ≠ (u8 : Value).ownBlock ∧ k_ ≠ bV ∧ k_ ≠ bW)) (Kd.bK (dX ch.out) (fun _ hk => ⟨⟨hk.1, ⟨hk.2.1, ⟨hk.2.2.2.1, hk.2.2.2.2⟩⟩⟩, hk.2.2.1⟩)) hg (.inl rfl)); replace bL := am (di (ct bL.out) hg (Kd.sW ij.out bL.out (by decide))); replace bP := am (di (ct bP.out) hg (Kd.sW ij.out bP.out (by decide))); replace ij := am (rR); replace HB := am ((by rw [hw]; exact dj (HB.out) asS.out : Below w.heap.size w w83)); clear hg hw rR))
       (try simp only [← eA])
       go_roundg k3
       case measure => have := dP.out; have := ft.out; have := nQ.out; omega
       case rel => exact ⟨(XN), (wrap64 (fj + 1)), dM, H', ⟨by have := dP.out; have := ft.out; have := nQ.out; omega⟩, ⟨by (try simp only [eA]); (with_reducible repeat (first | apply Kd.gJ | apply Kd.gK | apply Kd.iy)); exact Kd.bK dZ.out (fun _ hk => ⟨hk.1.1, ⟨hk.1.2.1, ⟨hk.2, ⟨hk.1.2.2.1, hk.1.2.2.2⟩⟩⟩⟩)⟩, ⟨by (try simp only [eA]); (with_reducible repeat (first | apply Kd.gJ | apply Kd.gK | apply Kd.iy)); exact Kd.bK ch.out (fun _ hk => ⟨hk.1.1, ⟨hk.1.2.1, ⟨hk.2, ⟨hk.1.2.2.1, hk.1.2.2.2⟩⟩⟩⟩)⟩, ⟨by (try simp only [eA]); (with_reducible repeat (first | apply Kd.ff | apply Kd.fg | apply Kd.gu)); exact ij.out⟩, ⟨by (try simp only [eA]); exact ct bL.out⟩, ⟨by (try simp only [eA]); exact ct bP.out⟩, ⟨mb HB.out⟩⟩
end Go.Proofs.YtggiicplcglalaaGreat.All
