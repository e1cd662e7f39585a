/- Part of the proof that FnExactWalkSteps answers true. -/
import Derived.Test.YtggiicplcglalaaGreatQW10
section
namespace Go.Proofs.YtggiicplcglalaaGreat.All
open Go.RowKit YtggiicplcglalaaGreatW.PrintWords YtggiicplcglalaaGreatW.PrintLast YtggiicplcglalaaGreatW.PrintMore
attribute [local go_sem] max2_int min2_int max_two min_two max_three min_three max_four min_four
set_option linter.unusedVariables false
set_option linter.unusedSimpArgs false
set_option maxHeartbeats 8000000
set_option maxRecDepth 100000
def bn.f (k : Nat) (aD : List (List Int)) (aG : List (List Int)) (a1 : Int) : Option (Bool) := (cq.f aD aG).bind fun P5 => (if P5 = true then ((dU.f aD aG).bind fun Ar => ((dd.f aD aG).bind fun As => ((gz.f a1 0 (wrap64 ((wrap64 (Ar + As)) - 1))).bind fun P6 => (if P6 = true then ((cU.f k aD aG).bind fun Hl => (some Hl)) else (some false))))) else (some false))
theorem bn.mono : ∀ a0 a1 a2 k, bB (bn.f k a0 a1 a2) (bn.f (k + 1) a0 a1 a2) := by
 intro a0 a1 a2 k
 unfold bn.f
 repeat' first
   | (with_reducible exact cU.mono ..)
   | (with_reducible exact bB.refl _)
   | (with_reducible exact bB.none _)
   | (with_reducible refine bB.ite ?_ ?_)
   | (with_reducible refine bB.bind ?_ (fun _ => ?_))
def bn.T1 : Bool × List (List Nat × List Nat) := (true, [([], []), ([0], [0]), ([1, 1], [1]), ([2], [2]), ([2], [2]), ([4, 2, 2], [2, 4]), ([2], [2]), ([6, 5, 2], [2, 6]), ([5, 7, 2], [2, 5, 7]), ([8, 2], [2, 8]), ([3, 9, 7, 2], [2, 3, 9]), ([2, 10], [2, 10]), ([11, 10], [11]), ([12], [12]), ([13, 12, 12], [12, 13]), ([12, 14], [12, 14]), ([15, 14, 0, 1, 2, 3, 4, 5, 6, 7, 8, 9, 10, 11, 12, 13, 14, 15], [15])])
def bn.B1 : List Nat := [0, 1, 3, 7, 7, 23, 7, 119, 247, 503, 1023, 2047, 4095, 8191, 16383, 32767, 65535]
theorem bn.mc : fh .any (opsOf Tryz.f95 1) = bn.T1 := by kernel_rfl
theorem bn.jY : fG bn.T1.2 bn.B1 = true := by kernel_rfl
theorem bn.calls (k : Nat) (ay : Option Addr) (ap : Nat) (aD : List (List Int)) (ae : Option Addr) (a8 : Nat) (aG : List (List Int)) (a1 : Int) (r : Bool) (w : World) (db : Kd.C (Kd.slice 3 (Kd.int .i64)) w ay aD.length aD) (dc : aD.length ≤ ap) (dH : Kd.C (Kd.slice 3 (Kd.int .i64)) w ae aG.length aG) (dI : aG.length ≤ a8) (h : bn.f k aD aG a1 = some r) :
  Calls Tryz.prog 95 #[.agg #[.slice ay aD.length ap, .slice ae aG.length a8], .int .i64 a1] w fun e w' => e = .returned (.bool r) ∧ Below w.heap.size w w' := by
 have rD := Tryz.underlying28
 have bl := Aside0.mk db
 have bz := Aside0.mk dc
 clear db dc
 have bx := Aside0.mk dH
 have cE := Aside0.mk dI
 clear dH dI
 have HB := Aside0.mk (Below.refl w.heap.size w)
 have H : ((cq.f aD aG).bind fun P5 => (if P5 = true then ((dU.f aD aG).bind fun Ar => ((dd.f aD aG).bind fun As => ((gz.f a1 0 (wrap64 ((wrap64 (Ar + As)) - 1))).bind fun P6 => (if P6 = true then ((cU.f k aD aG).bind fun Hl => (some Hl)) else (some false))))) else (some false))) = some r := h
 clear h
 replace H := bZ H; obtain ⟨P5, A3, H⟩ := H
 by_cases c4 : P5 = true
 rotate_left
 ·replace c4 := Bool.eq_false_iff.mpr c4
  subst c4
  replace H := sZ H
  obtain rfl := Option.some.inj H
  go_enter Tryz.func95, Tryz.ntmps95
  try go_wp2_with (first | ((with_reducible refine ah (N := 2) rfl ?_); refine bE 2 #[.slice ay aD.length ap, .slice ae aG.length a8] 28 ?_; intro wi hg Ty bO hb; have eE := am (bO); have En := gW HB hg; have Xw := En; replace HB := bS HB hb; clear hb bO hg))
  replace eE := am (az eE.out)
  replace HB := am (bd HB.out)
  refine fA (n := 17) (S := fun w' => w'.cell? ⟨wi, 0, none⟩ = some (.slice ay aD.length ap) ∧ w'.cell? ⟨wi, 1, none⟩ = some (.slice ae aG.length a8)) (ds := []) (Array.replicate 17 false) (by kernel_rfl) rfl rfl ⟨(aQ eE.out 0).trans rfl, (aQ eE.out 1).trans rfl⟩ (fun ai => ?_); refine cv bn.mc bn.jY (fun ak fz => ?_)
  generalize Ty.drew = w22 at eE HB ai ⊢
  refine tY 0 5 ak fz ai ?_
  refine oY 1 6 ak (fun K hK => ?_)
  refine gY Tryz.func62 #[.agg #[.slice ay aD.length ap, .slice ae aG.length a8]] ?_
  with_reducible refine (cq.calls _ _ aD _ _ aG false _ ?aT ?aU ?ao ?ar A3.out).mono ?_
  (case aT => exact cB bl HB)
  (case aU => exact bz.out)
  (case ao => exact cB bx HB)
  (case ar => exact cE.out)
  rintro e T7 ⟨rfl, hb⟩
  refine ⟨_, rfl, ?_⟩
  replace eE := kS eE hb
  replace HB := bS HB hb
  (try clear hb)
  (try clear sj)
  (try clear hk)
  (try clear hi)
  refine hK.out _ _ ⟨(aQ eE.out 0).trans rfl, (aQ eE.out 1).trans rfl⟩ (fun ai => ?_)
  clear hK K
  refine nY 6 ?_
  refine pY 2 7 ak ?_
  refine uY 3 8 ak ?_; refine uY 4 9 ak ?_
  refine uY 5 10 ak ?_; refine uY 6 11 ak ?_
  refine uY 7 12 ak ?_; refine uY 8 13 ak ?_
  refine uY 9 14 ak ?_; refine uY 10 15 ak ?_
  refine pY 11 16 ak ?_
  refine pY 12 17 ak ?_
  refine uY 13 18 ak ?_; refine uY 14 19 ak ?_
  refine pY 15 20 ak ?_
  refine pY 16 4 ak ?_
  refine dY ak ?_
  try go_wp2
  go_ret
  exact ⟨jC, mb HB.out⟩
 subst c4
 replace H := sY H
 replace H := bZ H; obtain ⟨Ar, A5, H⟩ := H
 replace H := bZ H; obtain ⟨As, A6, H⟩ := H
 replace H := bZ H; obtain ⟨P6, A7, H⟩ := H
 by_cases c8 : P6 = true
 rotate_left
 ·replace c8 := Bool.eq_false_iff.mpr c8
  subst c8
  replace H := sZ H
  obtain rfl := Option.some.inj H
  go_enter Tryz.func95, Tryz.ntmps95
  try go_wp2_with (first | ((with_reducible refine ah (N := 2) rfl ?_); refine bE 2 #[.slice ay aD.length ap, .slice ae aG.length a8] 28 ?_; intro wi hg NO bO hb; have eE := am (bO); have En := gW HB hg; have Xw := En; replace HB := bS HB hb; clear hb bO hg))
  replace eE := am (az eE.out)
  replace HB := am (bd HB.out)
  refine fA (n := 17) (S := fun w' => w'.cell? ⟨wi, 0, none⟩ = some (.slice ay aD.length ap) ∧ w'.cell? ⟨wi, 1, none⟩ = some (.slice ae aG.length a8)) (ds := []) (Array.replicate 17 false) (by kernel_rfl) rfl rfl ⟨(aQ eE.out 0).trans rfl, (aQ eE.out 1).trans rfl⟩ (fun ai => ?_); refine cv bn.mc bn.jY (fun ak fz => ?_)
  generalize NO.drew = T6 at eE HB ai ⊢
  refine tY 0 5 ak fz ai ?_
  refine oY 1 6 ak (fun K hK => ?_)
  refine gY Tryz.func62 #[.agg #[.slice ay aD.length ap, .slice ae aG.length a8]] ?_
  with_reducible refine (cq.calls _ _ aD _ _ aG true _ ?aT ?aU ?ao ?ar A3.out).mono ?_
  (case aT => exact cB bl HB)
  (case aU => exact bz.out)
  (case ao => exact cB bx HB)
  (case ar => exact cE.out)
  rintro e Ow ⟨rfl, hb⟩
  refine ⟨_, rfl, ?_⟩
  replace eE := kS eE hb
  replace HB := bS HB hb
  (try clear hb)
  (try clear sj)
  (try clear hk)
  (try clear hi)
  refine hK.out _ _ ⟨(aQ eE.out 0).trans rfl, (aQ eE.out 1).trans rfl⟩ (fun ai => ?_)
  clear hK K
  refine nY 6 ?_
  refine pY 2 7 ak ?_
  refine pY 3 8 ak ?_
  refine tY 4 9 ak fz ai ?_
  refine tY 6 11 ak fz ai ?_
  refine oY 5 10 ak (fun K hK => ?_)
  refine gY Tryz.func77 #[.agg #[.slice ay aD.length ap, .slice ae aG.length a8]] ?_
  with_reducible refine (dU.calls _ _ aD _ _ aG Ar _ ?aT ?aU ?ao ?ar A5.out).mono ?_
  (case aT => exact cB bl HB)
  (case aU => exact bz.out)
  (case ao => exact cB bx HB)
  (case ar => exact cE.out)
  rintro e w19 ⟨rfl, hb⟩
  refine ⟨_, rfl, ?_⟩
  replace eE := kS eE hb
  replace HB := bS HB hb
  (try clear hb)
  (try clear sj)
  (try clear hk)
  (try clear hi)
  refine hK.out _ _ ⟨(aQ eE.out 0).trans rfl, (aQ eE.out 1).trans rfl⟩ (fun ai => ?_)
  clear hK K
  refine nY 10 ?_
  refine oY 7 12 ak (fun K hK => ?_)
  refine gY Tryz.func78 #[.agg #[.slice ay aD.length ap, .slice ae aG.length a8]] ?_
  with_reducible refine (dd.calls _ _ aD _ _ aG As _ ?aT ?aU ?ao ?ar A6.out).mono ?_
  (case aT => exact cB bl HB)
  (case aU => exact bz.out)
  (case ao => exact cB bx HB)
  (case ar => exact cE.out)
  rintro e P4 ⟨rfl, hb⟩
  refine ⟨_, rfl, ?_⟩
  replace eE := kS eE hb
  replace HB := bS HB hb
  (try clear hb)
  (try clear sj)
  (try clear hk)
  (try clear hi)
  refine hK.out _ _ ⟨(aQ eE.out 0).trans rfl, (aQ eE.out 1).trans rfl⟩ (fun ai => ?_)
  clear hK K
  refine nY 12 ?_
  refine pY 8 13 ak ?_
  refine pY 9 14 ak ?_
  refine oY 10 15 ak (fun K hK => ?_)
  refine gY Tryz.func99 #[.int .i64 a1, .int .i64 0, .int .i64 (wrap64 ((wrap64 (Ar + As)) - 1))] ?_
  with_reducible refine (gz.calls a1 0 (wrap64 ((wrap64 (Ar + As)) - 1)) false _ A7.out).mono ?_
  rintro e w' ⟨rfl, ⟨nd, rfl⟩⟩
  refine ⟨_, rfl, ?_⟩
  refine hK.out _ _ ⟨(aQ eE.out 0).trans rfl, (aQ eE.out 1).trans rfl⟩ (fun ai => ?_)
  clear hK K
  refine nY 15 ?_
  refine pY 11 16 ak ?_
  refine pY 12 17 ak ?_
  refine uY 13 18 ak ?_; refine uY 14 19 ak ?_
  refine pY 15 20 ak ?_
  refine pY 16 4 ak ?_
  refine dY ak ?_
  try go_wp2
  go_ret
  exact ⟨jC, mb HB.out⟩
 subst c8
 replace H := sY H
 replace H := bZ H; obtain ⟨Hl, A9, H⟩ := H
 obtain rfl := Option.some.inj H
 go_enter Tryz.func95, Tryz.ntmps95
 try go_wp2_with (first | ((with_reducible refine ah (N := 2) rfl ?_); refine bE 2 #[.slice ay aD.length ap, .slice ae aG.length a8] 28 ?_; intro wi hg BZ bO hb; have eE := am (bO); have En := gW HB hg; have Xw := En; replace HB := bS HB hb; clear hb bO hg))
 replace eE := am (az eE.out)
 replace HB := am (bd HB.out)
 refine fA (n := 17) (S := fun w' => w'.cell? ⟨wi, 0, none⟩ = some (.slice ay aD.length ap) ∧ w'.cell? ⟨wi, 1, none⟩ = some (.slice ae aG.length a8)) (ds := []) (Array.replicate 17 false) (by kernel_rfl) rfl rfl ⟨(aQ eE.out 0).trans rfl, (aQ eE.out 1).trans rfl⟩ (fun ai => ?_); refine cv bn.mc bn.jY (fun ak fz => ?_)
 generalize BZ.drew = tu at eE HB ai ⊢
 refine tY 0 5 ak fz ai ?_
 refine oY 1 6 ak (fun K hK => ?_)
 refine gY Tryz.func62 #[.agg #[.slice ay aD.length ap, .slice ae aG.length a8]] ?_
 with_reducible refine (cq.calls _ _ aD _ _ aG true _ ?aT ?aU ?ao ?ar A3.out).mono ?_
 (case aT => exact cB bl HB)
 (case aU => exact bz.out)
 (case ao => exact cB bx HB)
 (case ar => exact cE.out)
 rintro e Ou ⟨rfl, hb⟩
 refine ⟨_, rfl, ?_⟩
 replace eE := kS eE hb
 replace HB := bS HB hb
 (try clear hb)
 (try clear sj)
 (try clear hk)
 (try clear hi)
 refine hK.out _ _ ⟨(aQ eE.out 0).trans rfl, (aQ eE.out 1).trans rfl⟩ (fun ai => ?_)
 clear hK K
 refine nY 6 ?_
 refine pY 2 7 ak ?_
 refine pY 3 8 ak ?_
 refine tY 4 9 ak fz ai ?_
 refine tY 6 11 ak fz ai ?_
 refine oY 5 10 ak (fun K hK => ?_)
 refine gY Tryz.func77 #[.agg #[.slice ay aD.length ap, .slice ae aG.length a8]] ?_
 with_reducible refine (dU.calls _ _ aD _ _ aG Ar _ ?aT ?aU ?ao ?ar A5.out).mono ?_
 (case aT => exact cB bl HB)
 (case aU => exact bz.out)
 (case ao => exact cB bx HB)
 (case ar => exact cE.out)
 rintro e E2 ⟨rfl, hb⟩
 refine ⟨_, rfl, ?_⟩
 replace eE := kS eE hb
 replace HB := bS HB hb
 (try clear hb)
 (try clear sj)
 (try clear hk)
 (try clear hi)
 refine hK.out _ _ ⟨(aQ eE.out 0).trans rfl, (aQ eE.out 1).trans rfl⟩ (fun ai => ?_)
 clear hK K
 refine nY 10 ?_
 refine oY 7 12 ak (fun K hK => ?_)
 refine gY Tryz.func78 #[.agg #[.slice ay aD.length ap, .slice ae aG.length a8]] ?_
 with_reducible refine (dd.calls _ _ aD _ _ aG As _ ?aT ?aU ?ao ?ar A6.out).mono ?_
 (case aT => exact cB bl HB)
 (case aU => exact bz.out)
 (case ao => exact cB bx HB)
 (case ar => exact cE.out)
 rintro e w14 ⟨rfl, hb⟩
 refine ⟨_, rfl, ?_⟩
 replace eE := kS eE hb
 replace HB := bS HB hb
 (try clear hb)
 (try clear sj)
 (try clear hk)
 (try clear hi)
 refine hK.out _ _ ⟨(aQ eE.out 0).trans rfl, (aQ eE.out 1).trans rfl⟩ (fun ai => ?_)
 clear hK K
 refine nY 12 ?_
 refine pY 8 13 ak ?_
 refine pY 9 14 ak ?_
 refine oY 10 15 ak (fun K hK => ?_)
 refine gY Tryz.func99 #[.int .i64 a1, .int .i64 0, .int .i64 (wrap64 ((wrap64 (Ar + As)) - 1))] ?_
 with_reducible refine (gz.calls a1 0 (wrap64 ((wrap64 (Ar + As)) - 1)) true _ A7.out).mono ?_
 rintro e w' ⟨rfl, ⟨nd, rfl⟩⟩
 refine ⟨_, rfl, ?_⟩
 refine hK.out _ _ ⟨(aQ eE.out 0).trans rfl, (aQ eE.out 1).trans rfl⟩ (fun ai => ?_)
 clear hK K
 refine nY 15 ?_
 refine pY 11 16 ak ?_
 refine pY 12 17 ak ?_
 refine tY 13 18 ak fz ai ?_
 refine oY 14 19 ak (fun K hK => ?_)
 refine gY Tryz.func63 #[.agg #[.slice ay aD.length ap, .slice ae aG.length a8]] ?_
 with_reducible refine (cU.calls k _ _ aD _ _ aG Hl _ ?aT ?aU ?ao ?ar A9.out).mono ?_
 (case aT => exact fy (Kd.bh bl.out (mb HB.out)))
 (case aU => exact bz.out)
 (case ao => exact fy (Kd.bh bx.out (mb HB.out)))
 (case ar => exact cE.out)
 rintro e NQ ⟨rfl, hb⟩
 refine ⟨_, rfl, ?_⟩
 replace eE := kS eE hb
 replace HB := bS HB hb
 (try clear hb)
 (try clear sj)
 (try clear hk)
 (try clear hi)
 refine hK.out _ _ ⟨(aQ eE.out 0).trans rfl, (aQ eE.out 1).trans rfl⟩ (fun ai => ?_)
 clear hK K
 refine nY 19 ?_
 refine pY 15 20 ak ?_
 refine pY 16 4 ak ?_
 refine dY ak ?_
 try go_wp2
 go_ret
 exact ⟨jC, mb HB.out⟩
def av.l0 : Nat → List Int → Int → Int → Int → Option (Int)
 | 0, _, _, _, _ => none
 | k + 1, x0, x1, x7, x8 => if x8 < x7 then (if 0 ≤ x8 then (if x8 < (x0.length : Int) then (if x1 = (rd x0 x8) then (some x8) else (av.l0 k x0 x1 x7 (wrap64 (x8 + 1)))) else (none)) else (none)) else (some (-1))
def av.f (k : Nat) (l0 : List Int) (a1 : Int) : Option (Int) := av.l0 k l0 a1 (l0.length : Int) 0
theorem av.bG : ∀ k, (∀ y0 y1 y2 y3, bB (av.l0 k y0 y1 y2 y3) (av.l0 (k + 1) y0 y1 y2 y3))
 | 0 => fun _ _ _ _ r h => by simp [av.l0] at h
 | k + 1 => by
  have eQ := av.bG k
  ·intro y0 y1 y2 y3
   unfold av.l0
   repeat' first
   | (with_reducible exact eQ ..)
   | (with_reducible exact bB.refl _)
   | (with_reducible exact bB.none _)
   | (with_reducible refine bB.ite ?_ ?_)
   | (with_reducible refine bB.bind ?_ (fun _ => ?_))
theorem av.mono : ∀ a0 a1 k, bB (av.f k a0 a1) (av.f (k + 1) a0 a1) := by
 intro a0 a1 k
 have eQ := av.bG k
 unfold av.f
 repeat' first
   | (with_reducible exact eQ ..)
   | (with_reducible exact bB.refl _)
   | (with_reducible exact bB.none _)
   | (with_reducible refine bB.ite ?_ ?_)
   | (with_reducible refine bB.bind ?_ (fun _ => ?_))
theorem av.calls (k : Nat) (A0 : Option Addr) (c0 : Nat) (l0 : List Int) (a1 : Int) (r : Int) (w : World) (gD : Kd.C (Kd.int .i64) w A0 l0.length l0) (hJ : l0.length ≤ c0) (h : av.f k l0 a1 = some r) :
  Calls Tryz.prog 141 #[.slice A0 l0.length c0, .int .i64 a1] w fun e w' => e = .returned (.int .i64 r) ∧ bM w w' := by
 have jt := Aside0.mk gD
 have wj := Aside0.mk hJ
 clear gD hJ
 have H : (av.l0 k l0 a1 (l0.length : Int) 0) = some r := h
 clear h
 have H' := Aside0.mk H
 clear H
 go_enter Tryz.func141, Tryz.ntmps141
 go_wp2
 go_loopg [8] k (fun kq v8 w' => ∃ (cK : Int), v8 = .int .i64 cK ∧ Aside0 (av.l0 kq l0 a1 (l0.length : Int) cK = some r) ∧ Aside0 (kq ≤ k) ∧ bM w w')
 case atStart => exact ⟨(0), dM, H', ⟨Nat.le_refl _⟩, by repeat (first | exact bM.refl _ | apply bM.step)⟩
 case round =>
  clear H'
  obtain ⟨cK, rfl, HA, dP, ⟨m1, rfl⟩⟩ := hrel
  cases gk with
  | zero => exact absurd HA.out (by simp [av.l0])
  | succ k1 =>
   have H := HA.out
   clear HA
   simp only [av.l0] at H
   by_cases c3 : cK < (l0.length : Int)
   rotate_left
   ·rw [if_neg c3] at H
    have gX := decide_eq_false c3
    clear c3
    obtain rfl := Option.some.inj H
    go_wp2
    go_ret
    exact ⟨mL, mM⟩
   rw [if_pos c3] at H
   have gX := decide_eq_true c3
   clear c3
   replace H := fW H; obtain ⟨iI, H⟩ := H
   replace H := fW H; obtain ⟨jR, H⟩ := H
   by_cases c6 : a1 = (rd l0 cK)
   ·rw [if_pos c6] at H
    have hU := il c6
    have vt := im c6
    clear c6
    obtain rfl := Option.some.inj H
    have Hm : 0 ≤ (cK : Int) := bX
    have Hn : cK < (l0.length : Int) := bX
    obtain ⟨ahv, aaV, UP⟩ := Kd.bi jt.out cK Hm Hn
    cases aaV
    replace Hm := eq_true Hm
    replace Hn := eq_true Hn
    go_wp2
    go_ret
    exact ⟨mL, mM⟩
   rw [if_neg c6] at H
   have hU := iQ c6
   have vt := iR c6
   have H' := Aside0.mk H
   clear H
   have Hm : 0 ≤ (cK : Int) := bX
   have Hn : cK < (l0.length : Int) := bX
   obtain ⟨ahv, aaV, UP⟩ := Kd.bi jt.out cK Hm Hn
   cases aaV
   replace Hm := eq_true Hm
   replace Hn := eq_true Hn
   go_wp2
   go_roundg k1
   case measure => have := dP.out; omega
   case rel => exact ⟨(wrap64 (cK + 1)), dM, H', ⟨by have := dP.out; omega⟩, by repeat (first | exact bM.refl _ | apply bM.step)⟩
def bT.f (k : Nat) (l0 : List Int) (a1 : Int) : Option (Bool) := (av.f k l0 a1).bind fun P7 => (some (decide (P7 ≥ 0)))
theorem bT.mono : ∀ a0 a1 k, bB (bT.f k a0 a1) (bT.f (k + 1) a0 a1) := by
 intro a0 a1 k
 unfold bT.f
 repeat' first
   | (with_reducible exact av.mono ..)
   | (with_reducible exact bB.refl _)
   | (with_reducible exact bB.none _)
   | (with_reducible refine bB.ite ?_ ?_)
   | (with_reducible refine bB.bind ?_ (fun _ => ?_))
theorem bT.calls (k : Nat) (A0 : Option Addr) (c0 : Nat) (l0 : List Int) (a1 : Int) (r : Bool) (w : World) (gD : Kd.C (Kd.int .i64) w A0 l0.length l0) (hJ : l0.length ≤ c0) (h : bT.f k l0 a1 = some r) :
  Calls Tryz.prog 79 #[.slice A0 l0.length c0, .int .i64 a1] w fun e w' => e = .returned (.bool r) ∧ bM w w' := by
 have jt := Aside0.mk gD
 have wj := Aside0.mk hJ
 clear gD hJ
 have H : ((av.f k l0 a1).bind fun P7 => (some (decide (P7 ≥ 0)))) = some r := h
 clear h
 replace H := bZ H; obtain ⟨P7, A3, H⟩ := H
 obtain rfl := Option.some.inj H
 go_enter Tryz.func79, Tryz.ntmps79
 go_wp2_with (first | ((with_reducible refine gC 141 rfl ?_); refine gL 7 Tryz.func141 #[.slice A0 l0.length c0, .int .i64 a1] ?_; (with_reducible refine (av.calls k _ _ l0 a1 P7 _ ?aT ?aU A3.out).mono ?_); (case aT => exact fy jt.out); (case aU => exact wj.out); rintro e w' ⟨rfl, ⟨nd, rfl⟩⟩; refine ⟨_, rfl, ?_⟩))
 go_ret
 exact ⟨mL, mM⟩
def aaW : Go.Shelf.Ren := ⟨fun | 6 => 177 | 10 => 173 | n => n, fun | 0 => 0 | 3 => 3 | 4 => 4 | 22 => 40 | 23 => 3 | 25 => 90 | n => n, fun | n => n⟩
theorem aaX : SlLaysH.n10 Tryz.prog aaW := {
 mixed := by kernel_rfl
 f6 := ⟨Tryz.f177.name, by decide, Tryz.func177.trans (congrArg some (by kernel_rfl))⟩
 f10 := ⟨Tryz.f173.name, by decide, Tryz.func173.trans (congrArg some (by kernel_rfl))⟩
 t0 := Tryz.underlying0
 a0 := Tryz.isAgg0
 z0 := Tryz.sizeOf0
 v0 := Tryz.zeroValue0
 t3 := Tryz.underlying3
 a3 := Tryz.isAgg3
 z3 := Tryz.sizeOf3
 v3 := Tryz.zeroValue3
 t4 := Tryz.underlying4
 a4 := Tryz.isAgg4
 z4 := Tryz.sizeOf4
 v4 := Tryz.zeroValue4
 t22 := Tryz.underlying40
 a22 := Tryz.isAgg40
 z22 := Tryz.sizeOf40
 v22 := Tryz.zeroValue40
 a23 := Tryz.isAgg3
 z23 := Tryz.sizeOf3
 t25 := Tryz.underlying90
 a25 := Tryz.isAgg90
 z25 := Tryz.sizeOf90
 v25 := Tryz.zeroValue90 }
def Eo (g : Nat) (lb : Array Value) (p : Int → Bool) (w : World) (v : Value) : Prop :=
 ∀ (W : World) (x : Int), (∀ i, i < w.heap.size → some i ≠ v.ownBlock → W.heap[i]? = w.heap[i]?) → Go.Proofs.FnGives Tryz.prog g lb #[.int .i64 x] (.bool (p x)) W
open Go.Sort in
theorem Ce {w : World} {base gb cap q : Nat} {e : TypeId} {cur : Array Value} {n : Nat} (fl : List Int) (m : Nat) (cP : base ≤ gb) (hb : w.heap[gb]? = some (.cells cur e (0, 0))) (h1 : n ≤ cap) (h2 : cap ≤ maxLen) (h3 : cur.size = cap * 1) (hn : fl.length + m = n) :
  (putRow (Value.int .i64) (Sort.ahead w q) gb 0 (fl ++ List.replicate m 0).toArray).ownsRow base e 1 (.slice (some ⟨gb, 0, none⟩) fl.length cap) fl.length (ma (Value.int .i64) fl) := by
 have hl : (fl ++ List.replicate m (0 : Int)).length = n := by simp [hn]
 refine ⟨by simp [ma], .inr ⟨gb, cap, putCells (Value.int .i64) 0 (fl ++ List.replicate m 0).toArray cur, rfl, cP, ?_, by omega, h2, by simp [putCells, h3], ?_⟩⟩
 ·have := heap_sortedI (n := q) (os := #[]) (fl ++ List.replicate m (0 : Int)).toArray hb
  rwa [grow_empty] at this
 ·have h4 := take_putCellsI cur (fl ++ List.replicate m (0 : Int)) (by rw [hl]; omega)
  have h5 := congrArg (List.take fl.length) h4
  rw [List.take_take, Nat.min_eq_left (by simp)] at h5
  rw [Nat.mul_one, h5, List.map_append, List.take_left' (by simp)]
  rfl
open Go.Sort in
theorem Ho {w0 w : World} {base gb q : Nat} (d : Array Int) (hB : Below base w0 w) (UQ : base ≤ w.heap.size) (cP : base ≤ gb) : Below base w0 (putRow (Value.int .i64) (Sort.ahead w q) gb 0 d) := by
 have := grownBy_sortedI (w := w) (g := gb) (n := q) (os := #[]) d
 rw [grow_empty] at this
 exact hB.grown this UQ (fun k hk => by cases hk; exact cP)
def yz.f (l : List Int) (x : Int) : Option (List Int) := some (l.filter fun y => !(y == x))
open Go.Sort in
theorem Ep (g : Nat) (lb : Array Value) (eg : ∀ args w, (callFunc g args).run Tryz.prog w = .ok (.enter g args) w) (p : Int → Bool) (base : Nat) (ok : Nat → Prop) (v : Value) (l : List Int) (w0 w : World)
  (ho : Kd.R (Kd.int .i64) 3 w base ok v l) (hp : Eo g lb p w v) (hB : Below base w0 w) (UQ : base ≤ w.heap.size) :
  Calls Tryz.prog 173 #[v, .func (.func g) #[] lb] w fun e w' => ∃ v' : Value, e = .returned v' ∧ Kd.R (Kd.int .i64) 3 w' base ok v' (l.filter fun x => !p x) ∧ Below base w0 w' ∧ Kept w w' (fun k => some k = v.ownBlock) := by
 have ik := Kd.tj ho
 rcases ik.2 with ⟨rfl, hn⟩ | ⟨gb, cap, cur, rfl, cP, lT, h1, h2, h3, h4⟩
 ·obtain rfl : l = [] := List.eq_nil_of_length_eq_zero hn
  have hix := zA g lb eg (fun _ => .bool false) (fun _ => false) none 0 0 w (fun j hj => absurd hj (Nat.not_lt_zero _)) (by omega) (fun j hj => absurd hj (Nat.not_lt_zero _))
  have HO := Aside0.mk ho
  have HB := Aside0.mk hB
  have HW := Aside0.mk UQ
  clear ho hB ik hp hn UQ
  go_enter Tryz.func173, Tryz.ntmps173
  go_wp2_with (go_at_call 177; refine hix.mono ?_; rintro e w1 ⟨rfl, hb⟩; have HB1 := Aside0.mk (HB.out.trans (hb.mono HW.out)); have dP := Aside0.mk (Kept.Er hb (fun k => some k = (Value.slice none 0 0).ownBlock)); clear hb)
  go_ret
  exact ⟨_, rfl, Kd.mV _ _ _ _ _, HB1.out, dP.out⟩
 ·have gS : gb < w.heap.size := (Array.getElem?_eq_some_iff.1 lT).1
  have hH : Go.Sort.Holds (Value.int .i64) w gb 0 l.toArray := holds_of_blockI lT (by rw [Nat.mul_one] at h4; rw [h4]; rfl)
  have lP := AnyE.slices_DeleteFunc aaX (Value.int .i64) (fun _ => rfl) p g lb eg 0 Tryz.zeroValue3 gb 0 cap l.toArray w
   (fun W x hb => hp W x (fun i hi _ => hb.block i hi))
   (fun n os dk x _ => hp _ x (fun i hi fv => by
    show (Sort.grow (Sort.putRow _ (Sort.ahead w n) gb 0 dk) os).heap[i]? = _
    rw [Sort.heap_grow_old _ _ (by simpa using hi)]
    have : gb ≠ i := fun e => fv (by rw [← e]; rfl)
    simp [Sort.putRow, Sort.mapBlock, Sort.ahead, Array.getElem?_modify, this]))
   hH (by simp only [List.size_toArray]; unfold maxLen at h2; omega) (by simpa using h1)
  change Calls Tryz.prog 173 _ _ _ at lP
  simp only [List.size_toArray] at lP
  refine lP.mono ?_
  rintro e w' ⟨rfl, q, rfl⟩
  have hle : (l.filter fun x => !p x).length ≤ l.length := List.length_filter_le _ _
  refine ⟨_, rfl, Kd.yq (Ce _ _ cP lT h1 h2 h3 (by omega)) (fun k hk => ho.1 k hk), Ho _ hB UQ cP, ?_, fun i hi hn => ?_⟩
  ·simp [Sort.putRow, Sort.mapBlock, Sort.ahead]
  ·have : gb ≠ i := fun e => hn (by rw [← e]; rfl)
   simp [Sort.putRow, Sort.mapBlock, Sort.ahead, Array.getElem?_modify, this]
theorem Cf (x y : Int) (B : Nat) (W : World) (hc : W.cell? ⟨B, 0, none⟩ = some (.int .i64 y)) :
  Go.Proofs.FnGives Tryz.prog 174 #[.pointer (some ⟨B, 0, none⟩)] #[.int .i64 x] (.bool (x == y)) W := by
 show Calls Tryz.prog 174 #[.int .i64 x, .pointer (some ⟨B, 0, none⟩)] W _
 go_enter Tryz.func174, Tryz.ntmps174
 go_wp2
 go_ret
 exact ⟨rfl, 0, rfl⟩
theorem Es (y : Int) (B : Nat) (w : World) (v : Value) (hB : w.heap[B]? = some (.cells #[.int .i64 y] 3 (0, 0))) (fv : some B ≠ v.ownBlock) :
  Eo 174 #[.pointer (some ⟨B, 0, none⟩)] (fun x => x == y) w v := by
 intro W x hW
 refine Cf x y B W ?_
 have h1 := hW B (d_ hB) fv
 rw [hB] at h1
 exact (aQ h1 0).trans rfl
def uA (k : Nat) (l p : List Int) (j : Nat) : Option Bool := bT.f k p (l.getD j 0)
def fK.f (k : Nat) (l p : List Int) : Option Bool := if ((List.range' 0 l.length).all fun j => (uA k l p j).isSome) = true then some ((List.range' 0 l.length).any fun j => !((uA k l p j).getD false)) else none
theorem sk (F G : Nat → Option Bool) : ∀ L : List Nat, (∀ j ∈ L, (F j).isSome = true → G j = F j) → (L.all fun j => (F j).isSome) = true → (L.all fun j => (G j).isSome) = true ∧ (L.any fun j => !((G j).getD false)) = (L.any fun j => !((F j).getD false))
 | [], _, _ => ⟨rfl, rfl⟩
 | a :: L, h, ha => by
  simp only [List.all_cons, Bool.and_eq_true] at ha ⊢
  have e := h a (by simp) ha.1
  have ih := sk F G L (fun j hj => h j (by simp [hj])) ha.2
  simp only [List.any_cons, e, ih.2]
  exact ⟨⟨ha.1, ih.1⟩, trivial⟩
theorem fK.mono : ∀ l p k, bB (fK.f k l p) (fK.f (k + 1) l p) := by
 intro l p k r h
 unfold fK.f at h ⊢
 by_cases c : ((List.range' 0 l.length).all fun j => (uA k l p j).isSome) = true
 rotate_left
 ·rw [if_neg c] at h
  cases h
 rw [if_pos c] at h
 obtain ⟨a, b⟩ := sk (uA k l p) (uA (k + 1) l p) _ (fun j _ hs => by
  obtain ⟨v, hv⟩ := Option.isSome_iff_exists.mp hs
  rw [hv]
  exact bT.mono _ _ k _ hv) c
 rw [if_pos a, b]
 exact h
theorem Cg (k : Nat) (x : Int) (G : Nat) (A1 : Option Addr) (c1 : Nat) (p : List Int) (v : Bool) (w W : World) (hb : Below w.heap.size w W) (hx : w.cell? ⟨G, 0, none⟩ = some (.slice A1 p.length c1)) (hp : Kd.C (Kd.int .i64) w A1 p.length p) (hc : p.length ≤ c1) (h : bT.f k p x = some v) :
  Calls Tryz.prog 175 #[.int .i64 x, .pointer (some ⟨G, 0, none⟩)] W fun e w' => e = .returned (.bool (!v)) ∧ Below w.heap.size w w' := by
 have T9 := (hb.cell (World.block_lt_of_cell? w _ hx)).trans hx
 have HB := Aside0.mk hb
 have lP := fun (W1 : World) (NJ : Below w.heap.size w W1) => bT.calls k A1 c1 p x v W1 (Kd.bh hp NJ) hc h
 have HK := Aside0.mk lP
 clear hx hp hc h hb lP
 go_enter Tryz.func175, Tryz.ntmps175
 go_wp2_with (go_at_call 79; refine (HK.out _ (mb HB.out)).mono ?_; rintro e w' ⟨rfl, ⟨nd, rfl⟩⟩)
 go_ret
 exact ⟨rfl, mb HB.out⟩
theorem fK.calls (k : Nat) (A0 : Option Addr) (c0 : Nat) (l0 : List Int) (G : Nat) (A1 : Option Addr) (c1 : Nat) (p : List Int) (r : Bool) (w : World) (gD : Kd.C (Kd.int .i64) w A0 l0.length l0) (hJ : l0.length ≤ c0) (hx : w.cell? ⟨G, 0, none⟩ = some (.slice A1 p.length c1)) (hp : Kd.C (Kd.int .i64) w A1 p.length p) (hc : p.length ≤ c1) (h : fK.f k l0 p = some r) :
  Calls Tryz.prog 149 #[.slice A0 l0.length c0, .func (.func 175) #[] #[.pointer (some ⟨G, 0, none⟩)]] w fun e w' => e = .returned (.bool r) ∧ Below w.heap.size w w' := by
 unfold fK.f at h
 by_cases ca : ((List.range' 0 l0.length).all fun j => (uA k l0 p j).isSome) = true
 rotate_left
 ·rw [if_neg ca] at h
  cases h
 rw [if_pos ca] at h
 obtain rfl := Option.some.inj h
 refine sl 175 _ (enters_of Tryz.func175 (by kernel_rfl) rfl) (fun j => .int .i64 (l0.getD j 0)) (fun j => !((uA k l0 p j).getD false)) A0 l0.length c0 w ?_ gD.2.1 (B4 gD)
 intro j hj W hb
 have hs : (uA k l0 p j).isSome = true := List.all_eq_true.mp ca j (by rw [List.mem_range']; exact ⟨j, hj, by omega⟩)
 obtain ⟨v, hv⟩ := Option.isSome_iff_exists.mp hs
 refine (Cg k (l0.getD j 0) G A1 c1 p v w W hb hx hp hc hv).mono ?_
 rintro e w' ⟨rfl, sh⟩
 exact ⟨by simp only [hv, Option.getD_some], sh⟩
mutual
def aN.l0 : Nat → List Int → List Int → List (List Int) → Int → Int → Int → List (bm) → Int → Option (List Int × Int)
 | 0, _, _, _, _, _, _, _, _ => none
 | k + 1, x1, x8, xZ, xb, B5, me, mf, mg => if B5 < xb then (if 0 ≤ B5 then (if B5 < (xZ.length : Int) then ((aV.f k me mf (aJ xZ B5)).bind fun gN => ((a7.f k (aJ xZ B5) x1).bind fun P8 => (if P8 = true then (aN.j1 k x1 x8 xZ xb B5 true me mf mg gN) else ((fK.f k x8 gN).bind fun NR => (aN.j1 k x1 x8 xZ xb B5 NR me mf mg gN))))) else (none)) else (none)) else (some (x1, mg))
def aN.j1 : Nat → List Int → List Int → List (List Int) → Int → Int → Bool → Int → List (bm) → Int → List Int → Option (List Int × Int)
 | 0, _, _, _, _, _, _, _, _, _, _ => none
 | k + 1, x1, x8, xZ, xb, B5, KR, me, mf, mg, KS => if KR = true then (aN.l0 k x1 x8 xZ xb (wrap64 (B5 + 1)) me mf mg) else (aN.l1 k x1 x8 xZ xb B5 KS (KS.length : Int) 0 me mf mg)
def aN.l1 : Nat → List Int → List Int → List (List Int) → Int → Int → List Int → Int → Int → Int → List (bm) → Int → Option (List Int × Int)
 | 0, _, _, _, _, _, _, _, _, _, _, _ => none
 | k + 1, x1, x8, xZ, xb, B5, Hp, td, NS, me, mf, mg => if NS < td then (if 0 ≤ NS then (if NS < (Hp.length : Int) then ((bT.f k x8 (rd Hp NS)).bind fun P9 => (if P9 = true then (aN.l1 k x1 x8 xZ xb B5 Hp td (wrap64 (NS + 1)) me mf mg) else (some ((aJ xZ B5), rd Hp NS)))) else (none)) else (none)) else (aN.l0 k x1 x8 xZ xb (wrap64 (B5 + 1)) me mf mg)
end
def aN.f (k : Nat) (eI : Int) (aG : List (bm)) (l1 : List Int) (a2 : Int) : Option (List Int × Int) := (aV.f k eI aG l1).bind fun Hq => ((yz.f Hq a2).bind fun sa => ((aM.f k eI aG).bind fun ki => (aN.l0 k l1 sa ki (ki.length : Int) 0 eI aG a2)))
theorem aN.bG : ∀ k, (∀ y0 y1 y2 y3 y4 y5 y6 y7, bB (aN.l0 k y0 y1 y2 y3 y4 y5 y6 y7) (aN.l0 (k + 1) y0 y1 y2 y3 y4 y5 y6 y7)) ∧ (∀ y0 y1 y2 y3 y4 y5 y6 y7 y8 y9, bB (aN.j1 k y0 y1 y2 y3 y4 y5 y6 y7 y8 y9) (aN.j1 (k + 1) y0 y1 y2 y3 y4 y5 y6 y7 y8 y9)) ∧ (∀ y0 y1 y2 y3 y4 y5 y6 y7 y8 y9 zB, bB (aN.l1 k y0 y1 y2 y3 y4 y5 y6 y7 y8 y9 zB) (aN.l1 (k + 1) y0 y1 y2 y3 y4 y5 y6 y7 y8 y9 zB))
 | 0 => ⟨fun _ _ _ _ _ _ _ _ r h => by simp [aN.l0] at h, fun _ _ _ _ _ _ _ _ _ _ r h => by simp [aN.j1] at h, fun _ _ _ _ _ _ _ _ _ _ _ r h => by simp [aN.l1] at h⟩
 | k + 1 => by
  obtain ⟨eQ, kP, sn⟩ := aN.bG k
  refine ⟨?_, ?_, ?_⟩ <;> intros <;> (first | unfold aN.l0 | unfold aN.j1 | unfold aN.l1)
  all_goals repeat' first
  | (with_reducible exact eQ ..)
  | (with_reducible exact kP ..)
  | (with_reducible exact sn ..)
  | (with_reducible exact aM.mono ..)
  | (with_reducible exact aV.mono ..)
  | (with_reducible exact fK.mono ..)
  | (with_reducible exact bT.mono ..)
  | (with_reducible exact a7.mono ..)
  | (with_reducible exact bB.refl _)
  | (with_reducible exact bB.none _)
  | (with_reducible refine bB.ite ?_ ?_)
  | (with_reducible refine bB.bind ?_ (fun _ => ?_))
theorem aN.mono : ∀ a0 a1 a2 a3 k, bB (aN.f k a0 a1 a2 a3) (aN.f (k + 1) a0 a1 a2 a3) := by
 intro a0 a1 a2 a3 k
 obtain ⟨eQ, kP, sn⟩ := aN.bG k
 unfold aN.f
 repeat' first
   | (with_reducible exact eQ ..)
   | (with_reducible exact kP ..)
   | (with_reducible exact sn ..)
   | (with_reducible exact aM.mono ..)
   | (with_reducible exact aV.mono ..)
   | (with_reducible exact fK.mono ..)
   | (with_reducible exact bT.mono ..)
   | (with_reducible exact a7.mono ..)
   | (with_reducible exact bB.refl _)
   | (with_reducible exact bB.none _)
   | (with_reducible refine bB.ite ?_ ?_)
   | (with_reducible refine bB.bind ?_ (fun _ => ?_))
theorem aN.calls (k : Nat) (eI : Int) (ae : Option Addr) (a8 : Nat) (aG : List (bm)) (A1 : Option Addr) (c1 : Nat) (l1 : List Int) (a2 : Int) (r1 : List Int) (r2 : Int) (w : World) (dH : Kd.C eB w ae aG.length aG) (dI : aG.length ≤ a8) (nn : Kd.C (Kd.int .i64) w A1 l1.length l1) (mN : l1.length ≤ c1) (h : aN.f k eI aG l1 a2 = some (r1, r2)) :
  Calls Tryz.prog 147 #[.agg #[.int .i64 eI, .slice ae aG.length a8], .slice A1 l1.length c1, .int .i64 a2] w fun e w' => ∃ iE : Value, e = .returned (.tuple #[iE, .int .i64 r2]) ∧ Kd.V (Kd.int .i64) 3 w' w.heap.size (fun _ => True) iE r1 ∧ Below w.heap.size w w' := by
 have Tr := Tryz.underlying77
 have bx := Aside0.mk dH
 have cE := Aside0.mk dI
 clear dH dI
 have lz := Aside0.mk nn
 have Ag := Aside0.mk mN
 clear nn mN
 have HB := Aside0.mk (Below.refl w.heap.size w)
 have H : ((aV.f k eI aG l1).bind fun Hq => ((yz.f Hq a2).bind fun sa => ((aM.f k eI aG).bind fun ki => (aN.l0 k l1 sa ki (ki.length : Int) 0 eI aG a2)))) = some (r1, r2) := h
 clear h
 replace H := bZ H; obtain ⟨Hq, A4, H⟩ := H
 replace H := bZ H; obtain ⟨sa, A5, H⟩ := H
 replace H := bZ H; obtain ⟨ki, A6, H⟩ := H
 have H' := Aside0.mk H
 clear H
 go_enter Tryz.func147, Tryz.ntmps147
 go_wp2_with (first | ((with_reducible refine ah (N := 3) rfl ?_); refine bE 3 #[.int .i64 eI, .slice ae aG.length a8] 77 ?_; intro pB hg w7 bO hb; have fH := am (bO); have ahw := gW HB hg; have atG := ahw; replace HB := bS HB hb; clear hb bO hg) | ((with_reducible refine ah (N := 5) rfl ?_); refine bE 5 #[.int .i64 a2] 3 ?_; intro i_ hg w8 bO hb; have gZ := am (bO); have ahx := gW HB hg; have atH := ahx; replace HB := bS HB hb; have vu := am ((by rw [hg]; exact Nat.ne_of_lt (d_ (g := pB) (o := .cells #[.int .i64 eI, .slice ae aG.length a8] 77 (0, 0)) (ct fH.out)) : pB ≠ i_)); have vv := am ((by rw [hg]; exact Nat.ne_of_gt (d_ (g := pB) (o := .cells #[.int .i64 eI, .slice ae aG.length a8] 77 (0, 0)) (ct fH.out)) : i_ ≠ pB)); replace fH := kS fH hb; clear hb bO hg; have apU := vu.out; have apV := vv.out; have KT := cG fH.out; have KU := cR fH.out; have KV := aH fH.out 0; have KW := aH fH.out 1) | (go_at_call 66; (with_reducible refine (aV.calls k eI _ _ aG _ _ l1 Hq _ ?aT ?aU ?ao ?ar A4.out).mono ?_); (case aT => exact cB bx HB); (case aU => exact cE.out); (case ao => exact cB lz HB); (case ar => exact Ag.out); rintro e tu ⟨v394, rfl, cC, hb⟩; have so := am (Kd.cO (Kd.H9 (Kd.H9 cC (g := i_) (o := .cells #[.int .i64 a2] 3 (0, 0)) (ct gZ.out)) (g := pB) (o := .cells #[.int .i64 eI, .slice ae aG.length a8] 77 (0, 0)) (ct fH.out)) (aC (mb HB.out))); replace fH := kS fH hb; replace gZ := kS gZ hb; replace HB := bS HB hb; (try clear hb cC); obtain ⟨avO, Et, UR⟩ := Kd.cH so.out; subst UR) | (go_at_call 173; (refine (Ep 174 #[.pointer (some ⟨i_, 0, none⟩)] (enters_of Tryz.func174 (by kernel_rfl) rfl) (fun x_ => x_ == a2) w.heap.size _ _ Hq w _ (ci so.out) (Es a2 i_ _ _ (ct gZ.out) (fun e_ => ((so.out).1 _ e_.symm).1.2 rfl)) (mb HB.out) (aC (mb HB.out))).mono ?_); rintro e E2 ⟨v397, rfl, cC, hb, hk⟩; rw [show (Hq.filter fun x_ => !(x_ == a2)) = sa from Option.some.inj A5.out] at cC; have US := Aside0.mk (Kd.bD (ok' := fun k_ => True ∧ k_ ≠ i_) cC (fun _ gH => ⟨trivial, gH.1.2⟩)); have Xx := Aside0.mk (rO (ct fH.out) hk (fun e_ => ((so.out).1 _ e_.symm).2 rfl)); have Xy := Aside0.mk (rO (ct gZ.out) hk (fun e_ => ((so.out).1 _ e_.symm).1.2 rfl)); clear HB so fH gZ; have HB := Aside0.mk hb; have so := US; have KX := US; have fH := Xx; have gZ := Xy; clear US Xx Xy hk; (try clear hb hk cC); have KY := cG fH.out; have KZ := cR fH.out; have K0 := aH fH.out 0; have K3 := aH fH.out 1) | (go_at_call 65; (with_reducible refine (aM.PN k eI (fun k_ => k_ < w.heap.size) _ _ aG ki _ ?aT A6.out).mono ?_); (case aT => exact Kd.jo cE.out (Kd.mh (Kd.UK BY bx.out) (mb HB.out))); rintro e NQ ⟨v400, rfl, cC, hb⟩; have Xz := am (Kd.gI (Kd.aaY (Kd.kE (Kd.kE (Kd.cJ (ok' := fun k_ => True) cC (fun _ gH => trivial)) (Kd.iH (ci so.out))) (Kd.iH (ci KX.out))) (g := i_) (o := .cells #[.int .i64 a2] 3 (0, 0)) (ct gZ.out)) (aC (mb HB.out))); replace so := am (Kd.b6 (ci so.out) hb); replace KX := am (Kd.b6 (ci KX.out) hb); replace fH := kS fH hb; replace gZ := kS gZ hb; replace HB := bS HB hb; (try clear hb cC); obtain ⟨Eu, nr, P_⟩ := Kd.gj Xz.out; subst P_))
 go_loopg [22] k (fun kq v22 w' => ∃ (kJ : Int), v22 = .int .i64 kJ ∧ Aside0 (aN.l0 kq l1 sa ki (ki.length : Int) kJ eI aG a2 = some (r1, r2)) ∧ Aside0 (kq ≤ k) ∧ Aside0 (Kd.R (Kd.int .i64) 3 w' w.heap.size (fun k_ => k_ ≠ i_) v397 sa) ∧ Aside0 (Kd.S (Kd.slice 3 (Kd.int .i64)) 40 w' w.heap.size (fun k_ => some k_ ≠ (v397 : Value).ownBlock ∧ k_ ≠ i_) (.slice Eu ki.length nr) ki) ∧ Aside0 (w'.heap[pB]? = some (.cells #[.int .i64 eI, (.slice ae aG.length a8)] 77 (0, 0))) ∧ Aside0 (w'.heap[i_]? = some (.cells #[.int .i64 a2] 3 (0, 0))) ∧ Aside0 (Below w.heap.size w w'))
 case atStart => exact ⟨(0), dM, H', ⟨Nat.le_refl _⟩, ⟨Kd.bD (ci KX.out) (fun _ hk => hk.2)⟩, ⟨Kd.cJ (gP Xz.out) (fun _ hk => ⟨hk.1.2, hk.2⟩)⟩, ⟨ct fH.out⟩, ⟨ct gZ.out⟩, ⟨mb HB.out⟩⟩
 case round =>
  clear H'
  obtain ⟨kJ, rfl, HA, dP, dZ, mA, fH, gZ, HB⟩ := hrel
  cases gk with
  | zero => exact absurd HA.out (by simp [aN.l0])
  | succ k1 =>
   have H := HA.out
   clear HA
   simp only [aN.l0] at H
   by_cases E3 : kJ < (ki.length : Int)
   rotate_left
   ·rw [if_neg E3] at H
    have yv := decide_eq_false E3
    clear E3
    simp only [Option.some.injEq, Prod.mk.injEq] at H
    obtain ⟨rfl, rfl⟩ := H
    have ahf := vv.out
    have ahg := vu.out
    have UE := cG gZ.out
    have UF := aH gZ.out 0
    go_wp2
    go_quiet (fail); try go_wp2
    go_ret2
    exact ⟨_, jC, (Kd.jo Ag.out (Kd.rN (Kd.UK (Kd.ku .i64) (Kd.bh lz.out (mb HB.out))) (fun _ _ => trivial))), mb HB.out⟩
   rw [if_pos E3] at H
   have yv := decide_eq_true E3
   clear E3
   replace H := fW H; obtain ⟨BX, H⟩ := H
   replace H := fW H; obtain ⟨ahy, H⟩ := H
   replace H := bZ H; obtain ⟨gN, A20, H⟩ := H
   have aaZ := Aside0.mk H
   clear H
   have UT : 0 ≤ (kJ : Int) := bX
   have UU : kJ < (ki.length : Int) := bX
   obtain ⟨YA, Hr, aa0, apW, UW, K4, K5⟩ := eO (Kd.cj mA.out).2.2 kJ UT UU
   cases apW
   obtain ⟨atI, aa1, aa2, Pa⟩ := Kd.ahz mA.out [] kJ UT (by first | exact UU | exact bX | (have e_ := (Kd.cj mA.out).1; omega))
   obtain ⟨an5, rfl, Ch⟩ := aa2
   have uB := Pa 0 _ rfl
   rw [Nat.add_zero, show ((Kd.slice 3 (Kd.int .i64))).sz = 1 from rfl, Nat.mul_one] at uB
   replace uB := Option.some.inj (uB.symm.trans UW)
   rw [uB] at Ch
   have kv := Aside0.mk (show Kd.R (Kd.int .i64) 3 _ _ _ _ (aJ ki kJ) from Ch)
   clear uB Ch
   clear Pa aa1
   have kQ := Aside0.mk K5
   have yE := Aside0.mk K4
   clear K5 K4
   replace UT := eq_true UT
   replace UU := eq_true UU
   have atJ := vu.out
   have atK := vv.out
   have an6 := cG fH.out
   have an7 := cR fH.out
   have an8 := aH fH.out 0
   have an9 := aH fH.out 1
   go_upto_region 6 with (first | (go_at_call 66; (with_reducible refine (aV.calls k1 eI _ _ aG _ _ (aJ ki kJ) gN _ ?aT ?aU ?ao ?ar A20.out).mono ?_); (case aT => exact cB bx HB); (case aU => exact cE.out); (case ao => exact fy kQ.out); (case ar => exact yE.out); rintro e Pb ⟨v404, rfl, cC, hb⟩; replace mA := am (Kd.jI (gP mA.out) (Kd.bf cC) hb); have uC := am (Kd.cO (Kd.H9 (Kd.kT (Kd.kT cC (Kd.iH (ci dZ.out))) (Kd.iH (ci kv.out))) (g := i_) (o := .cells #[.int .i64 a2] 3 (0, 0)) (ct gZ.out)) (aC (mb HB.out))); replace dZ := am (Kd.gV (ci dZ.out) (Kd.bf cC) hb); replace kv := am (Kd.gV (ci kv.out) (Kd.bf cC) hb); replace fH := kS fH hb; replace gZ := kS gZ hb; replace kQ := am (Kd.bh (fy kQ.out) hb); replace HB := bS HB hb; (try clear hb cC)) | ((with_reducible refine ah (N := 11) rfl ?_); refine bE 11 #[.slice none 0 0] 40 ?_; intro ia hg w25 bO hb; replace dZ := am (Kd.b6 (ci dZ.out) hb); replace mA := am (Kd.dm (Kd.tn (gP mA.out) ia (Nat.le_of_eq hg.symm)) hb); replace kv := am (Kd.b6 (ci kv.out) hb); replace uC := am (Kd.b6 (ci uC.out) hb); replace kQ := am (Kd.bh (fy kQ.out) hb); have jZ := am (bO); have ahA := gW HB hg; have atL := ahA; replace HB := bS HB hb; have rr := am ((by rw [hg]; exact Nat.ne_of_lt (d_ (g := pB) (o := .cells #[.int .i64 eI, .slice ae aG.length a8] 77 (0, 0)) (ct fH.out)) : pB ≠ ia)); have B6 := am ((by rw [hg]; exact Nat.ne_of_gt (d_ (g := pB) (o := .cells #[.int .i64 eI, .slice ae aG.length a8] 77 (0, 0)) (ct fH.out)) : ia ≠ pB)); replace fH := kS fH hb; have ru := am ((by rw [hg]; exact Nat.ne_of_lt (d_ (g := i_) (o := .cells #[.int .i64 a2] 3 (0, 0)) (ct gZ.out)) : i_ ≠ ia)); have B7 := am ((by rw [hg]; exact Nat.ne_of_gt (d_ (g := i_) (o := .cells #[.int .i64 a2] 3 (0, 0)) (ct gZ.out)) : ia ≠ i_)); replace gZ := kS gZ hb; clear hb bO hg; obtain ⟨j8, jS, Ci⟩ := Kd.cH uC.out; subst Ci; have atM := B6.out; have atN := rr.out; have ag9 := B7.out; have ag_ := ru.out; have UA := cG jZ.out; have UB := aH jZ.out 0))
   (try simp only [Act.put, List.setIfInBounds_toArray, List.set_cons_zero, List.set_cons_succ])
   go_cut [36] (fun v36 wc => ∃ (kq : Nat) (Cj : Bool), v36 = .bool Cj ∧ Aside0 (aN.j1 kq l1 sa ki (ki.length : Int) kJ Cj eI aG a2 gN = some (r1, r2)) ∧ Aside0 (kq ≤ k1) ∧ Aside0 (Kd.R (Kd.int .i64) 3 wc w.heap.size (fun k_ => some k_ ≠ ((.slice j8 gN.length jS) : Value).ownBlock ∧ k_ ≠ i_) v397 sa) ∧ Aside0 (Kd.S (Kd.slice 3 (Kd.int .i64)) 40 wc w.heap.size (fun k_ => some k_ ≠ (v397 : Value).ownBlock ∧ some k_ ≠ ((.slice j8 gN.length jS) : Value).ownBlock ∧ k_ ≠ i_ ∧ k_ ≠ ia) (.slice (some YA) ki.length nr) ki) ∧ Aside0 (Kd.R (Kd.int .i64) 3 wc w.heap.size (fun k_ => some k_ ≠ (v397 : Value).ownBlock ∧ k_ ≠ i_) (.slice j8 gN.length jS) gN) ∧ Aside0 (wc.heap[pB]? = some (.cells #[.int .i64 eI, (.slice ae aG.length a8)] 77 (0, 0))) ∧ Aside0 (wc.heap[i_]? = some (.cells #[.int .i64 a2] 3 (0, 0))) ∧ Aside0 (wc.heap[ia]? = some (.cells #[(.slice j8 gN.length jS)] 40 (0, 0))) ∧ Aside0 (Kd.C (Kd.int .i64) wc Hr (aJ ki kJ).length (aJ ki kJ)) ∧ Aside0 (Below w.heap.size w wc))
   case first =>
    have H := aaZ.out
    clear aaZ
    replace H := bZ H; obtain ⟨P8, A30, H⟩ := H
    by_cases Ov : P8 = true
    ·subst Ov
     replace H := sY H
     have H' := Aside0.mk H
     clear H
     go_wp2_with (first | (go_at_call 88; (with_reducible refine (a7.calls k1 _ _ (aJ ki kJ) _ _ l1 true _ ?aT ?aU ?ao ?ar A30.out).mono ?_); (case aT => repeat (first | exact ((Kd.aq (by (with_reducible repeat (first | apply Kd.ff | apply Kd.fg | apply Kd.gu)); exact (Kd.bD (Kd.kI (p := ⟨ia, 0, none⟩) (Kd.dL kv.out jZ.out (by decide)) (fun _ hk => hk.2) (.slice j8 gN.length jS)) (fun _ h_ => h_.1)))).2.2) | (with_reducible refine Kd.CW ?_ _) | (with_reducible refine Kd.xv ?_ _) | (with_reducible refine Kd.CX ?_))); (case aU => exact yE.out); (case ao => exact Kd.bh lz.out (mb HB.out)); (case ar => exact Ag.out); rintro e w' ⟨rfl, ⟨nd, rfl⟩⟩; (try exact dD)))
     go_meet
     case rel => exact ⟨_, (true), dM, H', ⟨by have := dP.out; first | omega | exact Nat.le_refl _⟩, ⟨by (with_reducible repeat (first | apply Kd.ff | apply Kd.fg | apply Kd.gu)); exact Kd.bD (Kd.kI (p := ⟨ia, 0, none⟩) (Kd.dL dZ.out jZ.out (by decide)) (fun _ hk => hk.2) (.slice j8 gN.length jS)) (fun _ hk => ⟨hk.1.2, hk.1.1⟩)⟩, ⟨by (with_reducible repeat (first | apply Kd.iS | apply Kd.iT | apply Kd.gw)); exact Kd.cJ (Kd.jJ (p := ⟨ia, 0, none⟩) (Kd.cJ mA.out (fun k_ hk => (⟨hk, hk.2⟩ : _ ∧ k_ ≠ ia))) (fun _ hk => hk.2) (.slice j8 gN.length jS)) (fun _ hk => ⟨hk.1.1.1.1, ⟨hk.1.1.2, ⟨hk.1.1.1.2, hk.1.2⟩⟩⟩)⟩, ⟨by (with_reducible repeat (first | apply Kd.ff | apply Kd.fg | apply Kd.gu)); exact Kd.bD (Kd.kI (p := ⟨ia, 0, none⟩) (Kd.dL uC.out jZ.out (by decide)) (fun _ hk => hk.2) (.slice j8 gN.length jS)) (fun _ hk => ⟨hk.1.1.1.2, hk.1.2⟩)⟩, ⟨by (with_reducible repeat (first | refine ba ?_ _ | refine az ?_ | refine b_ ?_ _)); refine gi ?_ rr.out _; exact ct fH.out⟩, ⟨by (with_reducible repeat (first | refine ba ?_ _ | refine az ?_ | refine b_ ?_ _)); refine gi ?_ ru.out _; exact ct gZ.out⟩, ⟨by (with_reducible repeat (first | refine ba ?_ _ | refine az ?_ | refine b_ ?_ _)); refine dS (cs := #[.slice none 0 0]) ?_ 0 _ rfl; exact ct jZ.out⟩, ⟨(Kd.aq (by (with_reducible repeat (first | apply Kd.ff | apply Kd.fg | apply Kd.gu)); exact (Kd.bD (Kd.kI (p := ⟨ia, 0, none⟩) (Kd.dL kv.out jZ.out (by decide)) (fun _ hk => hk.2) (.slice j8 gN.length jS)) (fun _ h_ => h_.1)))).2.2⟩, ⟨mb HB.out⟩⟩
    replace Ov := Bool.eq_false_iff.mpr Ov
    subst Ov
    replace H := sZ H
    replace H := bZ H; obtain ⟨NR, A32, H⟩ := H
    have H' := Aside0.mk H
    clear H
    go_wp2_with (first | (go_at_call 88; (with_reducible refine (a7.calls k1 _ _ (aJ ki kJ) _ _ l1 false _ ?aT ?aU ?ao ?ar A30.out).mono ?_); (case aT => repeat (first | exact ((Kd.aq (by (with_reducible repeat (first | apply Kd.ff | apply Kd.fg | apply Kd.gu)); exact (Kd.bD (Kd.kI (p := ⟨ia, 0, none⟩) (Kd.dL kv.out jZ.out (by decide)) (fun _ hk => hk.2) (.slice j8 gN.length jS)) (fun _ h_ => h_.1)))).2.2) | (with_reducible refine Kd.CW ?_ _) | (with_reducible refine Kd.xv ?_ _) | (with_reducible refine Kd.CX ?_))); (case aU => exact yE.out); (case ao => exact Kd.bh lz.out (mb HB.out)); (case ar => exact Ag.out); rintro e w' ⟨rfl, ⟨nd, rfl⟩⟩; (try exact dD); obtain ⟨apX, aa3, UX⟩ := Kd.cH dZ.out; subst UX) | (go_at_call 149; (with_reducible refine (fK.calls k1 _ _ sa ia j8 jS gN NR _ ?aT ?aU ?ao ?ar ?gy A32.out).mono ?_); (case aT => refine (Kd.aq (e := 3) (base := w.heap.size) (ok := fun k_ => (k_ ≠ i_ ∧ some k_ ≠ (.slice j8 gN.length jS : Value).ownBlock)) (n := sa.length) (c := aa3) ?_).2.2; exact (by (with_reducible repeat (first | apply Kd.ff | apply Kd.fg | apply Kd.gu)); exact (Kd.bD (Kd.kI (p := ⟨ia, 0, none⟩) (Kd.dL dZ.out jZ.out (by decide)) (fun _ hk => hk.2) (.slice j8 gN.length jS)) (fun _ h_ => h_.1)))); (case aU => exact (Kd.aq dZ.out).2.1); (case ao => exact (aQ (g := ia) (cs := #[.slice j8 gN.length jS]) (t := 40) (by (with_reducible repeat (first | refine ba ?_ _ | refine az ?_ | refine b_ ?_ _)); refine dS (cs := #[.slice none 0 0]) ?_ 0 _ rfl; exact ct jZ.out) 0).trans rfl); (case ar => refine (Kd.aq (e := 3) (base := w.heap.size) (ok := fun k_ => (((True ∧ some k_ ≠ (.slice apX sa.length aa3 : Value).ownBlock) ∧ some k_ ≠ (.slice Hr (aJ ki kJ).length aa0 : Value).ownBlock) ∧ k_ ≠ i_)) (n := gN.length) (c := jS) ?_).2.2; exact (by (with_reducible repeat (first | apply Kd.ff | apply Kd.fg | apply Kd.gu)); exact (Kd.bD (Kd.kI (p := ⟨ia, 0, none⟩) (Kd.dL uC.out jZ.out (by decide)) (fun _ hk => hk.2) (.slice j8 gN.length jS)) (fun _ h_ => h_.1)))); (case gy => exact (Kd.aq uC.out).2.1); rintro e w34 ⟨rfl, hb⟩; replace dZ := am (Kd.b6 (by (with_reducible repeat (first | apply Kd.ff | apply Kd.fg | apply Kd.gu)); exact (Kd.bD (Kd.kI (p := ⟨ia, 0, none⟩) (Kd.dL dZ.out jZ.out (by decide)) (fun _ hk => hk.2) (.slice j8 gN.length jS)) (fun _ h_ => h_.1))) hb); replace mA := am (Kd.dm (by (with_reducible repeat (first | apply Kd.iS | apply Kd.iT | apply Kd.gw)); exact (Kd.cJ (Kd.jJ (p := ⟨ia, 0, none⟩) (Kd.cJ mA.out (fun k_ hk => (⟨hk, hk.2⟩ : _ ∧ k_ ≠ ia))) (fun _ hk => hk.2) (.slice j8 gN.length jS)) (fun _ h_ => h_.1))) hb); replace uC := am (Kd.b6 (by (with_reducible repeat (first | apply Kd.ff | apply Kd.fg | apply Kd.gu)); exact (Kd.bD (Kd.kI (p := ⟨ia, 0, none⟩) (Kd.dL uC.out jZ.out (by decide)) (fun _ hk => hk.2) (.slice j8 gN.length jS)) (fun _ h_ => h_.1))) hb); replace fH := am (bR (g := pB) (o := .cells #[.int .i64 eI, .slice ae aG.length a8] 77 (0, 0)) (by (with_reducible repeat (first | refine ba ?_ _ | refine az ?_ | refine b_ ?_ _)); refine gi ?_ rr.out _; exact ct fH.out) hb); replace gZ := am (bR (g := i_) (o := .cells #[.int .i64 a2] 3 (0, 0)) (by (with_reducible repeat (first | refine ba ?_ _ | refine az ?_ | refine b_ ?_ _)); refine gi ?_ ru.out _; exact ct gZ.out) hb); replace kQ := am (Kd.bh ((Kd.aq (by (with_reducible repeat (first | apply Kd.ff | apply Kd.fg | apply Kd.gu)); exact (Kd.bD (Kd.kI (p := ⟨ia, 0, none⟩) (Kd.dL kv.out jZ.out (by decide)) (fun _ hk => hk.2) (.slice j8 gN.length jS)) (fun _ h_ => h_.1)))).2.2) hb); replace kv := am (Kd.b6 (by (with_reducible repeat (first | apply Kd.ff | apply Kd.fg | apply Kd.gu)); exact (Kd.bD (Kd.kI (p := ⟨ia, 0, none⟩) (Kd.dL kv.out jZ.out (by decide)) (fun _ hk => hk.2) (.slice j8 gN.length jS)) (fun _ h_ => h_.1))) hb); replace jZ := am (bR (g := ia) (o := .cells #[.slice j8 gN.length jS] 40 (0, 0)) (by (with_reducible repeat (first | refine ba ?_ _ | refine az ?_ | refine b_ ?_ _)); refine dS (cs := #[.slice none 0 0]) ?_ 0 _ rfl; exact ct jZ.out) hb); replace HB := bS HB hb; (try clear hb)))
    go_meet
    case rel => exact ⟨_, (NR), dM, H', ⟨by have := dP.out; first | omega | exact Nat.le_refl _⟩, ⟨Kd.bD (ci dZ.out) (fun _ hk => ⟨hk.2, hk.1⟩)⟩, ⟨Kd.cJ (gP mA.out) (fun _ hk => ⟨hk.1.1.1, ⟨hk.1.2, ⟨hk.1.1.2, hk.2⟩⟩⟩)⟩, ⟨Kd.bD (ci uC.out) (fun _ hk => ⟨hk.1.1.2, hk.2⟩)⟩, ⟨ct fH.out⟩, ⟨ct gZ.out⟩, ⟨ct jZ.out⟩, ⟨fy kQ.out⟩, ⟨mb HB.out⟩⟩
   case rest =>
    clear aaZ
    obtain ⟨kq, Cj, rfl, HA, NT, dZ, mA, rv, fH, gZ, jZ, kQ, HB⟩ := hcut
    cases kq with
    | zero => exact absurd HA.out (by simp [aN.j1])
    | succ aa4 =>
     have H := HA.out
     clear HA
     simp only [aN.j1] at H
     by_cases K6 : Cj = true
     ·subst K6
      replace H := sY H
      have H' := Aside0.mk H
      clear H
      go_wp2
      go_roundg aa4
      case measure => have := dP.out; have := NT.out; omega
      case rel => exact ⟨(wrap64 (kJ + 1)), dM, H', ⟨by have := dP.out; have := NT.out; omega⟩, ⟨Kd.bD (ci dZ.out) (fun _ hk => hk.2)⟩, ⟨Kd.cJ (gP mA.out) (fun _ hk => ⟨hk.1, hk.2.2.1⟩)⟩, ⟨ct fH.out⟩, ⟨ct gZ.out⟩, ⟨mb HB.out⟩⟩
     replace K6 := Bool.eq_false_iff.mpr K6
     subst K6
     replace H := sZ H
     have H' := Aside0.mk H
     clear H
     have ahb := B6.out
     have ahc := rr.out
     have atO := B7.out
     have atP := ru.out
     have UC := cG jZ.out
     have UD := aH jZ.out 0
     go_wp2
     go_loopg [39] aa4 (fun kq v39 w' => ∃ (pC : Int), v39 = .int .i64 pC ∧ Aside0 (aN.l1 kq l1 sa ki (ki.length : Int) kJ gN (gN.length : Int) pC eI aG a2 = some (r1, r2)) ∧ Aside0 (kq ≤ aa4) ∧ Aside0 (Kd.R (Kd.int .i64) 3 w' w.heap.size (fun k_ => some k_ ≠ ((.slice j8 gN.length jS) : Value).ownBlock ∧ some k_ ≠ ((.slice j8 gN.length jS) : Value).ownBlock ∧ k_ ≠ i_) v397 sa) ∧ Aside0 (Kd.S (Kd.slice 3 (Kd.int .i64)) 40 w' w.heap.size (fun k_ => some k_ ≠ (v397 : Value).ownBlock ∧ some k_ ≠ ((.slice j8 gN.length jS) : Value).ownBlock ∧ some k_ ≠ ((.slice j8 gN.length jS) : Value).ownBlock ∧ k_ ≠ i_ ∧ k_ ≠ ia) (.slice (some YA) ki.length nr) ki) ∧ Aside0 (Kd.R (Kd.int .i64) 3 w' w.heap.size (fun k_ => some k_ ≠ (v397 : Value).ownBlock ∧ k_ ≠ i_) (.slice j8 gN.length jS) gN) ∧ Aside0 (Kd.R (Kd.int .i64) 3 w' w.heap.size (fun k_ => some k_ ≠ (v397 : Value).ownBlock ∧ k_ ≠ i_) (.slice j8 gN.length jS) gN) ∧ Aside0 (w'.heap[pB]? = some (.cells #[.int .i64 eI, (.slice ae aG.length a8)] 77 (0, 0))) ∧ Aside0 (w'.heap[i_]? = some (.cells #[.int .i64 a2] 3 (0, 0))) ∧ Aside0 (w'.heap[ia]? = some (.cells #[(.slice j8 gN.length jS)] 40 (0, 0))) ∧ Aside0 (Kd.C (Kd.int .i64) w' Hr (aJ ki kJ).length (aJ ki kJ)) ∧ Aside0 (Below w.heap.size w w'))
     case atStart => exact ⟨(0), dM, H', ⟨Nat.le_refl _⟩, ⟨Kd.bD (ci dZ.out) (fun _ hk => ⟨hk.1, ⟨hk.1, hk.2⟩⟩)⟩, ⟨Kd.cJ (gP mA.out) (fun _ hk => ⟨hk.1, ⟨hk.2.1, ⟨hk.2.1, ⟨hk.2.2.1, hk.2.2.2⟩⟩⟩⟩)⟩, ⟨ci rv.out⟩, ⟨ci rv.out⟩, ⟨ct fH.out⟩, ⟨ct gZ.out⟩, ⟨ct jZ.out⟩, ⟨fy kQ.out⟩, ⟨mb HB.out⟩⟩
     case round =>
      clear H'
      obtain ⟨pC, rfl, HA, nQ, dZ, mA, Pc, rv, fH, gZ, jZ, kQ, HB⟩ := hrel
      cases gk with
      | zero => exact absurd HA.out (by simp [aN.l1])
      | succ k3 =>
       have H := HA.out
       clear HA
       simp only [aN.l1] at H
       by_cases c39 : pC < (gN.length : Int)
       rotate_left
       ·rw [if_neg c39] at H
        have YB := decide_eq_false c39
        clear c39
        have H' := Aside0.mk H
        clear H
        go_wp2
        go_roundg k3
        case measure => have := dP.out; have := NT.out; have := nQ.out; omega
        case rel => exact ⟨(wrap64 (kJ + 1)), dM, H', ⟨by have := dP.out; have := NT.out; have := nQ.out; omega⟩, ⟨Kd.bD (ci dZ.out) (fun _ hk => hk.2.2)⟩, ⟨Kd.cJ (gP mA.out) (fun _ hk => ⟨hk.1, hk.2.2.2.1⟩)⟩, ⟨ct fH.out⟩, ⟨ct gZ.out⟩, ⟨mb HB.out⟩⟩
       rw [if_pos c39] at H
       have YB := decide_eq_true c39
       clear c39
       replace H := fW H; obtain ⟨Pd, H⟩ := H
       replace H := fW H; obtain ⟨ahB, H⟩ := H
       replace H := bZ H; obtain ⟨P9, A42, H⟩ := H
       by_cases c43 : P9 = true
       rotate_left
       ·replace c43 := Bool.eq_false_iff.mpr c43
        subst c43
        replace H := sZ H
        simp only [Option.some.injEq, Prod.mk.injEq] at H
        obtain ⟨rfl, rfl⟩ := H
        have Hs : 0 ≤ (pC : Int) := bX
        have Ht : pC < (gN.length : Int) := bX
        obtain ⟨ahC, aa5, UY⟩ := Kd.bi (Kd.aq Pc.out).2.2 pC Hs Ht
        cases aa5
        replace Hs := eq_true Hs
        replace Ht := eq_true Ht
        obtain ⟨nM, jB, Hd⟩ := Kd.cH dZ.out
        subst Hd
        go_wp2_with (first | (go_at_call 79; (with_reducible refine (bT.calls k3 _ _ sa (rd gN pC) false _ ?aT ?aU A42.out).mono ?_); (case aT => exact fy (Kd.aq dZ.out).2.2); (case aU => exact (Kd.aq dZ.out).2.1); rintro e w' ⟨rfl, ⟨nd, rfl⟩⟩; (try exact dD)))
        go_ret2
        exact ⟨_, jC, (Kd.jo yE.out (Kd.rN (Kd.UK (Kd.ku .i64) (fy kQ.out)) (fun _ _ => trivial))), mb HB.out⟩
       subst c43
       replace H := sY H
       have H' := Aside0.mk H
       clear H
       have Hs : 0 ≤ (pC : Int) := bX
       have Ht : pC < (gN.length : Int) := bX
       obtain ⟨ahC, aa5, UY⟩ := Kd.bi (Kd.aq Pc.out).2.2 pC Hs Ht
       cases aa5
       replace Hs := eq_true Hs
       replace Ht := eq_true Ht
       obtain ⟨ahD, ahE, aa6⟩ := Kd.cH dZ.out
       subst aa6
       go_wp2_with (first | (go_at_call 79; (with_reducible refine (bT.calls k3 _ _ sa (rd gN pC) true _ ?aT ?aU A42.out).mono ?_); (case aT => exact fy (Kd.aq dZ.out).2.2); (case aU => exact (Kd.aq dZ.out).2.1); rintro e w' ⟨rfl, ⟨nd, rfl⟩⟩; (try exact dD)))
       go_roundg k3
       case measure => have := dP.out; have := NT.out; have := nQ.out; omega
       case rel => exact ⟨(wrap64 (pC + 1)), dM, H', ⟨by have := dP.out; have := NT.out; have := nQ.out; omega⟩, ⟨ci dZ.out⟩, ⟨gP mA.out⟩, ⟨ci Pc.out⟩, ⟨ci rv.out⟩, ⟨ct fH.out⟩, ⟨ct gZ.out⟩, ⟨ct jZ.out⟩, ⟨fy kQ.out⟩, ⟨mb HB.out⟩⟩
end Go.Proofs.YtggiicplcglalaaGreat.All
end
