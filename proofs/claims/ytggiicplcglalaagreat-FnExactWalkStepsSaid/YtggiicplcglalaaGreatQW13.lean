/- Part of the proof that FnExactWalkSteps answers true. -/
import Derived.Test.YtggiicplcglalaaGreatQW12
section
namespace Go.Proofs.YtggiicplcglalaaGreat.All
open Go.RowKit YtggiicplcglalaaGreatW.PrintWords YtggiicplcglalaaGreatW.PrintLast YtggiicplcglalaaGreatW.PrintMore
attribute [local go_sem] max2_int min2_int max_two min_two max_three min_three max_four min_four
set_option linter.unusedVariables false
set_option linter.unusedSimpArgs false
set_option maxHeartbeats 8000000
set_option maxRecDepth 100000
def cA.f (k : Nat) (aD : List (List Int)) (aG : List (List Int)) : Option (Bool) := (bI.f k aD).bind fun QA => (if QA = true then ((bI.f k aG).bind fun QB => (if QB = true then (if (aD.length : Int) = (aG.length : Int) then (if 0 < (aD.length : Int) then (if 0 < (aG.length : Int) then (some (((aJ aD 0).length : Int) == ((aJ aG 0).length : Int))) else (none)) else (none)) else (some false)) else (some false))) else (some false))
theorem cA.mono : ∀ a0 a1 k, bB (cA.f k a0 a1) (cA.f (k + 1) a0 a1) := by
 intro a0 a1 k
 unfold cA.f
 repeat' first
   | (with_reducible exact bI.mono ..)
   | (with_reducible exact bB.refl _)
   | (with_reducible exact bB.none _)
   | (with_reducible refine bB.ite ?_ ?_)
   | (with_reducible refine bB.bind ?_ (fun _ => ?_))
def cA.T1 : Bool × List (List Nat × List Nat) := (true, [([], []), ([0], [0]), ([1], [1]), ([2, 2], [2]), ([3], [3]), ([4, 3], [3, 4]), ([5, 3, 3], [3, 5]), ([3, 6], [3, 6]), ([7, 6], [7]), ([8], [8]), ([9, 8], [8, 9]), ([10, 8], [8, 10]), ([8], [8]), ([12, 8], [8, 12]), ([13, 8], [8, 13]), ([11, 14, 8], [8, 11, 14]), ([8, 15], [8, 15]), ([16, 8], [16]), ([17], [17]), ([18, 17], [17, 18]), ([19, 17], [17, 19]), ([20, 17], [17, 20]), ([21, 17], [17, 21]), ([17], [17]), ([23, 17], [17, 23]), ([24, 17], [17, 24]), ([25, 17], [17, 25]), ([26, 17], [17, 26]), ([22, 27, 17], [17, 22, 27]), ([17, 28], [17, 28]), ([29, 17, 0, 1, 2, 3, 4, 5, 6, 7, 8, 9, 10, 11, 12, 13, 14, 15, 16, 17, 18, 19, 20, 21, 22, 23, 24, 25, 26, 27, 28, 29], [29])])
def cA.B1 : List Nat := [0, 1, 3, 7, 15, 31, 63, 127, 255, 511, 1023, 2047, 511, 4607, 12799, 32767, 65535, 131071, 262143, 524287, 1048575, 2097151, 4194303, 262143, 8650751, 25427967, 58982399, 126091263, 268435455, 536870911, 1073741823]
theorem cA.mc : fh .any (opsOf Tryz.f54 1) = cA.T1 := by kernel_rfl
theorem cA.jY : fG cA.T1.2 cA.B1 = true := by kernel_rfl
theorem cA.calls (k : Nat) (ay : Option Addr) (ap : Nat) (aD : List (List Int)) (ae : Option Addr) (a8 : Nat) (aG : List (List Int)) (r : Bool) (w : World) (db : Kd.C (Kd.slice 3 (Kd.int .i64)) w ay aD.length aD) (dc : aD.length ≤ ap) (dH : Kd.C (Kd.slice 3 (Kd.int .i64)) w ae aG.length aG) (dI : aG.length ≤ a8) (h : cA.f k aD aG = some r) :
  Calls Tryz.prog 54 #[.agg #[.slice ay aD.length ap, .slice ae aG.length a8]] w fun e w' => e = .returned (.bool r) ∧ Below w.heap.size w w' := by
 have rD := Tryz.underlying28
 have bl := Aside0.mk db
 have bz := Aside0.mk dc
 clear db dc
 have bx := Aside0.mk dH
 have cE := Aside0.mk dI
 clear dH dI
 have HB := Aside0.mk (Below.refl w.heap.size w)
 have H : ((bI.f k aD).bind fun QA => (if QA = true then ((bI.f k aG).bind fun QB => (if QB = true then (if (aD.length : Int) = (aG.length : Int) then (if 0 < (aD.length : Int) then (if 0 < (aG.length : Int) then (some (((aJ aD 0).length : Int) == ((aJ aG 0).length : Int))) else (none)) else (none)) else (some false)) else (some false))) else (some false))) = some r := h
 clear h
 replace H := bZ H; obtain ⟨QA, A2, H⟩ := H
 by_cases c3 : QA = true
 rotate_left
 ·replace c3 := Bool.eq_false_iff.mpr c3
  subst c3
  replace H := sZ H
  obtain rfl := Option.some.inj H
  go_enter Tryz.func54, Tryz.ntmps54
  try go_wp2_with (first | ((with_reducible refine ah (N := 1) rfl ?_); (try (refine ga (by rfl) ?_; dsimp only)); refine bE 1 #[.slice ay aD.length ap, .slice ae aG.length a8] 28 ?_; intro rQ hg NQ bO hb; have fi := am (bO); have zG := gW HB hg; have QC := zG; replace HB := bS HB hb; clear hb bO hg))
  replace fi := am (az fi.out)
  replace HB := am (bd HB.out)
  refine fA (n := 31) (S := fun w' => w'.cell? ⟨rQ, 0, none⟩ = some (.slice ay aD.length ap) ∧ w'.cell? ⟨rQ, 1, none⟩ = some (.slice ae aG.length a8)) (ds := []) (Array.replicate 31 false) (by kernel_rfl) rfl rfl ⟨(aQ fi.out 0).trans rfl, (aQ fi.out 1).trans rfl⟩ (fun ai => ?_); refine cv cA.mc cA.jY (fun ak fz => ?_)
  generalize NQ.drew = NO at fi HB ai ⊢
  refine pY 0 3 ak ?_
  refine tY 1 4 ak fz ai ?_
  refine oY 2 5 ak (fun K hK => ?_)
  refine gY Tryz.func108 #[.slice ay aD.length ap] ?_
  with_reducible refine (bI.calls k _ _ aD false _ ?aT ?aU A2.out).mono ?_
  (case aT => exact cB bl HB)
  (case aU => exact bz.out)
  rintro e w' ⟨rfl, ⟨nd, rfl⟩⟩
  refine ⟨_, rfl, ?_⟩
  refine hK.out _ _ ⟨(aQ fi.out 0).trans rfl, (aQ fi.out 1).trans rfl⟩ (fun ai => ?_)
  clear hK K
  refine nY 5 ?_
  refine pY 3 6 ak ?_
  refine uY 4 7 ak ?_; refine uY 5 8 ak ?_
  refine uY 6 9 ak ?_
  refine pY 7 10 ak ?_
  refine pY 8 11 ak ?_
  refine uY 9 12 ak ?_; refine uY 10 13 ak ?_
  refine uY 11 14 ak ?_; refine uY 12 15 ak ?_
  refine uY 13 16 ak ?_; refine uY 14 17 ak ?_
  refine uY 15 18 ak ?_
  refine pY 16 19 ak ?_
  refine pY 17 20 ak ?_
  refine uY 18 21 ak ?_; refine uY 19 22 ak ?_
  refine uY 20 23 ak ?_; refine uY 21 24 ak ?_
  refine uY 22 25 ak ?_; refine uY 23 26 ak ?_
  refine uY 24 27 ak ?_; refine uY 25 28 ak ?_
  refine uY 26 29 ak ?_; refine uY 27 30 ak ?_
  refine uY 28 31 ak ?_
  refine pY 29 32 ak ?_
  refine pY 30 2 ak ?_
  refine dY ak ?_
  try go_wp2
  go_ret
  exact ⟨jC, mb HB.out⟩
 subst c3
 replace H := sY H
 replace H := bZ H; obtain ⟨QB, A4, H⟩ := H
 by_cases c5 : QB = true
 rotate_left
 ·replace c5 := Bool.eq_false_iff.mpr c5
  subst c5
  replace H := sZ H
  obtain rfl := Option.some.inj H
  go_enter Tryz.func54, Tryz.ntmps54
  try go_wp2_with (first | ((with_reducible refine ah (N := 1) rfl ?_); (try (refine ga (by rfl) ?_; dsimp only)); refine bE 1 #[.slice ay aD.length ap, .slice ae aG.length a8] 28 ?_; intro rQ hg E2 bO hb; have fi := am (bO); have zG := gW HB hg; have QC := zG; replace HB := bS HB hb; clear hb bO hg))
  replace fi := am (az fi.out)
  replace HB := am (bd HB.out)
  refine fA (n := 31) (S := fun w' => w'.cell? ⟨rQ, 0, none⟩ = some (.slice ay aD.length ap) ∧ w'.cell? ⟨rQ, 1, none⟩ = some (.slice ae aG.length a8)) (ds := []) (Array.replicate 31 false) (by kernel_rfl) rfl rfl ⟨(aQ fi.out 0).trans rfl, (aQ fi.out 1).trans rfl⟩ (fun ai => ?_); refine cv cA.mc cA.jY (fun ak fz => ?_)
  generalize E2.drew = w14 at fi HB ai ⊢
  refine pY 0 3 ak ?_
  refine tY 1 4 ak fz ai ?_
  refine oY 2 5 ak (fun K hK => ?_)
  refine gY Tryz.func108 #[.slice ay aD.length ap] ?_
  with_reducible refine (bI.calls k _ _ aD true _ ?aT ?aU A2.out).mono ?_
  (case aT => exact cB bl HB)
  (case aU => exact bz.out)
  rintro e w' ⟨rfl, ⟨nd, rfl⟩⟩
  refine ⟨_, rfl, ?_⟩
  refine hK.out _ _ ⟨(aQ fi.out 0).trans rfl, (aQ fi.out 1).trans rfl⟩ (fun ai => ?_)
  clear hK K
  refine nY 5 ?_
  refine pY 3 6 ak ?_
  refine pY 4 7 ak ?_
  refine tY 5 8 ak fz ai ?_
  refine oY 6 9 ak (fun K hK => ?_)
  refine gY Tryz.func108 #[.slice ae aG.length a8] ?_
  with_reducible refine (bI.calls k _ _ aG false _ ?aT ?aU A4.out).mono ?_
  (case aT => exact fy (Kd.bh bx.out (mb HB.out)))
  (case aU => exact cE.out)
  rintro e w' ⟨rfl, ⟨nd, rfl⟩⟩
  refine ⟨_, rfl, ?_⟩
  refine hK.out _ _ ⟨(aQ fi.out 0).trans rfl, (aQ fi.out 1).trans rfl⟩ (fun ai => ?_)
  clear hK K
  refine nY 9 ?_
  refine pY 7 10 ak ?_
  refine pY 8 11 ak ?_
  refine uY 9 12 ak ?_; refine uY 10 13 ak ?_
  refine uY 11 14 ak ?_; refine uY 12 15 ak ?_
  refine uY 13 16 ak ?_; refine uY 14 17 ak ?_
  refine uY 15 18 ak ?_
  refine pY 16 19 ak ?_
  refine pY 17 20 ak ?_
  refine uY 18 21 ak ?_; refine uY 19 22 ak ?_
  refine uY 20 23 ak ?_; refine uY 21 24 ak ?_
  refine uY 22 25 ak ?_; refine uY 23 26 ak ?_
  refine uY 24 27 ak ?_; refine uY 25 28 ak ?_
  refine uY 26 29 ak ?_; refine uY 27 30 ak ?_
  refine uY 28 31 ak ?_
  refine pY 29 32 ak ?_
  refine pY 30 2 ak ?_
  refine dY ak ?_
  try go_wp2
  go_ret
  exact ⟨jC, mb HB.out⟩
 subst c5
 replace H := sY H
 by_cases c6 : (aD.length : Int) = (aG.length : Int)
 rotate_left
 ·rw [if_neg c6] at H
  have hU := iQ c6
  have vt := iR c6
  have abl : (aD.length == aG.length) = false := by first | simpa using c6 | (simp at c6 ⊢; omega)
  obtain rfl := Option.some.inj H
  go_enter Tryz.func54, Tryz.ntmps54
  try go_wp2_with (first | ((with_reducible refine ah (N := 1) rfl ?_); (try (refine ga (by rfl) ?_; dsimp only)); refine bE 1 #[.slice ay aD.length ap, .slice ae aG.length a8] 28 ?_; intro rQ hg tu bO hb; have fi := am (bO); have zG := gW HB hg; have QC := zG; replace HB := bS HB hb; clear hb bO hg))
  replace fi := am (az fi.out)
  replace HB := am (bd HB.out)
  refine fA (n := 31) (S := fun w' => w'.cell? ⟨rQ, 0, none⟩ = some (.slice ay aD.length ap) ∧ w'.cell? ⟨rQ, 1, none⟩ = some (.slice ae aG.length a8)) (ds := []) (Array.replicate 31 false) (by kernel_rfl) rfl rfl ⟨(aQ fi.out 0).trans rfl, (aQ fi.out 1).trans rfl⟩ (fun ai => ?_); refine cv cA.mc cA.jY (fun ak fz => ?_)
  generalize tu.drew = Ou at fi HB ai ⊢
  refine pY 0 3 ak ?_
  refine tY 1 4 ak fz ai ?_
  refine oY 2 5 ak (fun K hK => ?_)
  refine gY Tryz.func108 #[.slice ay aD.length ap] ?_
  with_reducible refine (bI.calls k _ _ aD true _ ?aT ?aU A2.out).mono ?_
  (case aT => exact cB bl HB)
  (case aU => exact bz.out)
  rintro e w' ⟨rfl, ⟨nd, rfl⟩⟩
  refine ⟨_, rfl, ?_⟩
  refine hK.out _ _ ⟨(aQ fi.out 0).trans rfl, (aQ fi.out 1).trans rfl⟩ (fun ai => ?_)
  clear hK K
  refine nY 5 ?_
  refine pY 3 6 ak ?_
  refine pY 4 7 ak ?_
  refine tY 5 8 ak fz ai ?_
  refine oY 6 9 ak (fun K hK => ?_)
  refine gY Tryz.func108 #[.slice ae aG.length a8] ?_
  with_reducible refine (bI.calls k _ _ aG true _ ?aT ?aU A4.out).mono ?_
  (case aT => exact fy (Kd.bh bx.out (mb HB.out)))
  (case aU => exact cE.out)
  rintro e w' ⟨rfl, ⟨nd, rfl⟩⟩
  refine ⟨_, rfl, ?_⟩
  refine hK.out _ _ ⟨(aQ fi.out 0).trans rfl, (aQ fi.out 1).trans rfl⟩ (fun ai => ?_)
  clear hK K
  refine nY 9 ?_
  refine pY 7 10 ak ?_
  refine pY 8 11 ak ?_
  refine pY 9 12 ak ?_
  refine pY 12 15 ak ?_
  refine tY 10 13 ak fz ai ?_
  refine pY 11 14 ak ?_
  refine tY 13 16 ak fz ai ?_
  refine pY 14 17 ak ?_
  refine pY 15 18 ak ?_
  refine pY 16 19 ak ?_
  refine pY 17 20 ak ?_
  refine uY 18 21 ak ?_; refine uY 19 22 ak ?_
  refine uY 20 23 ak ?_; refine uY 21 24 ak ?_
  refine uY 22 25 ak ?_; refine uY 23 26 ak ?_
  refine uY 24 27 ak ?_; refine uY 25 28 ak ?_
  refine uY 26 29 ak ?_; refine uY 27 30 ak ?_
  refine uY 28 31 ak ?_
  refine pY 29 32 ak ?_
  refine pY 30 2 ak ?_
  refine dY ak ?_
  try go_wp2
  go_ret
  exact ⟨jC, mb HB.out⟩
 rw [if_pos c6] at H
 have hU := il c6
 have vt := im c6
 have abl : (aD.length == aG.length) = true := by first | simpa using c6 | (simp at c6 ⊢; omega)
 clear c6
 replace H := oo H; obtain ⟨c7, H⟩ := H
 have lO := decide_eq_true c7
 have xf : decide (0 < aD.length) = true := decide_eq_true (by omega)
 clear c7
 replace H := oo H; obtain ⟨c8, H⟩ := H
 have oz := decide_eq_true c8
 have Hy : decide (0 < aG.length) = true := decide_eq_true (by omega)
 clear c8
 obtain rfl := Option.some.inj H
 go_enter Tryz.func54, Tryz.ntmps54
 try go_wp2_with (first | ((with_reducible refine ah (N := 1) rfl ?_); (try (refine ga (by rfl) ?_; dsimp only)); refine bE 1 #[.slice ay aD.length ap, .slice ae aG.length a8] 28 ?_; intro rQ hg w9 bO hb; have fi := am (bO); have zG := gW HB hg; have QC := zG; replace HB := bS HB hb; clear hb bO hg))
 replace fi := am (az fi.out)
 replace HB := am (bd HB.out)
 have abm : 0 ≤ (0 : Int) := (by omega)
 have abn : 0 < (aD.length : Int) := bX
 obtain ⟨QD, abo, abp, ap5, pz, Kh, Ki⟩ := eO bl.out 0 abm abn
 have mj := pz
 (try rw [show ((0 : Int)).toNat = 0 from rfl] at mj)
 (try rw [show 0 * 1 = 0 from rfl] at mj)
 (try rw [Addr.add_zero'] at mj)
 cases ap5
 have atX : (0 < aD.length) = True := eq_true (by omega)
 (try rw [show ((0 : Int)).toNat = 0 from rfl] at pz)
 (try rw [Addr.add_zero'] at pz)
 replace pz := (HB.out.cell (World.block_lt_of_cell? w _ pz)).trans pz
 have U4 := Aside0.mk Ki
 have aoa := Aside0.mk Kh
 clear Ki Kh
 replace abm := eq_true abm
 replace abn := eq_true abn
 have abq : 0 ≤ (0 : Int) := (by omega)
 have abr : 0 < (aG.length : Int) := bX
 obtain ⟨QE, abt, abu, ap6, qA, Kj, Kk⟩ := eO bx.out 0 abq abr
 have ml := qA
 (try rw [show ((0 : Int)).toNat = 0 from rfl] at ml)
 (try rw [show 0 * 1 = 0 from rfl] at ml)
 (try rw [Addr.add_zero'] at ml)
 cases ap6
 have atY : (0 < aG.length) = True := eq_true (by omega)
 (try rw [show ((0 : Int)).toNat = 0 from rfl] at qA)
 (try rw [Addr.add_zero'] at qA)
 replace qA := (HB.out.cell (World.block_lt_of_cell? w _ qA)).trans qA
 have U5 := Aside0.mk Kk
 have aob := Aside0.mk Kj
 clear Kk Kj
 replace abq := eq_true abq
 replace abr := eq_true abr
 refine fA (n := 31) (S := fun w' => w'.cell? ⟨rQ, 0, none⟩ = some (.slice (some QD) aD.length ap) ∧ w'.cell? ⟨rQ, 1, none⟩ = some (.slice (some QE) aG.length a8) ∧ w'.cell? QD = some (.slice abo (aJ aD 0).length abp) ∧ w'.cell? QE = some (.slice abt (aJ aG 0).length abu)) (ds := []) (Array.replicate 31 false) (by kernel_rfl) rfl rfl ⟨(aQ fi.out 0).trans rfl, (aQ fi.out 1).trans rfl, ((HB.out.cell (World.block_lt_of_cell? w _ mj)).trans mj), ((HB.out.cell (World.block_lt_of_cell? w _ ml)).trans ml)⟩ (fun ai => ?_); refine cv cA.mc cA.jY (fun ak fz => ?_)
 generalize w9.drew = BZ at fi HB U4 U5 pz qA ai ⊢
 refine pY 0 3 ak ?_
 refine tY 1 4 ak fz ai ?_
 refine oY 2 5 ak (fun K hK => ?_)
 refine gY Tryz.func108 #[.slice (some QD) aD.length ap] ?_
 with_reducible refine (bI.calls k _ _ aD true _ ?aT ?aU A2.out).mono ?_
 (case aT => exact cB bl HB)
 (case aU => exact bz.out)
 rintro e w' ⟨rfl, ⟨nd, rfl⟩⟩
 refine ⟨_, rfl, ?_⟩
 refine hK.out _ _ ⟨(aQ fi.out 0).trans rfl, (aQ fi.out 1).trans rfl, ((HB.out.cell (World.block_lt_of_cell? w _ mj)).trans mj), ((HB.out.cell (World.block_lt_of_cell? w _ ml)).trans ml)⟩ (fun ai => ?_)
 clear hK K
 refine nY 5 ?_
 refine pY 3 6 ak ?_
 refine pY 4 7 ak ?_
 refine tY 5 8 ak fz ai ?_
 refine oY 6 9 ak (fun K hK => ?_)
 refine gY Tryz.func108 #[.slice (some QE) aG.length a8] ?_
 with_reducible refine (bI.calls k _ _ aG true _ ?aT ?aU A4.out).mono ?_
 (case aT => exact fy (Kd.bh bx.out (mb HB.out)))
 (case aU => exact cE.out)
 rintro e w' ⟨rfl, ⟨nd, rfl⟩⟩
 refine ⟨_, rfl, ?_⟩
 refine hK.out _ _ ⟨(aQ fi.out 0).trans rfl, (aQ fi.out 1).trans rfl, ((HB.out.cell (World.block_lt_of_cell? w _ mj)).trans mj), ((HB.out.cell (World.block_lt_of_cell? w _ ml)).trans ml)⟩ (fun ai => ?_)
 clear hK K
 refine nY 9 ?_
 refine pY 7 10 ak ?_
 refine pY 8 11 ak ?_
 refine pY 9 12 ak ?_
 refine pY 12 15 ak ?_
 refine tY 10 13 ak fz ai ?_
 refine pY 11 14 ak ?_
 refine tY 13 16 ak fz ai ?_
 refine pY 14 17 ak ?_
 refine pY 15 18 ak ?_
 refine pY 16 19 ak ?_
 refine pY 17 20 ak ?_
 refine pY 18 21 ak ?_
 refine pY 23 26 ak ?_
 refine tY 19 22 ak fz ai ?_
 refine pY 20 23 ak ?_
 refine tY 21 24 ak fz ai ?_
 refine pY 22 25 ak ?_
 refine tY 24 27 ak fz ai ?_
 refine pY 25 28 ak ?_
 refine tY 26 29 ak fz ai ?_
 refine pY 27 30 ak ?_
 refine pY 28 31 ak ?_
 refine pY 29 32 ak ?_
 refine pY 30 2 ak ?_
 refine dY ak ?_
 try go_wp2
 go_ret
 exact ⟨jC, mb HB.out⟩
def je.f (a0 : Int) (a1 : Int) : Option (List Int) := if 0 ≤ a0 then (if (a0 : Int).toNat ≤ 35184372088832 then ((some (List.replicate (a0 : Int).toNat 0 : List Int)).bind fun xg => (if 0 ≤ a1 then (if a1 < (xg.length : Int) then (some (xg.set (a1 : Int).toNat 1)) else (none)) else (none))) else (none)) else (none)
theorem je.calls (a0 : Int) (a1 : Int) (r : List Int) (w : World) (h : je.f a0 a1 = some r) :
  Calls Tryz.prog 113 #[.int .i64 a0, .int .i64 a1] w fun e w' => ∃ iE : Value, e = .returned (iE) ∧ Kd.R (Kd.int .i64) 3 w' w.heap.size (fun _ => True) iE r ∧ Below w.heap.size w w' := by
 have HB := Aside0.mk (Below.refl w.heap.size w)
 have H : (if 0 ≤ a0 then (if (a0 : Int).toNat ≤ 35184372088832 then ((some (List.replicate (a0 : Int).toNat 0 : List Int)).bind fun xg => (if 0 ≤ a1 then (if a1 < (xg.length : Int) then (some (xg.set (a1 : Int).toNat 1)) else (none)) else (none))) else (none)) else (none)) = some r := h
 clear h
 by_cases c3 : 0 ≤ a0
 rotate_left
 ·rw [if_neg c3] at H
  exact absurd H (by simp)
 rw [if_pos c3] at H
 have gX := eq_true c3
 have qB := decide_eq_true c3
 clear c3
 replace H := oo H; obtain ⟨c4, H⟩ := H
 have iI := eq_true c4
 have N5 := decide_eq_true c4
 clear c4
 replace H := br (List.replicate (a0 : Int).toNat 0) (fun xg => (if 0 ≤ a1 then (if a1 < (xg.length : Int) then (some (xg.set (a1 : Int).toNat 1)) else (none)) else (none)) = some r) H; obtain ⟨xg, YE, H⟩ := H
 replace H := fW H; obtain ⟨jR, H⟩ := H
 replace H := fW H; obtain ⟨hU, H⟩ := H
 replace H := br (xg.set (a1 : Int).toNat 1) (fun abv => (some abv) = some r) H; obtain ⟨abv, ahN, H⟩ := H
 obtain rfl := Option.some.inj H
 go_enter Tryz.func113, Tryz.ntmps113
 go_wp2_with (first | ((with_reducible refine ah (N := 7) rfl ?_); refine Kd.CY (Kd.int .i64) _ 3 rfl (N := 7) rfl 40 _ _ rfl a0 rfl rfl Tryz.underlying40 (.int .i64 0) 8 eT rfl (by decide) (by omega) 0 (ok := fun _ => True) (okp := fun _ => True) rfl (fun _ hk => hk) trivial (bX) (Nat.le_trans (Nat.mul_le_mul_right _ (bX : a0.toNat ≤ 35184372088832)) (by omega)) (Below.refl _ _) (Nat.le_refl _) ?_; intro v472 w8 Ez hb jn dB; clear jn dB; (first | rw [← YE.out] at Ez | (simp only [Int.reduceToNat] at Ez; rw [← YE.out] at Ez)); have Bb := am (Kd.cO Ez (aC (mb HB.out))); replace HB := bS HB hb; clear hb Ez; have p7 : 0 ≤ (a1 : Int) := bX; have q7 : (a1 : Int) < ((xg.length : Int) : Int) := bX; obtain ⟨go7, co7, eo7, gb7, gl7, cl7, HG7⟩ := Kd.lZ Bb.out (by omega); (first | cases eo7 | (injection eo7 with kF wB wC; (first | subst kF | (injection kF with kF; subst kF)); subst wC; clear wB)); have GB7 := Aside0.mk gb7; have GG7 := Aside0.mk HG7; clear gb7 gl7 HG7; obtain ⟨ahO, ahP⟩ := Kd.gx 0 Bb.out (a1 : Int) p7 q7; replace p7 := eq_true p7; replace q7 := eq_true q7; obtain ⟨ahQ, ahR⟩ := Kd.gx 0 Bb.out (a1 : Int) (bX) (bX); have zH := Kd.nI Bb.out (a1 : Int) 1) | ((with_reducible refine fo (t := 3) (p := 10) rfl ?_); refine fM (t := 3) (p := 10) (v := ?QF) (w1 := (w8.setCell ⟨go7, (a1 : Int).toNat, none⟩ (.int .i64 1))) ?hg ?ho ?hn ?hr ?_; (case ho => rfl); (case hg => rfl); (case hn => rfl); (case hr => first | (go_simp; done) | (go_simp; rfl)); intro tu hw; have hg : w8.grownBy tu (some go7) := (by rw [hw]; exact zH.2); have rR : Kd.R (Kd.int .i64) 3 tu w.heap.size (fun _ => True) (.slice (some ⟨go7, 0, none⟩) xg.length co7) abv := (by rw [hw, ahN.out]; exact zH.1); clear zH; replace Bb := am (rR); replace HB := am ((by rw [hw]; exact dj (HB.out) GB7.out : Below w.heap.size w tu)); clear hg hw rR))
 go_ret
 exact ⟨_, jC, ci Bb.out, mb HB.out⟩
def jD.f (l0 : List Int) : Option (List Int) := (some (([] : List Int) : List Int)).bind fun xh => (if xh.length + l0.length < 17592186044416 then (some (xh ++ l0)) else (none))
theorem jD.calls (A0 : Option Addr) (c0 : Nat) (l0 : List Int) (r : List Int) (w : World) (gD : Kd.C (Kd.int .i64) w A0 l0.length l0) (hJ : l0.length ≤ c0) (h : jD.f l0 = some r) :
  Calls Tryz.prog 116 #[.slice A0 l0.length c0] w fun e w' => ∃ iE : Value, e = .returned (iE) ∧ Kd.R (Kd.int .i64) 3 w' w.heap.size (fun _ => True) iE r ∧ Below w.heap.size w w' := by
 have jt := Aside0.mk gD
 have wj := Aside0.mk hJ
 clear gD hJ
 have HB := Aside0.mk (Below.refl w.heap.size w)
 have H : ((some (([] : List Int) : List Int)).bind fun xh => (if xh.length + l0.length < 17592186044416 then (some (xh ++ l0)) else (none))) = some r := h
 clear h
 replace H := br (([] : List Int)) (fun xh => (if xh.length + l0.length < 17592186044416 then (some (xh ++ l0)) else (none)) = some r) H; obtain ⟨xh, YF, H⟩ := H
 by_cases c2 : xh.length + l0.length < 17592186044416
 rotate_left
 ·rw [if_neg c2] at H
  exact absurd H (by simp)
 rw [if_pos c2] at H
 have ap7 := Aside0.mk c2
 clear c2
 replace H := br (xh ++ l0) (fun ahS => (some ahS) = some r) H; obtain ⟨ahS, ahT, H⟩ := H
 obtain rfl := Option.some.inj H
 go_enter Tryz.func116, Tryz.ntmps116
 go_wp2_with (first | ((with_reducible refine ah (N := 3) rfl ?_); refine Kd.ov (Kd.int .i64) _ 3 ?hg (N := 3) ?hd (xs := ([] : List Int)) (inner := []) (ok := fun _ => True) (okp := fun _ => True) ?hr ?hp (fun _ hk => hk) trivial (Below.refl _ _) (Nat.le_refl _) (by simp) ?_; (case hd => rfl); (case hg => rfl); (case hr => first | (go_simp; done) | (go_simp; rfl)); (case hp => exact (cV.none _ _)); intro v476 w3 Hz hb jn dB; clear jn dB; (first | rw [← YF.out] at Hz | (simp only [Int.reduceToNat] at Hz; rw [← YF.out] at Hz)); have YG := am (Kd.cO Hz (aC (mb HB.out))); replace HB := bS HB hb; clear hb Hz) | ((with_reducible refine bC (b := .append) (xs := #[.tmp 3, .tmp 4]) rfl ?_); at_builtin; refine Kd.gO (Kd.int .i64) (w0 := w) w.heap.size rfl (.tmp 3) (.tmp 4) 40 3 (.int .i64 0) 8 rfl Tryz.underlying40 eT rfl (by decide) (by omega) v476 xh l0 _ _ _ (fun _ => True) (fun _ => False) rfl rfl ?aO ?aR (fun _ _ h => h) (fun _ h => h.elim) ?aF ?aB ?aS ?aL ?_; (case aR => exact cB jt HB); (case aB => exact (mb HB.out)); (case aF => exact (fun _ _ => trivial)); (case aO => exact (ci YG.out)); (case aS => exact (aC (mb HB.out))); (case aL => have := ap7.out; omega); intro v479 w5 ho hb hg bk; rw [← ahT.out] at ho; replace HB := am (hb); have ahU := am (ho); clear YG; clear ho hb hg bk))
 go_ret
 exact ⟨_, jC, ci ahU.out, mb HB.out⟩
mutual
def aI.l0 : Nat → List (List Int) → Int → Int → List Int → Int → Int → Option (Int)
 | 0, _, _, _, _, _, _ => none
 | k + 1, x0, x3, x4, wD, rB, qq => if qq < rB then (if 0 ≤ qq then (if qq < (wD.length : Int) then (if 1 ≤ (x0.length : Int) then ((some (x0.drop 1 : List (List Int))).bind fun j9 => (aI.l1 k x0 x3 x4 qq (rd wD qq) ([] : List (List Int)) wD rB qq j9 (j9.length : Int) 0)) else (none)) else (none)) else (none)) else (some x3)
def aI.l1 : Nat → List (List Int) → Int → Int → Int → Int → List (List Int) → List Int → Int → Int → List (List Int) → Int → Int → Option (Int)
 | 0, _, _, _, _, _, _, _, _, _, _, _, _ => none
 | k + 1, x0, x3, x4, x5, x6, x7, wD, rB, qq, H_, Tq, o8 => if o8 < Tq then (if 0 ≤ o8 then (if o8 < (H_.length : Int) then (if 0 ≤ x5 then (if x5 ≤ ((aJ H_ o8).length : Int) then ((jD.f ((aJ H_ o8).take (x5 : Int).toNat)).bind fun FC => (if 0 ≤ (wrap64 (x5 + 1)) then (if (wrap64 (x5 + 1)) ≤ ((aJ H_ o8).length : Int) then (if FC.length + ((aJ H_ o8).drop ((wrap64 (x5 + 1)) : Int).toNat).length < 17592186044416 then (if x7.length < 5864062014805 then (aI.l1 k x0 x3 x4 x5 x6 (x7 ++ [(FC ++ ((aJ H_ o8).drop ((wrap64 (x5 + 1)) : Int).toNat))]) wD rB qq H_ Tq (wrap64 (o8 + 1))) else (none)) else (none)) else (none)) else (none))) else (none)) else (none)) else (none)) else (none)) else ((aI.f k x7).bind fun U6 => (aI.l0 k x0 (wrap64 (x3 + (wrap64 ((wrap64 (x4 * x6)) * U6)))) (wrap64 (-x4)) wD rB (wrap64 (qq + 1))))
def aI.f : Nat → List (List Int) → Option (Int)
 | 0, _ => none
 | k + 1, l0 => if (l0.length : Int) = 0 then (some 1) else (if 0 < (l0.length : Int) then (aI.l0 k l0 0 1 (aJ l0 0) ((aJ l0 0).length : Int) 0) else (none))
end
theorem aI.bG : ∀ k, (∀ y0, bB (aI.f k y0) (aI.f (k + 1) y0)) ∧ (∀ y0 y1 y2 y3 y4 y5, bB (aI.l0 k y0 y1 y2 y3 y4 y5) (aI.l0 (k + 1) y0 y1 y2 y3 y4 y5)) ∧ (∀ y0 y1 y2 y3 y4 y5 y6 y7 y8 y9 zB YH, bB (aI.l1 k y0 y1 y2 y3 y4 y5 y6 y7 y8 y9 zB YH) (aI.l1 (k + 1) y0 y1 y2 y3 y4 y5 y6 y7 y8 y9 zB YH))
 | 0 => ⟨fun _ r h => by simp [aI.f] at h, fun _ _ _ _ _ _ r h => by simp [aI.l0] at h, fun _ _ _ _ _ _ _ _ _ _ _ _ r h => by simp [aI.l1] at h⟩
 | k + 1 => by
  obtain ⟨eQ, kP, sn⟩ := aI.bG k
  refine ⟨?_, ?_, ?_⟩ <;> intros <;> (first | unfold aI.f | unfold aI.l0 | unfold aI.l1)
  all_goals repeat' first
  | (with_reducible exact eQ ..)
  | (with_reducible exact kP ..)
  | (with_reducible exact sn ..)
  | (with_reducible exact bB.refl _)
  | (with_reducible exact bB.none _)
  | (with_reducible refine bB.ite ?_ ?_)
  | (with_reducible refine bB.bind ?_ (fun _ => ?_))
theorem aI.mono : ∀ a0 k, bB (aI.f k a0) (aI.f (k + 1) a0) := by
 intro a0 k
 obtain ⟨eQ, kP, sn⟩ := aI.bG k
 exact eQ a0
def aI.T11 : Bool × List (List Nat × List Nat) := (true, [([], []), ([], []), ([], []), ([1, 2], [1, 2]), ([3], [3]), ([], []), ([], []), ([6], [6]), ([5, 7], [5, 7]), ([4, 8, 4], [4, 8]), ([9], [9]), ([0, 10, 9], [0, 10]), ([11, 11, 0, 1, 2, 3, 4, 5, 6, 7, 8, 9, 10, 11], [0, 11])])
def aI.B11 : List Nat := [0, 0, 0, 6, 14, 0, 0, 64, 224, 510, 1022, 2047, 4095]
theorem aI.B9 : fh .any (opsOf Tryz.f114 11) = aI.T11 := by kernel_rfl
theorem aI.vw : fG aI.T11.2 aI.B11 = true := by kernel_rfl
theorem aI.calls (k : Nat) : ∀ (A0 : Option Addr) (c0 : Nat) (l0 : List (List Int)) (r : Int) (w : World) (gD : Kd.C (Kd.slice 3 (Kd.int .i64)) w A0 l0.length l0) (hJ : l0.length ≤ c0) (h : aI.f k l0 = some r),
  Calls Tryz.prog 114 #[.slice A0 l0.length c0] w fun e w' => e = .returned (.int .i64 r) ∧ Below w.heap.size w w' := by
 induction k using Nat.strongRecOn with
 | _ k ih =>
 intro A0 c0 l0 r w gD hJ h
 cases k with
 | zero => exact absurd h (by simp [aI.f])
 | succ k =>
 simp only [aI.f] at h
 have jt := Aside0.mk gD
 have wj := Aside0.mk hJ
 clear gD hJ
 have HB := Aside0.mk (Below.refl w.heap.size w)
 have H : (if (l0.length : Int) = 0 then (some 1) else (if 0 < (l0.length : Int) then (aI.l0 k l0 0 1 (aJ l0 0) ((aJ l0 0).length : Int) 0) else (none))) = some r := h
 clear h
 by_cases c2 : (l0.length : Int) = 0
 ·rw [if_pos c2] at H
  have uE := il c2
  have FD := im c2
  clear c2
  obtain rfl := Option.some.inj H
  go_enter Tryz.func114, Tryz.ntmps114
  go_wp2
  go_ret
  exact ⟨jC, mb HB.out⟩
 rw [if_neg c2] at H
 have uE := iQ c2
 have FD := iR c2
 have avP : ¬ (l0 = []) := fun h_ => c2 (by rw [h_]; rfl)
 by_cases c3 : 0 < (l0.length : Int)
 rotate_left
 ·rw [if_neg c3] at H
  exact absurd H (by simp)
 rw [if_pos c3] at H
 have gX := decide_eq_true c3
 have qB : decide (0 < l0.length) = true := decide_eq_true (by omega)
 clear c3
 have H' := Aside0.mk H
 clear H
 have aby : 0 ≤ (0 : Int) := (by omega)
 have abz : 0 < (l0.length : Int) := bX
 obtain ⟨Kl, ap8, ap9, ap_, Km, Kn, Ko⟩ := eO jt.out 0 aby abz
 cases ap_
 have atZ : (0 < l0.length) = True := eq_true (by omega)
 (try rw [show ((0 : Int)).toNat = 0 from rfl] at Km)
 (try rw [Addr.add_zero'] at Km)
 have U7 := Aside0.mk Ko
 have aoc := Aside0.mk Kn
 clear Ko Kn
 replace aby := eq_true aby
 replace abz := eq_true abz
 go_enter Tryz.func114, Tryz.ntmps114
 go_wp2
 go_loopg [3, 4, 17] k (fun kq v3 v4 v17 w' => ∃ (bg : Int) (dT : Int) (cu : Int), v3 = .int .i64 bg ∧ v4 = .int .i64 dT ∧ v17 = .int .i64 cu ∧ Aside0 (aI.l0 kq l0 bg dT (aJ l0 0) ((aJ l0 0).length : Int) cu = some r) ∧ Aside0 (kq ≤ k) ∧ Aside0 (Below w.heap.size w w'))
 case atStart => exact ⟨(0), (1), (0), dM, dM, dM, H', ⟨Nat.le_refl _⟩, ⟨mb HB.out⟩⟩
 case round =>
  clear H'
  obtain ⟨bg, dT, cu, rfl, rfl, rfl, HA, dP, HB⟩ := hrel
  cases gk with
  | zero => exact absurd HA.out (by simp [aI.l0])
  | succ k1 =>
   have H := HA.out
   clear HA
   simp only [aI.l0] at H
   by_cases c4 : cu < ((aJ l0 0).length : Int)
   rotate_left
   ·rw [if_neg c4] at H
    have iI := decide_eq_false c4
    clear c4
    obtain rfl := Option.some.inj H
    go_wp2
    go_ret
    exact ⟨jC, mb HB.out⟩
   rw [if_pos c4] at H
   have iI := decide_eq_true c4
   clear c4
   replace H := fW H; obtain ⟨jR, H⟩ := H
   replace H := fW H; obtain ⟨hU, H⟩ := H
   replace H := oo H; obtain ⟨c7, H⟩ := H
   have lO := eq_true c7
   have xf := decide_eq_true c7
   clear c7
   replace H := br (l0.drop 1) (fun j9 => (aI.l1 k1 l0 bg dT cu (rd (aJ l0 0) cu) ([] : List (List Int)) (aJ l0 0) ((aJ l0 0).length : Int) cu j9 (j9.length : Int) 0) = some r) H; obtain ⟨j9, YI, H⟩ := H
   have H' := Aside0.mk H
   clear H
   have abA : 0 ≤ (cu : Int) := bX
   have abB : cu < ((aJ l0 0).length : Int) := bX
   obtain ⟨at0, ap', Cm⟩ := Kd.bi U7.out cu abA abB
   cases ap'
   replace Cm := (HB.out.cell (World.block_lt_of_cell? w _ Cm)).trans Cm
   replace abA := eq_true abA
   replace abB := eq_true abB
   have q8 : (1 : Int) ≤ ((l0.length : Int) : Int) := bX
   obtain ⟨i08, ahV, _, ahW, _⟩ := info_parts gM
   have IA : l0.length ≤ c0 := wj.out
   have hC8 : Kd.C (Kd.slice 3 (Kd.int .i64)) _ (some Kl) l0.length l0 := jt.out
   have ahX := ow (P := Tryz.prog) 22 40 .i64 Tryz.underlying22 ahV 1 ahW (some Kl) l0.length c0 1 (by omega) q8
   have hr8 := Kd.tD (m := (1 : Int).toNat) (c := c0) hC8 (by omega) IA
   obtain ⟨A8, hA8⟩ : ∃ A1, A1 = (if c0 = (1 : Int).toNat then (some Kl) else ((some Kl) : Option Addr).map (·.add ((1 : Int).toNat * 1))) := ⟨_, rfl⟩
   obtain ⟨c8, hc8⟩ : ∃ c1, c1 = c0 - (1 : Int).toNat := ⟨_, rfl⟩
   have hy8 : j9.length = l0.length - (1 : Int).toNat := (by rw [YI.out, List.length_drop] <;> omega)
   rw [show (l0).drop (1 : Int).toNat = j9 from YI.out.symm] at hr8
   replace hr8 : Kd.C (Kd.slice 3 (Kd.int .i64)) _ A8 j9.length j9 := (by rw [hA8]; exact hr8)
   rw [← hy8, ← hA8, ← hc8] at ahX
   have ahY := Aside0.mk hr8
   have at1 := Aside0.mk (show j9.length ≤ c8 from by rw [hy8, hc8]; exact Nat.sub_le_sub_right IA _)
   clear hr8 hC8 IA ahV ahW hc8
   have KY8 := Aside0.mk hy8
   have KA8 := Aside0.mk hA8
   clear hy8 hA8
   replace q8 := eq_true q8
   go_wp2
   go_loopg [7, 25] k1 (fun kq v7 v25 w' => ∃ (fb : List (List Int)) (eC : Int), v25 = .int .i64 eC ∧ Aside0 (aI.l1 kq l0 bg dT cu (rd (aJ l0 0) cu) fb (aJ l0 0) ((aJ l0 0).length : Int) cu j9 (j9.length : Int) eC = some r) ∧ Aside0 (kq ≤ k1) ∧ Aside0 (Kd.S (Kd.slice 3 (Kd.int .i64)) 40 w' w.heap.size (fun _ => True) v7 fb) ∧ Aside0 (Below w.heap.size w w'))
   case atStart => exact ⟨(([] : List (List Int))), (0), dM, H', ⟨Nat.le_refl _⟩, ⟨by first | exact Kd.Bc _ _ _ _ _ | exact Kd.Bd _ _ _ _ _ | exact Kd.zI _ _ _ _ _ | exact Kd.BV _ _ _ _ _ | exact Kd.mV _ _ _ _ _⟩, ⟨mb HB.out⟩⟩
   case round =>
    clear H'
    obtain ⟨fb, eC, rfl, HA, ft, cf, HB⟩ := hrel
    cases gk with
    | zero => exact absurd HA.out (by simp [aI.l1])
    | succ k2 =>
     have H := HA.out
     clear HA
     simp only [aI.l1] at H
     by_cases c9 : eC < (j9.length : Int)
     rotate_left
     ·rw [if_neg c9] at H
      have tF := decide_eq_false c9
      clear c9
      replace H := bZ H; obtain ⟨U6, pa, H⟩ := H
      have H' := Aside0.mk H
      clear H
      obtain ⟨aqa, aqb, aqc⟩ := Kd.gj cf.out
      subst aqc
      go_wp2_with (first | ((with_reducible refine gC 114 rfl ?_); refine gL 47 Tryz.func114 #[.slice aqa fb.length aqb] ?_; (with_reducible refine (ih k2 (by have := dP.out; have := ft.out; omega) _ _ fb U6 _ ?aT ?aU pa.out).mono ?_); (case aT => exact fy (Kd.cj cf.out).2.2); (case aU => exact (Kd.cj cf.out).2.1); rintro e w29 ⟨rfl, hb⟩; refine ⟨_, rfl, ?_⟩; replace cf := am (Kd.dm (gP cf.out) hb); replace HB := bS HB hb; (try clear hb)))
      go_roundg k2
      case measure => have := dP.out; have := ft.out; omega
      case rel => exact ⟨(wrap64 (bg + (wrap64 ((wrap64 (dT * (rd (aJ l0 0) cu))) * U6)))), (wrap64 (-dT)), (wrap64 (cu + 1)), dM, dM, dM, H', ⟨by have := dP.out; have := ft.out; omega⟩, ⟨mb HB.out⟩⟩
     rw [if_pos c9] at H
     have tF := decide_eq_true c9
     clear c9
     replace H := fW H; obtain ⟨oC, H⟩ := H
     replace H := fW H; obtain ⟨nJ, H⟩ := H
     replace H := oo H; obtain ⟨uF, H⟩ := H
     have uG := eq_true uF
     have Pt := decide_eq_true uF
     clear uF
     replace H := oo H; obtain ⟨N6, H⟩ := H
     have zJ := eq_true N6
     have ahZ := decide_eq_true N6
     clear N6
     replace H := bZ H; obtain ⟨FC, A14, H⟩ := H
     obtain ⟨xi, Kp⟩ : ∃ j_ : Int, (wrap64 (cu + 1)) = j_ := ⟨_, rfl⟩
     replace H : (if 0 ≤ (xi) then (if (xi) ≤ ((aJ j9 eC).length : Int) then (if FC.length + ((aJ j9 eC).drop ((xi) : Int).toNat).length < 17592186044416 then (if fb.length < 5864062014805 then (aI.l1 k2 l0 bg dT cu (rd (aJ l0 0) cu) (fb ++ [(FC ++ ((aJ j9 eC).drop ((xi) : Int).toNat))]) (aJ l0 0) ((aJ l0 0).length : Int) cu j9 (j9.length : Int) (wrap64 (eC + 1))) else (none)) else (none)) else (none)) else (none)) = some r := by first | (rw [Kp] at H; exact H) | (simp only [Kp] at H ⊢; exact H)
     (try rw [Kp] at A14)
     have aqd : (IntKind.i64.wrap (cu + 1)) = xi := (gn _).trans Kp
     replace H := oo H; obtain ⟨FE, H⟩ := H
     have we := eq_true FE
     have at2 := decide_eq_true FE
     clear FE
     replace H := oo H; obtain ⟨E3, H⟩ := H
     have yv := eq_true E3
     have YJ := decide_eq_true E3
     clear E3
     replace H := np H; obtain ⟨ah0, H⟩ := H
     replace H := br (FC ++ ((aJ j9 eC).drop ((xi) : Int).toNat)) (fun N7 => (if fb.length < 5864062014805 then (aI.l1 k2 l0 bg dT cu (rd (aJ l0 0) cu) (fb ++ [N7]) (aJ l0 0) ((aJ l0 0).length : Int) cu j9 (j9.length : Int) (wrap64 (eC + 1))) else (none)) = some r) H; obtain ⟨N7, ah1, H⟩ := H
     replace H := np H; obtain ⟨yw, H⟩ := H
     replace H := br (fb ++ [N7]) (fun abD => (aI.l1 k2 l0 bg dT cu (rd (aJ l0 0) cu) abD (aJ l0 0) ((aJ l0 0).length : Int) cu j9 (j9.length : Int) (wrap64 (eC + 1))) = some r) H; obtain ⟨abD, ah2, H⟩ := H
     have H' := Aside0.mk H
     clear H
     have abE : 0 ≤ (eC : Int) := bX
     have abF : eC < (j9.length : Int) := bX
     obtain ⟨at3, IB, IC, aqe, Co, Kq, Kr⟩ := eO ahY.out eC abE abF
     cases aqe
     replace Co := (HB.out.cell (World.block_lt_of_cell? w _ Co)).trans Co
     have Ks := Aside0.mk Kr
     have Kt := Aside0.mk Kq
     clear Kr Kq
     replace abE := eq_true abE
     replace abF := eq_true abF
     try go_wp2
     replace cf := am (Kd.gw cf.out)
     replace HB := am (bd HB.out)
     obtain ⟨aqf, FF, _, FG, _⟩ := info_parts eT
     obtain ⟨QG, ID, QH⟩ := iF (P := Tryz.prog) (Value.int .i64) 0 40 3 .i64 Tryz.underlying40 FF FG IB IC (aJ j9 eC) cu (bX) (bX) Kt.out
     have YK := Aside0.mk (Kd.ix (h1 := fun _ => rfl) (ID _ (Kd.iG Ks.out)))
     have ah3 := Aside0.mk QH
     clear ID QH FF FG
     obtain ⟨aqg, FH, _, FI, _⟩ := info_parts eT
     obtain ⟨p8, QI, IE, QJ⟩ := Al (P := Tryz.prog) (Value.int .i64) 0 40 3 .i64 Tryz.underlying40 FH FI IB IC (aJ j9 eC) (xi) (bX) (bX) Kt.out
     have QK := Aside0.mk (Kd.ix (h1 := fun _ => rfl) (IE _ (Kd.iG Ks.out)))
     have at4 := Aside0.mk QJ
     clear IE QJ FH FI
     refine fA (n := 13) (S := fun w' => True) (ds := []) (Array.replicate 13 false) (by kernel_rfl) rfl rfl trivial (fun ai => ?_); refine cv aI.B9 aI.vw (fun ak fz => ?_)
     generalize wr.drew = P4 at cf HB YK QK ai ⊢
     refine pY 0 29 ak ?_
     refine pY 1 30 ak ?_
     refine pY 2 31 ak ?_
     refine pY 3 32 ak ?_
     refine pY 5 34 ak ?_
     refine pY 6 35 ak ?_
     refine pY 7 36 ak ?_
     refine pY 8 37 ak ?_
     refine oY 4 33 ak (fun K hK => ?_)
     refine B_ Tryz.func116 (by kernel_rfl) rfl #[.slice IB ((aJ j9 eC).take (cu : Int).toNat).length IC] (by rfl) rfl rfl (by (try simp only [List.map_toArray, List.map_cons, List.map_nil]); first | done | (rw [show ((aJ j9 eC).take (cu : Int).toNat).length = cu.toNat from (by rw [List.length_take]; have h_ : (cu : Int) ≤ ((aJ j9 eC).length : Int) := bX; omega)] <;> rfl) | rfl | (simp only [List.length_drop, List.length_take]; rfl)) ?_
     with_reducible refine (jD.calls _ _ ((aJ j9 eC).take (cu : Int).toNat) FC _ ?aT ?aU A14.out).mono ?_
     (case aT => exact cB YK HB)
     (case aU => exact ah3.out)
     rintro e T7 ⟨v490, rfl, cC, hb⟩
     refine ⟨_, rfl, ?_⟩
     replace cf := am (Kd.jI (gP cf.out) (Kd.bf cC) hb)
     have YL := am (Kd.cO cC (aC (mb HB.out)))
     replace HB := bS HB hb
     (try clear hb)
     (try clear sj)
     (try clear hk)
     (try clear hi)
     (try clear cC)
     refine hK.out _ _ trivial (fun ai => ?_)
     clear hK K
     refine nY 33 ?_
     refine oY 9 38 ak (fun K hK => ?_)
     refine Kd.kU (Kd.int .i64) (w0 := w) w.heap.size (by rfl) (.tmp 33) (.tmp 37) 40 3 (.int .i64 0) 8 rfl Tryz.underlying40 eT rfl (by decide) (by omega) v490 FC ((aJ j9 eC).drop ((xi) : Int).toNat) _ _ _ (fun _ => True) (fun _ => False) rfl rfl ?aO ?aR (fun _ _ h => h) (fun _ h => h.elim) ?aF ?aB ?aS ?aL ?_
     (case aR => first | (rw [← show ((aJ j9 eC).drop ((xi) : Int).toNat).length = ((aJ j9 eC).length - (xi).toNat) from List.length_drop]; exact cB QK HB) | (exact cB QK HB))
     (case aB => exact (mb HB.out))
     (case aF => exact (fun _ _ => trivial))
     (case aO => exact (ci YL.out))
     (case aS => exact (aC (mb HB.out)))
     (case aL => have := ah0.out; have avQ := (show ((aJ j9 eC).drop ((xi) : Int).toNat).length = ((aJ j9 eC).length - (xi).toNat) from List.length_drop); omega)
     intro v494 Pb ho hb hg bk
     rw [← ah1.out] at ho
     replace cf := am (Kd.Cp (ok := (fun _ => True)) (gP cf.out) hg bk)
     replace HB := am (hb)
     have Ku := am (ho)
     clear YL
     clear ho hb hg bk
     obtain ⟨j8, jS, Ci⟩ := Kd.cH Ku.out
     (first | subst Ci | (injection Ci with FJ QL FM; have QM := FJ.symm; have QN := FM.symm; clear FJ QL FM; subst QM; subst QN))
     refine hK.out _ _ trivial (fun ai => ?_)
     clear hK K
     refine nY 38 ?_
     refine oY 10 39 ak (fun K hK => ?_)
     refine rP (w1 := ?_) (v := ?_) (by rfl) rfl ?_ ?_
     rotate_left 2
     ·go_simp
      constructor
      ·rfl
      ·rfl
     refine hK.out _ _ trivial (fun ai => ?_)
     clear hK K
     refine nY 39 ?_
     refine oY 11 40 ak (fun K hK => ?_)
     refine Kd.Av (Kd.slice 3 (Kd.int .i64)) (w0 := w) w.heap.size (by rfl) (.tmp 29) (.tmp 39) 22 40 (.slice none 0 0) 24 rfl Tryz.underlying22 gM rfl (by decide) (by omega) u7 fb N7 [.slice j8 N7.length jS] (fun _ => True) (fun k_ => some k_ = (.slice j8 N7.length jS : Value).ownBlock) rfl rfl ?aP (fun k_ gH => ((Kd.bD (ok' := fun k_ => ((fun _ => True)) k_ ∧ some k_ ≠ (u7 : Value).ownBlock) (Kd.cX (Ku.out) (Kd.jq cf.out) (by decide)) (fun k_ hk => ⟨trivial, hk.2⟩))).1 k_ gH.symm) ?aF ?aO ?aB ?aS ?aL ?_
     (case aP => exact Kd.BT (Kd.bD (Kd.jr rfl (Kd.bD (ok' := fun k_ => ((fun _ => True)) k_ ∧ some k_ ≠ (u7 : Value).ownBlock) (Kd.cX (Ku.out) (Kd.jq cf.out) (by decide)) (fun k_ hk => ⟨trivial, hk.2⟩))) (fun _ h_ => h_)))
     (case aB => exact (mb HB.out))
     (case aF => exact (fun _ _ => trivial))
     (case aO => exact (Kd.cJ (gP cf.out) (fun k_ hk => ⟨trivial, fun e_ => hk.2 e_⟩)))
     (case aS => exact (aC (mb HB.out)))
     (case aL => have := yw.out; omega)
     intro v497 w25 ho hb hg bk
     rw [← ah2.out] at ho
     replace HB := am (hb)
     have ah4 := am (ho)
     clear cf
     clear Ku
     clear ho hb hg bk
     refine hK.out _ _ trivial (fun ai => ?_)
     clear hK K
     refine nY 40 ?_
     refine pY 12 7 ak ?_
     refine dY ak ?_
     try go_wp2
     go_roundg k2
     case measure => have := dP.out; have := ft.out; omega
     case rel => exact ⟨(abD), (wrap64 (eC + 1)), dM, H', ⟨by have := dP.out; have := ft.out; omega⟩, ⟨gP ah4.out⟩, ⟨mb HB.out⟩⟩
def k8.f (a0 : Int) (a1 : Int) : Option (Int) := if a0 > a1 then (some a0) else (some a1)
theorem k8.calls (a0 : Int) (a1 : Int) (r : Int) (w : World) (h : k8.f a0 a1 = some r) :
  Calls Tryz.prog 145 #[.int .i64 a0, .int .i64 a1] w fun e w' => e = .returned (.int .i64 r) ∧ bM w w' := by
 have H : (if a0 > a1 then (some a0) else (some a1)) = some r := h
 clear h
 by_cases c3 : a0 > a1
 ·rw [if_pos c3] at H
  have gX : decide (a1 < a0) = true := decide_eq_true c3
  clear c3
  obtain rfl := Option.some.inj H
  go_enter Tryz.func145, Tryz.ntmps145
  go_wp2
  go_ret
  exact ⟨mL, mM⟩
 rw [if_neg c3] at H
 have gX : decide (a1 < a0) = false := decide_eq_false c3
 clear c3
 obtain rfl := Option.some.inj H
 go_enter Tryz.func145, Tryz.ntmps145
 go_wp2
 go_ret
 exact ⟨mL, mM⟩
def eW.f (a0 : Int) : Option (Int) := (k8.f a0 (wrap64 (-a0))).bind fun QO => (some QO)
theorem eW.calls (a0 : Int) (r : Int) (w : World) (h : eW.f a0 = some r) :
  Calls Tryz.prog 115 #[.int .i64 a0] w fun e w' => e = .returned (.int .i64 r) ∧ bM w w' := by
 have H : ((k8.f a0 (wrap64 (-a0))).bind fun QO => (some QO)) = some r := h
 clear h
 replace H := bZ H; obtain ⟨QO, A2, H⟩ := H
 obtain rfl := Option.some.inj H
 go_enter Tryz.func115, Tryz.ntmps115
 go_wp2_with (first | ((with_reducible refine gC 145 rfl ?_); refine gL 6 Tryz.func145 #[.int .i64 a0, .int .i64 (wrap64 (-a0))] ?_; (with_reducible refine (k8.calls a0 (wrap64 (-a0)) QO _ A2.out).mono ?_); rintro e w' ⟨rfl, ⟨nd, rfl⟩⟩; refine ⟨_, rfl, ?_⟩))
 go_ret
 exact ⟨mL, mM⟩
def bs.l0 : Nat → Int → Int → Option (Int)
 | 0, _, _ => none
 | k + 1, x0, x1 => if x1 = 0 then (some x0) else (bs.l0 k x1 (Int.tmod x0 x1))
def bs.f (k : Nat) (a0 : Int) (a1 : Int) : Option (Int) := bs.l0 k a0 a1
theorem bs.bG : ∀ k, (∀ y0 y1, bB (bs.l0 k y0 y1) (bs.l0 (k + 1) y0 y1))
 | 0 => fun _ _ r h => by simp [bs.l0] at h
 | k + 1 => by
  have eQ := bs.bG k
  ·intro y0 y1
   unfold bs.l0
   repeat' first
   | (with_reducible exact eQ ..)
   | (with_reducible exact bB.refl _)
   | (with_reducible exact bB.none _)
   | (with_reducible refine bB.ite ?_ ?_)
   | (with_reducible refine bB.bind ?_ (fun _ => ?_))
theorem bs.mono : ∀ a0 a1 k, bB (bs.f k a0 a1) (bs.f (k + 1) a0 a1) := by
 intro a0 a1 k
 have eQ := bs.bG k
 unfold bs.f
 repeat' first
   | (with_reducible exact eQ ..)
   | (with_reducible exact bB.refl _)
   | (with_reducible exact bB.none _)
   | (with_reducible refine bB.ite ?_ ?_)
   | (with_reducible refine bB.bind ?_ (fun _ => ?_))
theorem bs.calls (k : Nat) (a0 : Int) (a1 : Int) (r : Int) (w : World) (h : bs.f k a0 a1 = some r) :
  Calls Tryz.prog 117 #[.int .i64 a0, .int .i64 a1] w fun e w' => e = .returned (.int .i64 r) ∧ bM w w' := by
 have H : (bs.l0 k a0 a1) = some r := h
 clear h
 have H' := Aside0.mk H
 clear H
 go_enter Tryz.func117, Tryz.ntmps117
 go_wp2
 go_loopg [0, 1] k (fun kq v0 v1 w' => ∃ (Cq : Int) (o_ : Int), v0 = .int .i64 Cq ∧ v1 = .int .i64 o_ ∧ Aside0 (bs.l0 kq Cq o_ = some r) ∧ Aside0 (kq ≤ k) ∧ bM w w')
 case atStart => exact ⟨(a0), (a1), dM, dM, H', ⟨Nat.le_refl _⟩, by repeat (first | exact bM.refl _ | apply bM.step)⟩
 case round =>
  clear H'
  obtain ⟨Cq, o_, rfl, rfl, HA, dP, ⟨m1, rfl⟩⟩ := hrel
  cases gk with
  | zero => exact absurd HA.out (by simp [bs.l0])
  | succ k1 =>
   have H := HA.out
   clear HA
   simp only [bs.l0] at H
   by_cases c3 : o_ = 0
   ·rw [if_pos c3] at H
    have gX := il c3
    have qB := im c3
    clear c3
    obtain rfl := Option.some.inj H
    go_wp2
    go_ret
    exact ⟨mL, mM⟩
   rw [if_neg c3] at H
   have gX := iQ c3
   have qB := iR c3
   have H' := Aside0.mk H
   clear H
   go_wp2
   go_roundg k1
   case measure => have := dP.out; omega
   case rel => exact ⟨(o_), (Int.tmod Cq o_), dM, dM, H', ⟨by have := dP.out; omega⟩, by repeat (first | exact bM.refl _ | apply bM.step)⟩
mutual
def aa.l0 : Nat → List (List Int) → List Int → List Int → Int → Int → Option (List Int × Bool)
 | 0, _, _, _, _, _ => none
 | k + 1, x0, x1, x6, x7, x8 => if x8 < x7 then (if 0 ≤ x8 then (if x8 < (x1.length : Int) then (if (rd x1 x8) < 0 then (some (([] : List Int), false)) else (if (rd x1 x8) = 0 then (if x6.length < 17592186044416 then (aa.l0 k x0 x1 (x6 ++ [x8]) x7 (wrap64 (x8 + 1))) else (none)) else (aa.l0 k x0 x1 x6 x7 (wrap64 (x8 + 1))))) else (none)) else (none)) else (aa.l1 k x1 x6 x7 x0 (x0.length : Int) 0)
def aa.l1 : Nat → List Int → List Int → Int → List (List Int) → Int → Int → Option (List Int × Bool)
 | 0, _, _, _, _, _, _ => none
 | k + 1, x1, x6, x7, KR, Hp, td => if td < Hp then (if 0 ≤ td then (if td < (KR.length : Int) then (aa.l2 k x1 x6 x7 td 0 KR Hp td (aJ KR td) ((aJ KR td).length : Int) 0) else (none)) else (none)) else (some (x6, true))
def aa.l2 : Nat → List Int → List Int → Int → Int → Int → List (List Int) → Int → Int → List Int → Int → Int → Option (List Int × Bool)
 | 0, _, _, _, _, _, _, _, _, _, _, _ => none
 | k + 1, x1, x6, x7, x9, jd, KR, Hp, td, x43, x44, x45 => if x45 < x44 then (if 0 ≤ x45 then (if x45 < (x43.length : Int) then (if x45 < (x1.length : Int) then (aa.l2 k x1 x6 x7 x9 (wrap64 (jd + (wrap64 ((rd x43 x45) * (rd x1 x45))))) KR Hp td x43 x44 (wrap64 (x45 + 1))) else (none)) else (none)) else (none)) else (if 0 ≤ x7 then (if x7 < (x1.length : Int) then (if jd > (rd x1 x7) then (some (([] : List Int), false)) else (if jd = (rd x1 x7) then (if x6.length < 17592186044416 then (aa.l1 k x1 (x6 ++ [wrap64 (x7 + x9)]) x7 KR Hp (wrap64 (td + 1))) else (none)) else (aa.l1 k x1 x6 x7 KR Hp (wrap64 (td + 1))))) else (none)) else (none))
end
def aa.f (k : Nat) (l0 : List (List Int)) (l1 : List Int) : Option (List Int × Bool) := aa.l0 k l0 l1 ([] : List Int) (wrap64 ((l1.length : Int) - 1)) 0
theorem aa.bG : ∀ k, (∀ y0 y1 y2 y3 y4, bB (aa.l0 k y0 y1 y2 y3 y4) (aa.l0 (k + 1) y0 y1 y2 y3 y4)) ∧ (∀ y0 y1 y2 y3 y4 y5, bB (aa.l1 k y0 y1 y2 y3 y4 y5) (aa.l1 (k + 1) y0 y1 y2 y3 y4 y5)) ∧ (∀ y0 y1 y2 y3 y4 y5 y6 y7 y8 y9 zB, bB (aa.l2 k y0 y1 y2 y3 y4 y5 y6 y7 y8 y9 zB) (aa.l2 (k + 1) y0 y1 y2 y3 y4 y5 y6 y7 y8 y9 zB))
 | 0 => ⟨fun _ _ _ _ _ r h => by simp [aa.l0] at h, fun _ _ _ _ _ _ r h => by simp [aa.l1] at h, fun _ _ _ _ _ _ _ _ _ _ _ r h => by simp [aa.l2] at h⟩
 | k + 1 => by
  obtain ⟨eQ, kP, sn⟩ := aa.bG k
  refine ⟨?_, ?_, ?_⟩ <;> intros <;> (first | unfold aa.l0 | unfold aa.l1 | unfold aa.l2)
  all_goals repeat' first
  | (with_reducible exact eQ ..)
  | (with_reducible exact kP ..)
  | (with_reducible exact sn ..)
  | (with_reducible exact bB.refl _)
  | (with_reducible exact bB.none _)
  | (with_reducible refine bB.ite ?_ ?_)
  | (with_reducible refine bB.bind ?_ (fun _ => ?_))
theorem aa.mono : ∀ a0 a1 k, bB (aa.f k a0 a1) (aa.f (k + 1) a0 a1) := by
 intro a0 a1 k
 obtain ⟨eQ, kP, sn⟩ := aa.bG k
 unfold aa.f
 repeat' first
   | (with_reducible exact eQ ..)
   | (with_reducible exact kP ..)
   | (with_reducible exact sn ..)
   | (with_reducible exact bB.refl _)
   | (with_reducible exact bB.none _)
   | (with_reducible refine bB.ite ?_ ?_)
   | (with_reducible refine bB.bind ?_ (fun _ => ?_))
theorem aa.calls (k : Nat) (A0 : Option Addr) (c0 : Nat) (l0 : List (List Int)) (A1 : Option Addr) (c1 : Nat) (l1 : List Int) (r1 : List Int) (r2 : Bool) (w : World) (gD : Kd.C (Kd.slice 3 (Kd.int .i64)) w A0 l0.length l0) (hJ : l0.length ≤ c0) (nn : Kd.C (Kd.int .i64) w A1 l1.length l1) (mN : l1.length ≤ c1) (h : aa.f k l0 l1 = some (r1, r2)) :
  Calls Tryz.prog 118 #[.slice A0 l0.length c0, .slice A1 l1.length c1] w fun e w' => ∃ iE : Value, e = .returned (.tuple #[iE, .bool r2]) ∧ Kd.R (Kd.int .i64) 3 w' w.heap.size (fun _ => True) iE r1 ∧ Below w.heap.size w w' := by
 have jt := Aside0.mk gD
 have wj := Aside0.mk hJ
 clear gD hJ
 have lz := Aside0.mk nn
 have Ag := Aside0.mk mN
 clear nn mN
 have HB := Aside0.mk (Below.refl w.heap.size w)
 have H : (aa.l0 k l0 l1 ([] : List Int) (wrap64 ((l1.length : Int) - 1)) 0) = some (r1, r2) := h
 clear h
 have H' := Aside0.mk H
 clear H
 go_enter Tryz.func118, Tryz.ntmps118
 go_wp2
 go_loopg [6, 8] k (fun kq v6 v8 w' => ∃ (IF : List Int) (cK : Int), v8 = .int .i64 cK ∧ Aside0 (aa.l0 kq l0 l1 IF (wrap64 ((l1.length : Int) - 1)) cK = some (r1, r2)) ∧ Aside0 (kq ≤ k) ∧ Aside0 (Kd.R (Kd.int .i64) 3 w' w.heap.size (fun _ => True) v6 IF) ∧ Aside0 (Below w.heap.size w w'))
 case atStart => exact ⟨(([] : List Int)), (0), dM, H', ⟨Nat.le_refl _⟩, ⟨Cr⟩, ⟨mb HB.out⟩⟩
 case round =>
  clear H'
  obtain ⟨IF, cK, rfl, HA, dP, cM, HB⟩ := hrel
  cases gk with
  | zero => exact absurd HA.out (by simp [aa.l0])
  | succ k1 =>
   have H := HA.out
   clear HA
   simp only [aa.l0] at H
   by_cases c3 : cK < (wrap64 ((l1.length : Int) - 1))
   ·rw [if_pos c3] at H
    have gX := decide_eq_true c3
    clear c3
    replace H := fW H; obtain ⟨iI, H⟩ := H
    replace H := fW H; obtain ⟨jR, H⟩ := H
    by_cases c6 : (rd l1 cK) < 0
    ·rw [if_pos c6] at H
     have hU := decide_eq_true c6
     clear c6
     simp only [Option.some.injEq, Prod.mk.injEq] at H
     obtain ⟨rfl, rfl⟩ := H
     have zK : 0 ≤ (cK : Int) := bX
     have zL : cK < (l1.length : Int) := bX
     obtain ⟨Kv, QP, lA⟩ := Kd.bi lz.out cK zK zL
     cases QP
     replace lA := (HB.out.cell (World.block_lt_of_cell? w _ lA)).trans lA
     replace zK := eq_true zK
     replace zL := eq_true zL
     go_wp2
     go_ret2
     exact ⟨_, jC, Cr, mb HB.out⟩
    rw [if_neg c6] at H
    have hU := decide_eq_false c6
    clear c6
    by_cases c7 : (rd l1 cK) = 0
    rotate_left
    ·rw [if_neg c7] at H
     have lO := iQ c7
     have xf := iR c7
     have H' := Aside0.mk H
     clear H
     have zK : 0 ≤ (cK : Int) := bX
     have zL : cK < (l1.length : Int) := bX
     obtain ⟨Kv, QP, lA⟩ := Kd.bi lz.out cK zK zL
     cases QP
     replace lA := (HB.out.cell (World.block_lt_of_cell? w _ lA)).trans lA
     replace zK := eq_true zK
     replace zL := eq_true zL
     have IG : 0 ≤ (cK : Int) := bX
     have IH : cK < (l1.length : Int) := bX
     obtain ⟨QQ, abH, qC⟩ := Kd.bi lz.out cK IG IH
     obtain rfl : Kv = QQ := (by injection abH)
     replace qC := (HB.out.cell (World.block_lt_of_cell? w _ qC)).trans qC
     replace IG := eq_true IG
     replace IH := eq_true IH
     go_wp2
     go_roundg k1
     case measure => have := dP.out; omega
     case rel => exact ⟨(IF), (wrap64 (cK + 1)), dM, H', ⟨by have := dP.out; omega⟩, ⟨ci cM.out⟩, ⟨mb HB.out⟩⟩
    rw [if_pos c7] at H
    have lO := il c7
    have xf := im c7
    clear c7
    replace H := np H; obtain ⟨aqh, H⟩ := H
    replace H := br (IF ++ [cK]) (fun abI => (aa.l0 k1 l0 l1 abI (wrap64 ((l1.length : Int) - 1)) (wrap64 (cK + 1))) = some (r1, r2)) H; obtain ⟨abI, ah5, H⟩ := H
    have H' := Aside0.mk H
    clear H
    have zK : 0 ≤ (cK : Int) := bX
    have zL : cK < (l1.length : Int) := bX
    obtain ⟨Kv, QP, lA⟩ := Kd.bi lz.out cK zK zL
    cases QP
    replace lA := (HB.out.cell (World.block_lt_of_cell? w _ lA)).trans lA
    replace zK := eq_true zK
    replace zL := eq_true zL
    have IG : 0 ≤ (cK : Int) := bX
    have IH : cK < (l1.length : Int) := bX
    obtain ⟨QQ, abH, qC⟩ := Kd.bi lz.out cK IG IH
    obtain rfl : Kv = QQ := (by injection abH)
    replace qC := (HB.out.cell (World.block_lt_of_cell? w _ qC)).trans qC
    replace IG := eq_true IG
    replace IH := eq_true IH
    go_wp2_with (first | ((with_reducible refine bC (b := .append) (xs := #[.tmp 32, .tmp 34]) rfl ?_); at_builtin; refine Kd.fV (Kd.int .i64) (w0 := w) w.heap.size rfl (.tmp 32) (.tmp 34) 40 3 (.int .i64 0) 8 rfl Tryz.underlying40 eT rfl (by decide) (by omega) u6 IF cK [.int .i64 cK] (fun _ => True) (fun _ => False) rfl rfl ?aP (fun _ hk => hk.elim) ?aF ?aO ?aB ?aS ?aL ?_; (case aP => exact rfl); (case aB => exact (mb HB.out)); (case aF => exact (fun _ _ => trivial)); (case aO => exact (ci cM.out)); (case aS => exact (aC (mb HB.out))); (case aL => have := aqh.out; omega); intro v504 w9 ho hb hg bk; rw [← ah5.out] at ho; replace HB := am (hb); have ah6 := am (ho); clear cM; clear ho hb hg bk))
    go_roundg k1
    case measure => have := dP.out; omega
    case rel => exact ⟨(abI), (wrap64 (cK + 1)), dM, H', ⟨by have := dP.out; omega⟩, ⟨ci ah6.out⟩, ⟨mb HB.out⟩⟩
   rw [if_neg c3] at H
   have gX := decide_eq_false c3
   clear c3
   have H' := Aside0.mk H
   clear H
   go_wp2
   go_loopg [6, 38] k1 (fun kq v6 v38 w' => ∃ (cd : List Int) (jf : Int), v38 = .int .i64 jf ∧ Aside0 (aa.l1 kq l1 cd (wrap64 ((l1.length : Int) - 1)) l0 (l0.length : Int) jf = some (r1, r2)) ∧ Aside0 (kq ≤ k1) ∧ Aside0 (Kd.R (Kd.int .i64) 3 w' w.heap.size (fun _ => True) v6 cd) ∧ Aside0 (Below w.heap.size w w'))
   case atStart => exact ⟨(IF), (0), dM, H', ⟨Nat.le_refl _⟩, ⟨ci cM.out⟩, ⟨mb HB.out⟩⟩
   case round =>
    clear H'
    obtain ⟨cd, jf, rfl, HA, ft, cM, HB⟩ := hrel
    cases gk with
    | zero => exact absurd HA.out (by simp [aa.l1])
    | succ k2 =>
     have H := HA.out
     clear HA
     simp only [aa.l1] at H
     by_cases ot : jf < (l0.length : Int)
     rotate_left
     ·rw [if_neg ot] at H
      have oC := decide_eq_false ot
      clear ot
      simp only [Option.some.injEq, Prod.mk.injEq] at H
      obtain ⟨rfl, rfl⟩ := H
      go_wp2
      go_ret2
      exact ⟨_, jC, ci cM.out, mb HB.out⟩
     rw [if_pos ot] at H
     have oC := decide_eq_true ot
     clear ot
     replace H := fW H; obtain ⟨nJ, H⟩ := H
     replace H := fW H; obtain ⟨uG, H⟩ := H
     have H' := Aside0.mk H
     clear H
     have abJ : 0 ≤ (jf : Int) := bX
     have abK : jf < (l0.length : Int) := bX
     obtain ⟨at5, aqi, aqj, aqk, Cs, Kw, Kx⟩ := eO jt.out jf abJ abK
     cases aqk
     replace Cs := (HB.out.cell (World.block_lt_of_cell? w _ Cs)).trans Cs
     have U8 := Aside0.mk Kx
     have aod := Aside0.mk Kw
     clear Kx Kw
     replace abJ := eq_true abJ
     replace abK := eq_true abK
     go_wp2
     go_loopg [11, 45] k2 (fun kq v11 v45 w' => ∃ (hY : Int) (pE : Int), v11 = .int .i64 hY ∧ v45 = .int .i64 pE ∧ Aside0 (aa.l2 kq l1 cd (wrap64 ((l1.length : Int) - 1)) jf hY l0 (l0.length : Int) jf (aJ l0 jf) ((aJ l0 jf).length : Int) pE = some (r1, r2)) ∧ Aside0 (kq ≤ k2) ∧ Aside0 (Kd.R (Kd.int .i64) 3 w' w.heap.size (fun _ => True) u6 cd) ∧ Aside0 (Below w.heap.size w w'))
     case atStart => exact ⟨(0), (0), dM, dM, H', ⟨Nat.le_refl _⟩, ⟨ci cM.out⟩, ⟨mb HB.out⟩⟩
     case round =>
      clear H'
      obtain ⟨hY, pE, rfl, rfl, HA, nQ, cM, HB⟩ := hrel
      cases gk with
      | zero => exact absurd HA.out (by simp [aa.l2])
      | succ k3 =>
       have H := HA.out
       clear HA
       simp only [aa.l2] at H
       by_cases N6 : pE < ((aJ l0 jf).length : Int)
       ·rw [if_pos N6] at H
        have zJ := decide_eq_true N6
        clear N6
        replace H := fW H; obtain ⟨rI, H⟩ := H
        replace H := fW H; obtain ⟨Ee, H⟩ := H
        replace H := fW H; obtain ⟨we, H⟩ := H
        have H' := Aside0.mk H
        clear H
        have abL : 0 ≤ (pE : Int) := bX
        have abM : pE < ((aJ l0 jf).length : Int) := bX
        obtain ⟨at6, aql, Ct⟩ := Kd.bi U8.out pE abL abM
        cases aql
        replace Ct := (HB.out.cell (World.block_lt_of_cell? w _ Ct)).trans Ct
        replace abL := eq_true abL
        replace abM := eq_true abM
        have abN : 0 ≤ (pE : Int) := bX
        have abO : pE < (l1.length : Int) := bX
        obtain ⟨at7, aqm, Cu⟩ := Kd.bi lz.out pE abN abO
        cases aqm
        replace Cu := (HB.out.cell (World.block_lt_of_cell? w _ Cu)).trans Cu
        replace abN := eq_true abN
        replace abO := eq_true abO
        go_wp2
        go_roundg k3
        case measure => have := dP.out; have := ft.out; have := nQ.out; omega
        case rel => exact ⟨(wrap64 (hY + (wrap64 ((rd (aJ l0 jf) pE) * (rd l1 pE))))), (wrap64 (pE + 1)), dM, dM, H', ⟨by have := dP.out; have := ft.out; have := nQ.out; omega⟩, ⟨ci cM.out⟩, ⟨mb HB.out⟩⟩
       rw [if_neg N6] at H
       have zJ := decide_eq_false N6
       clear N6
       obtain ⟨kY, zM⟩ : ∃ j_ : Int, (wrap64 ((l1.length : Int) - 1)) = j_ := ⟨_, rfl⟩
       replace H : (if 0 ≤ (kY) then (if (kY) < (l1.length : Int) then (if hY > (rd l1 (kY)) then (some (([] : List Int), false)) else (if hY = (rd l1 (kY)) then (if cd.length < 17592186044416 then (aa.l1 k3 l1 (cd ++ [wrap64 ((kY) + jf)]) (kY) l0 (l0.length : Int) (wrap64 (jf + 1))) else (none)) else (aa.l1 k3 l1 cd (kY) l0 (l0.length : Int) (wrap64 (jf + 1))))) else (none)) else (none)) = some (r1, r2) := by first | (rw [zM] at H; exact H) | (simp only [zM] at H ⊢; exact H)
       (try rw [zM] at gX)
       have aqn : (IntKind.i64.wrap ((l1.length : Int) - 1)) = kY := (gn _).trans zM
       replace H := fW H; obtain ⟨BX, H⟩ := H
       replace H := fW H; obtain ⟨ahy, H⟩ := H
       by_cases zN : hY > (rd l1 (kY))
       ·rw [if_pos zN] at H
        have uH : decide ((rd l1 (kY)) < hY) = true := decide_eq_true zN
        clear zN
        simp only [Option.some.injEq, Prod.mk.injEq] at H
        obtain ⟨rfl, rfl⟩ := H
        have zO : 0 ≤ ((kY) : Int) := bX
        have zP : (kY) < (l1.length : Int) := bX
        obtain ⟨Ky, QR, lB⟩ := Kd.bi lz.out (kY) zO zP
        cases QR
        replace lB := (HB.out.cell (World.block_lt_of_cell? w _ lB)).trans lB
        replace zO := eq_true zO
        replace zP := eq_true zP
        go_wp2
        go_ret2
        exact ⟨_, by first | rfl | (simp [fp, fq] <;> rfl) | (simp only [← zM]; first | rfl | (simp [fp, fq] <;> rfl)) | (simp [*, fp, fq] <;> rfl), Cr, mb HB.out⟩
       rw [if_neg zN] at H
       have uH : decide ((rd l1 (kY)) < hY) = false := decide_eq_false zN
       clear zN
       by_cases Be : hY = (rd l1 (kY))
       rotate_left
       ·rw [if_neg Be] at H
        have FN := iQ Be
        have YM := iR Be
        have H' := Aside0.mk H
        clear H
        have zO : 0 ≤ ((kY) : Int) := bX
        have zP : (kY) < (l1.length : Int) := bX
        obtain ⟨Ky, QR, lB⟩ := Kd.bi lz.out (kY) zO zP
        cases QR
        replace lB := (HB.out.cell (World.block_lt_of_cell? w _ lB)).trans lB
        replace zO := eq_true zO
        replace zP := eq_true zP
        have II : 0 ≤ ((kY) : Int) := bX
        have IJ : (kY) < (l1.length : Int) := bX
        obtain ⟨QS, abP, qD⟩ := Kd.bi lz.out (kY) II IJ
        obtain rfl : Ky = QS := (by injection abP)
        replace qD := (HB.out.cell (World.block_lt_of_cell? w _ qD)).trans qD
        replace II := eq_true II
        replace IJ := eq_true IJ
        go_wp2
        subst zM
        go_roundg k3
        case measure => have := dP.out; have := ft.out; have := nQ.out; omega
        case rel => exact ⟨(cd), (wrap64 (jf + 1)), dM, H', ⟨by have := dP.out; have := ft.out; have := nQ.out; omega⟩, ⟨ci cM.out⟩, ⟨mb HB.out⟩⟩
       rw [if_pos Be] at H
       have FN := il Be
       have YM := im Be
       clear Be
       replace H := np H; obtain ⟨FO, H⟩ := H
       replace H := br (cd ++ [wrap64 ((kY) + jf)]) (fun abQ => (aa.l1 k3 l1 abQ (kY) l0 (l0.length : Int) (wrap64 (jf + 1))) = some (r1, r2)) H; obtain ⟨abQ, ah7, H⟩ := H
       have H' := Aside0.mk H
       clear H
       have zO : 0 ≤ ((kY) : Int) := bX
       have zP : (kY) < (l1.length : Int) := bX
       obtain ⟨Ky, QR, lB⟩ := Kd.bi lz.out (kY) zO zP
       cases QR
       replace lB := (HB.out.cell (World.block_lt_of_cell? w _ lB)).trans lB
       replace zO := eq_true zO
       replace zP := eq_true zP
       have II : 0 ≤ ((kY) : Int) := bX
       have IJ : (kY) < (l1.length : Int) := bX
       obtain ⟨QS, abP, qD⟩ := Kd.bi lz.out (kY) II IJ
       obtain rfl : Ky = QS := (by injection abP)
       replace qD := (HB.out.cell (World.block_lt_of_cell? w _ qD)).trans qD
       replace II := eq_true II
       replace IJ := eq_true IJ
       go_wp2_with (first | ((with_reducible refine bC (b := .append) (xs := #[.tmp 71, .tmp 75]) rfl ?_); at_builtin; refine Kd.fV (Kd.int .i64) (w0 := w) w.heap.size rfl (.tmp 71) (.tmp 75) 40 3 (.int .i64 0) 8 rfl Tryz.underlying40 eT rfl (by decide) (by omega) u6 cd (wrap64 ((kY) + jf)) [.int .i64 (wrap64 ((kY) + jf))] (fun _ => True) (fun _ => False) rfl rfl ?aP (fun _ hk => hk.elim) ?aF ?aO ?aB ?aS ?aL ?_; (case aP => exact rfl); (case aB => exact (mb HB.out)); (case aF => exact (fun _ _ => trivial)); (case aO => exact (ci cM.out)); (case aS => exact (aC (mb HB.out))); (case aL => have := FO.out; omega); intro v512 T7 ho hb hg bk; rw [← ah7.out] at ho; replace HB := am (hb); have ah8 := am (ho); clear cM; clear ho hb hg bk))
       subst zM
       go_roundg k3
       case measure => have := dP.out; have := ft.out; have := nQ.out; omega
       case rel => exact ⟨(abQ), (wrap64 (jf + 1)), dM, H', ⟨by have := dP.out; have := ft.out; have := nQ.out; omega⟩, ⟨ci ah8.out⟩, ⟨mb HB.out⟩⟩
def b7.l0 : Nat → List Int → List Int → Int → Int → Option (Bool)
 | 0, _, _, _, _ => none
 | k + 1, x0, x1, oE, sb => if sb < oE then (if 0 ≤ sb then (if sb < (x0.length : Int) then (if sb < (x1.length : Int) then (if (rd x0 sb) = (rd x1 sb) then (b7.l0 k x0 x1 oE (wrap64 (sb + 1))) else (some false)) else (none)) else (none)) else (none)) else (some true)
def b7.f (k : Nat) (l0 : List Int) (l1 : List Int) : Option (Bool) := if (l0.length : Int) = (l1.length : Int) then (b7.l0 k l0 l1 (l0.length : Int) 0) else (some false)
theorem b7.bG : ∀ k, (∀ y0 y1 y2 y3, bB (b7.l0 k y0 y1 y2 y3) (b7.l0 (k + 1) y0 y1 y2 y3))
 | 0 => fun _ _ _ _ r h => by simp [b7.l0] at h
 | k + 1 => by
  have eQ := b7.bG k
  ·intro y0 y1 y2 y3
   unfold b7.l0
   repeat' first
   | (with_reducible exact eQ ..)
   | (with_reducible exact bB.refl _)
   | (with_reducible exact bB.none _)
   | (with_reducible refine bB.ite ?_ ?_)
   | (with_reducible refine bB.bind ?_ (fun _ => ?_))
theorem b7.mono : ∀ a0 a1 k, bB (b7.f k a0 a1) (b7.f (k + 1) a0 a1) := by
 intro a0 a1 k
 have eQ := b7.bG k
 unfold b7.f
 repeat' first
   | (with_reducible exact eQ ..)
   | (with_reducible exact bB.refl _)
   | (with_reducible exact bB.none _)
   | (with_reducible refine bB.ite ?_ ?_)
   | (with_reducible refine bB.bind ?_ (fun _ => ?_))
theorem b7.calls (k : Nat) (A0 : Option Addr) (c0 : Nat) (l0 : List Int) (A1 : Option Addr) (c1 : Nat) (l1 : List Int) (r : Bool) (w : World) (gD : Kd.C (Kd.int .i64) w A0 l0.length l0) (hJ : l0.length ≤ c0) (nn : Kd.C (Kd.int .i64) w A1 l1.length l1) (mN : l1.length ≤ c1) (h : b7.f k l0 l1 = some r) :
  Calls Tryz.prog 92 #[.slice A0 l0.length c0, .slice A1 l1.length c1] w fun e w' => e = .returned (.bool r) ∧ bM w w' := by
 have jt := Aside0.mk gD
 have wj := Aside0.mk hJ
 clear gD hJ
 have lz := Aside0.mk nn
 have Ag := Aside0.mk mN
 clear nn mN
 have H : (if (l0.length : Int) = (l1.length : Int) then (b7.l0 k l0 l1 (l0.length : Int) 0) else (some false)) = some r := h
 clear h
 by_cases c3 : (l0.length : Int) = (l1.length : Int)
 rotate_left
 ·rw [if_neg c3] at H
  have gX := iQ c3
  have qB := iR c3
  have IK : (l0.length == l1.length) = false := by first | simpa using c3 | (simp at c3 ⊢; omega)
  obtain rfl := Option.some.inj H
  go_enter Tryz.func92, Tryz.ntmps92
  go_wp2
  go_ret
  exact ⟨mL, mM⟩
 rw [if_pos c3] at H
 have gX := il c3
 have qB := im c3
 have IK : (l0.length == l1.length) = true := by first | simpa using c3 | (simp at c3 ⊢; omega)
 clear c3
 have H' := Aside0.mk H
 clear H
 go_enter Tryz.func92, Tryz.ntmps92
 go_wp2
 go_loopg [13] k (fun kq v13 w' => ∃ (fX : Int), v13 = .int .i64 fX ∧ Aside0 (b7.l0 kq l0 l1 (l0.length : Int) fX = some r) ∧ Aside0 (kq ≤ k) ∧ bM w w')
 case atStart => exact ⟨(0), dM, H', ⟨Nat.le_refl _⟩, by repeat (first | exact bM.refl _ | apply bM.step)⟩
 case round =>
  clear H'
  obtain ⟨fX, rfl, HA, dP, ⟨m1, rfl⟩⟩ := hrel
  cases gk with
  | zero => exact absurd HA.out (by simp [b7.l0])
  | succ k1 =>
   have H := HA.out
   clear HA
   simp only [b7.l0] at H
   by_cases c4 : fX < (l0.length : Int)
   rotate_left
   ·rw [if_neg c4] at H
    have iI := decide_eq_false c4
    clear c4
    obtain rfl := Option.some.inj H
    go_wp2
    go_ret
    exact ⟨mL, mM⟩
   rw [if_pos c4] at H
   have iI := decide_eq_true c4
   clear c4
   replace H := fW H; obtain ⟨jR, H⟩ := H
   replace H := fW H; obtain ⟨hU, H⟩ := H
   replace H := fW H; obtain ⟨lO, H⟩ := H
   by_cases c8 : (rd l0 fX) = (rd l1 fX)
   rotate_left
   ·rw [if_neg c8] at H
    have oz := iQ c8
    have Hy := iR c8
    obtain rfl := Option.some.inj H
    have IL : 0 ≤ (fX : Int) := bX
    have IM : fX < (l0.length : Int) := bX
    obtain ⟨ah9, abR, U9⟩ := Kd.bi jt.out fX IL IM
    cases abR
    replace IL := eq_true IL
    replace IM := eq_true IM
    have IN : 0 ≤ (fX : Int) := bX
    have IP : fX < (l1.length : Int) := bX
    obtain ⟨ah_, abS, U_⟩ := Kd.bi lz.out fX IN IP
    cases abS
    replace IN := eq_true IN
    replace IP := eq_true IP
    go_wp2
    go_quiet (fail); try go_wp2
    go_ret
    exact ⟨mL, mM⟩
   rw [if_pos c8] at H
   have oz := il c8
   have Hy := im c8
   clear c8
   have H' := Aside0.mk H
   clear H
   have IL : 0 ≤ (fX : Int) := bX
   have IM : fX < (l0.length : Int) := bX
   obtain ⟨ah9, abR, U9⟩ := Kd.bi jt.out fX IL IM
   cases abR
   replace IL := eq_true IL
   replace IM := eq_true IM
   have IN : 0 ≤ (fX : Int) := bX
   have IP : fX < (l1.length : Int) := bX
   obtain ⟨ah_, abS, U_⟩ := Kd.bi lz.out fX IN IP
   cases abS
   replace IN := eq_true IN
   replace IP := eq_true IP
   go_wp2
   go_quiet (fail); try go_wp2
   go_roundg k1
   case measure => have := dP.out; omega
   case rel => exact ⟨(wrap64 (fX + 1)), dM, H', ⟨by have := dP.out; omega⟩, by repeat (first | exact bM.refl _ | apply bM.step)⟩
def bt.l0 : Nat → List Int → List Int → Int → Int → Option (Bool)
 | 0, _, _, _, _ => none
 | k + 1, x0, x1, x7, x8 => if x8 < x7 then (if 0 ≤ x8 then (if x8 < (x0.length : Int) then (if x8 < (x1.length : Int) then (if (rd x0 x8) = (rd x1 x8) then (bt.l0 k x0 x1 x7 (wrap64 (x8 + 1))) else (some (decide ((rd x0 x8) < (rd x1 x8))))) else (none)) else (none)) else (none)) else (some false)
def bt.f (k : Nat) (l0 : List Int) (l1 : List Int) : Option (Bool) := bt.l0 k l0 l1 (l0.length : Int) 0
theorem bt.bG : ∀ k, (∀ y0 y1 y2 y3, bB (bt.l0 k y0 y1 y2 y3) (bt.l0 (k + 1) y0 y1 y2 y3))
 | 0 => fun _ _ _ _ r h => by simp [bt.l0] at h
 | k + 1 => by
  have eQ := bt.bG k
  ·intro y0 y1 y2 y3
   unfold bt.l0
   repeat' first
   | (with_reducible exact eQ ..)
   | (with_reducible exact bB.refl _)
   | (with_reducible exact bB.none _)
   | (with_reducible refine bB.ite ?_ ?_)
   | (with_reducible refine bB.bind ?_ (fun _ => ?_))
theorem bt.mono : ∀ a0 a1 k, bB (bt.f k a0 a1) (bt.f (k + 1) a0 a1) := by
 intro a0 a1 k
 have eQ := bt.bG k
 unfold bt.f
 repeat' first
   | (with_reducible exact eQ ..)
   | (with_reducible exact bB.refl _)
   | (with_reducible exact bB.none _)
   | (with_reducible refine bB.ite ?_ ?_)
   | (with_reducible refine bB.bind ?_ (fun _ => ?_))
theorem bt.calls (k : Nat) (A0 : Option Addr) (c0 : Nat) (l0 : List Int) (A1 : Option Addr) (c1 : Nat) (l1 : List Int) (r : Bool) (w : World) (gD : Kd.C (Kd.int .i64) w A0 l0.length l0) (hJ : l0.length ≤ c0) (nn : Kd.C (Kd.int .i64) w A1 l1.length l1) (mN : l1.length ≤ c1) (h : bt.f k l0 l1 = some r) :
  Calls Tryz.prog 155 #[.slice A0 l0.length c0, .slice A1 l1.length c1] w fun e w' => e = .returned (.bool r) ∧ bM w w' := by
 have jt := Aside0.mk gD
 have wj := Aside0.mk hJ
 clear gD hJ
 have lz := Aside0.mk nn
 have Ag := Aside0.mk mN
 clear nn mN
 have H : (bt.l0 k l0 l1 (l0.length : Int) 0) = some r := h
 clear h
 have H' := Aside0.mk H
 clear H
 go_enter Tryz.func155, Tryz.ntmps155
 go_wp2
 go_loopg [8] k (fun kq v8 w' => ∃ (cK : Int), v8 = .int .i64 cK ∧ Aside0 (bt.l0 kq l0 l1 (l0.length : Int) cK = some r) ∧ Aside0 (kq ≤ k) ∧ bM w w')
 case atStart => exact ⟨(0), dM, H', ⟨Nat.le_refl _⟩, by repeat (first | exact bM.refl _ | apply bM.step)⟩
 case round =>
  clear H'
  obtain ⟨cK, rfl, HA, dP, ⟨m1, rfl⟩⟩ := hrel
  cases gk with
  | zero => exact absurd HA.out (by simp [bt.l0])
  | succ k1 =>
   have H := HA.out
   clear HA
   simp only [bt.l0] at H
   by_cases c3 : cK < (l0.length : Int)
   rotate_left
   ·rw [if_neg c3] at H
    have gX := decide_eq_false c3
    clear c3
    obtain rfl := Option.some.inj H
    go_wp2
    go_ret
    exact ⟨mL, mM⟩
   rw [if_pos c3] at H
   have gX := decide_eq_true c3
   clear c3
   replace H := fW H; obtain ⟨iI, H⟩ := H
   replace H := fW H; obtain ⟨jR, H⟩ := H
   replace H := fW H; obtain ⟨hU, H⟩ := H
   by_cases c7 : (rd l0 cK) = (rd l1 cK)
   ·rw [if_pos c7] at H
    have lO := il c7
    have xf := im c7
    clear c7
    have H' := Aside0.mk H
    clear H
    have IQ : 0 ≤ (cK : Int) := bX
    have IS : cK < (l0.length : Int) := bX
    obtain ⟨YN, abT, Ua⟩ := Kd.bi jt.out cK IQ IS
    cases abT
    replace IQ := eq_true IQ
    replace IS := eq_true IS
    have IT : 0 ≤ (cK : Int) := bX
    have IU : cK < (l1.length : Int) := bX
    obtain ⟨YO, abU, Ub⟩ := Kd.bi lz.out cK IT IU
    cases abU
    replace IT := eq_true IT
    replace IU := eq_true IU
    go_wp2
    go_quiet (fail); try go_wp2
    go_roundg k1
    case measure => have := dP.out; omega
    case rel => exact ⟨(wrap64 (cK + 1)), dM, H', ⟨by have := dP.out; omega⟩, by repeat (first | exact bM.refl _ | apply bM.step)⟩
   rw [if_neg c7] at H
   have lO := iQ c7
   have xf := iR c7
   obtain rfl := Option.some.inj H
   have IQ : 0 ≤ (cK : Int) := bX
   have IS : cK < (l0.length : Int) := bX
   obtain ⟨YN, abT, Ua⟩ := Kd.bi jt.out cK IQ IS
   cases abT
   replace IQ := eq_true IQ
   replace IS := eq_true IS
   have IT : 0 ≤ (cK : Int) := bX
   have IU : cK < (l1.length : Int) := bX
   obtain ⟨YO, abU, Ub⟩ := Kd.bi lz.out cK IT IU
   cases abU
   replace IT := eq_true IT
   replace IU := eq_true IU
   have abV : 0 ≤ (cK : Int) := bX
   have abW : cK < (l0.length : Int) := bX
   obtain ⟨ah', aqo, aoe⟩ := Kd.bi jt.out cK abV abW
   obtain rfl : YN = ah' := (by injection aqo)
   replace abV := eq_true abV
   replace abW := eq_true abW
   have abX : 0 ≤ (cK : Int) := bX
   have abY : cK < (l1.length : Int) := bX
   obtain ⟨aia, aqp, aof⟩ := Kd.bi lz.out cK abX abY
   obtain rfl : YO = aia := (by injection aqp)
   replace abX := eq_true abX
   replace abY := eq_true abY
   go_wp2
   repeat (go_quiet (fail); try go_wp2)
   go_ret
   exact ⟨mL, mM⟩
end Go.Proofs.YtggiicplcglalaaGreat.All
end
