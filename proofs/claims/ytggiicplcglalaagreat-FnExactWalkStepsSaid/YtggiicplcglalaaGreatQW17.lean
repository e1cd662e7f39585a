/- Part of the proof that FnExactWalkSteps answers true. -/
import Derived.Test.YtggiicplcglalaaGreatQW16
section
namespace Go.Proofs.YtggiicplcglalaaGreat.All
open Go.RowKit YtggiicplcglalaaGreatW.PrintWords YtggiicplcglalaaGreatW.PrintLast YtggiicplcglalaaGreatW.PrintMore
attribute [local go_sem] max2_int min2_int max_two min_two max_three min_three max_four min_four
set_option linter.unusedVariables false
set_option linter.unusedSimpArgs false
set_option maxHeartbeats 8000000
set_option maxRecDepth 100000
def bo.f (k : Nat) (aD : List (List Int)) (aG : List (List Int)) (a1 : Int) : Option (Bool) := (cA.f k aD aG).bind fun RF => (if RF = true then (if 0 < (aD.length : Int) then ((ek.f a1 0 (wrap64 ((wrap64 ((aD.length : Int) + ((aJ aD 0).length : Int))) - 1))).bind fun RG => (if RG = true then ((ab.f k aD aG).bind fun Ic => (some Ic)) else (some false))) else (none)) else (some false))
theorem bo.mono : ∀ a0 a1 a2 k, bB (bo.f k a0 a1 a2) (bo.f (k + 1) a0 a1 a2) := by
 intro a0 a1 a2 k
 unfold bo.f
 repeat' first
   | (with_reducible exact cA.mono ..)
   | (with_reducible exact ab.mono ..)
   | (with_reducible exact bB.refl _)
   | (with_reducible exact bB.none _)
   | (with_reducible refine bB.ite ?_ ?_)
   | (with_reducible refine bB.bind ?_ (fun _ => ?_))
def bo.T1 : Bool × List (List Nat × List Nat) := (true, [([], []), ([0], [0]), ([1, 1], [1]), ([2], [2]), ([2], [2]), ([4, 2], [2, 4]), ([5, 2], [2, 5]), ([2], [2]), ([7, 2], [2, 7]), ([8, 2], [2, 8]), ([9, 2], [2, 9]), ([10, 2], [2, 10]), ([6, 11, 2], [2, 6, 11]), ([12, 2], [2, 12]), ([3, 13, 2, 2], [2, 3, 13]), ([2, 14], [2, 14]), ([15, 14], [15]), ([16], [16]), ([17, 16, 16], [16, 17]), ([16, 18], [16, 18]), ([19, 18, 0, 1, 2, 3, 4, 5, 6, 7, 8, 9, 10, 11, 12, 13, 14, 15, 16, 17, 18, 19], [19])])
def bo.B1 : List Nat := [0, 1, 3, 7, 7, 23, 55, 7, 135, 391, 903, 1927, 4087, 8183, 16383, 32767, 65535, 131071, 262143, 524287, 1048575]
theorem bo.mc : fh .any (opsOf Tryz.f97 1) = bo.T1 := by kernel_rfl
theorem bo.jY : fG bo.T1.2 bo.B1 = true := by kernel_rfl
theorem bo.calls (k : Nat) (ay : Option Addr) (ap : Nat) (aD : List (List Int)) (ae : Option Addr) (a8 : Nat) (aG : List (List Int)) (a1 : Int) (r : Bool) (w : World) (db : Kd.C (Kd.slice 3 (Kd.int .i64)) w ay aD.length aD) (dc : aD.length ≤ ap) (dH : Kd.C (Kd.slice 3 (Kd.int .i64)) w ae aG.length aG) (dI : aG.length ≤ a8) (h : bo.f k aD aG a1 = some r) :
  Calls Tryz.prog 97 #[.agg #[.slice ay aD.length ap, .slice ae aG.length a8], .int .i64 a1] w fun e w' => e = .returned (.bool r) ∧ Below w.heap.size w w' := by
 have rD := Tryz.underlying28
 have bl := Aside0.mk db
 have bz := Aside0.mk dc
 clear db dc
 have bx := Aside0.mk dH
 have cE := Aside0.mk dI
 clear dH dI
 have HB := Aside0.mk (Below.refl w.heap.size w)
 have H : ((cA.f k aD aG).bind fun RF => (if RF = true then (if 0 < (aD.length : Int) then ((ek.f a1 0 (wrap64 ((wrap64 ((aD.length : Int) + ((aJ aD 0).length : Int))) - 1))).bind fun RG => (if RG = true then ((ab.f k aD aG).bind fun Ic => (some Ic)) else (some false))) else (none)) else (some false))) = some r := h
 clear h
 replace H := bZ H; obtain ⟨RF, A3, H⟩ := H
 by_cases c4 : RF = true
 rotate_left
 ·replace c4 := Bool.eq_false_iff.mpr c4
  subst c4
  replace H := sZ H
  obtain rfl := Option.some.inj H
  go_enter Tryz.func97, Tryz.ntmps97
  try go_wp2_with (first | ((with_reducible refine ah (N := 2) rfl ?_); (try (refine ga (by rfl) ?_; dsimp only)); refine bE 2 #[.slice ay aD.length ap, .slice ae aG.length a8] 28 ?_; intro wy hg NO bO hb; have fZ := am (bO); have F1 := gW HB hg; have Yo := F1; replace HB := bS HB hb; clear hb bO hg))
  replace fZ := am (az fZ.out)
  replace HB := am (bd HB.out)
  refine fA (n := 21) (S := fun w' => w'.cell? ⟨wy, 0, none⟩ = some (.slice ay aD.length ap) ∧ w'.cell? ⟨wy, 1, none⟩ = some (.slice ae aG.length a8)) (ds := []) (Array.replicate 21 false) (by kernel_rfl) rfl rfl ⟨(aQ fZ.out 0).trans rfl, (aQ fZ.out 1).trans rfl⟩ (fun ai => ?_); refine cv bo.mc bo.jY (fun ak fz => ?_)
  generalize NO.drew = T6 at fZ HB ai ⊢
  refine tY 0 5 ak fz ai ?_
  refine oY 1 6 ak (fun K hK => ?_)
  refine gY Tryz.func54 #[.agg #[.slice ay aD.length ap, .slice ae aG.length a8]] ?_
  with_reducible refine (cA.calls k _ _ aD _ _ aG false _ ?aT ?aU ?ao ?ar A3.out).mono ?_
  (case aT => exact cB bl HB)
  (case aU => exact bz.out)
  (case ao => exact cB bx HB)
  (case ar => exact cE.out)
  rintro e Ow ⟨rfl, hb⟩
  refine ⟨_, rfl, ?_⟩
  replace fZ := kS fZ hb
  replace HB := bS HB hb
  (try clear hb)
  (try clear sj)
  (try clear hk)
  (try clear hi)
  refine hK.out _ _ ⟨(aQ fZ.out 0).trans rfl, (aQ fZ.out 1).trans rfl⟩ (fun ai => ?_)
  clear hK K
  refine nY 6 ?_
  refine pY 2 7 ak ?_
  refine uY 3 8 ak ?_; refine uY 4 9 ak ?_
  refine uY 5 10 ak ?_; refine uY 6 11 ak ?_
  refine uY 7 12 ak ?_; refine uY 8 13 ak ?_
  refine uY 9 14 ak ?_; refine uY 10 15 ak ?_
  refine uY 11 16 ak ?_; refine uY 12 17 ak ?_
  refine uY 13 18 ak ?_; refine uY 14 19 ak ?_
  refine pY 15 20 ak ?_
  refine pY 16 21 ak ?_
  refine uY 17 22 ak ?_; refine uY 18 23 ak ?_
  refine pY 19 24 ak ?_
  refine pY 20 4 ak ?_
  refine dY ak ?_
  try go_wp2
  go_ret
  exact ⟨jC, mb HB.out⟩
 subst c4
 replace H := sY H
 replace H := oo H; obtain ⟨c5, H⟩ := H
 have jR := decide_eq_true c5
 have Au : decide (0 < aD.length) = true := decide_eq_true (by omega)
 clear c5
 replace H := bZ H; obtain ⟨RG, A6, H⟩ := H
 by_cases c7 : RG = true
 rotate_left
 ·replace c7 := Bool.eq_false_iff.mpr c7
  subst c7
  replace H := sZ H
  obtain rfl := Option.some.inj H
  go_enter Tryz.func97, Tryz.ntmps97
  try go_wp2_with (first | ((with_reducible refine ah (N := 2) rfl ?_); (try (refine ga (by rfl) ?_; dsimp only)); refine bE 2 #[.slice ay aD.length ap, .slice ae aG.length a8] 28 ?_; intro wy hg E2 bO hb; have fZ := am (bO); have F1 := gW HB hg; have Yo := F1; replace HB := bS HB hb; clear hb bO hg))
  replace fZ := am (az fZ.out)
  replace HB := am (bd HB.out)
  have Ie : 0 ≤ (0 : Int) := (by omega)
  have Ig : 0 < (aD.length : Int) := bX
  obtain ⟨zb, RH, RI, ada, jG, u_, ua⟩ := eO bl.out 0 Ie Ig
  have hZ := jG
  (try rw [show ((0 : Int)).toNat = 0 from rfl] at hZ)
  (try rw [show 0 * 1 = 0 from rfl] at hZ)
  (try rw [Addr.add_zero'] at hZ)
  cases ada
  have ajL : (0 < aD.length) = True := eq_true (by omega)
  (try rw [show ((0 : Int)).toNat = 0 from rfl] at jG)
  (try rw [Addr.add_zero'] at jG)
  replace jG := (HB.out.cell (World.block_lt_of_cell? w _ jG)).trans jG
  have DR := Aside0.mk ua
  have VT := Aside0.mk u_
  clear ua u_
  replace Ie := eq_true Ie
  replace Ig := eq_true Ig
  refine fA (n := 21) (S := fun w' => w'.cell? ⟨wy, 0, none⟩ = some (.slice (some zb) aD.length ap) ∧ w'.cell? ⟨wy, 1, none⟩ = some (.slice ae aG.length a8) ∧ w'.cell? zb = some (.slice RH (aJ aD 0).length RI)) (ds := []) (Array.replicate 21 false) (by kernel_rfl) rfl rfl ⟨(aQ fZ.out 0).trans rfl, (aQ fZ.out 1).trans rfl, ((HB.out.cell (World.block_lt_of_cell? w _ hZ)).trans hZ)⟩ (fun ai => ?_); refine cv bo.mc bo.jY (fun ak fz => ?_)
  generalize E2.drew = w14 at fZ HB DR jG ai ⊢
  refine tY 0 5 ak fz ai ?_
  refine oY 1 6 ak (fun K hK => ?_)
  refine gY Tryz.func54 #[.agg #[.slice (some zb) aD.length ap, .slice ae aG.length a8]] ?_
  with_reducible refine (cA.calls k _ _ aD _ _ aG true _ ?aT ?aU ?ao ?ar A3.out).mono ?_
  (case aT => exact cB bl HB)
  (case aU => exact bz.out)
  (case ao => exact cB bx HB)
  (case ar => exact cE.out)
  rintro e NQ ⟨rfl, hb⟩
  refine ⟨_, rfl, ?_⟩
  replace fZ := kS fZ hb
  replace HB := bS HB hb
  (try clear hb)
  (try clear sj)
  (try clear hk)
  (try clear hi)
  refine hK.out _ _ ⟨(aQ fZ.out 0).trans rfl, (aQ fZ.out 1).trans rfl, ((HB.out.cell (World.block_lt_of_cell? w _ hZ)).trans hZ)⟩ (fun ai => ?_)
  clear hK K
  refine nY 6 ?_
  refine pY 2 7 ak ?_
  refine pY 3 8 ak ?_
  refine pY 4 9 ak ?_
  refine pY 7 12 ak ?_
  refine tY 5 10 ak fz ai ?_
  refine pY 6 11 ak ?_
  refine tY 8 13 ak fz ai ?_
  refine pY 9 14 ak ?_
  refine tY 10 15 ak fz ai ?_
  refine pY 11 16 ak ?_
  refine pY 12 17 ak ?_
  refine pY 13 18 ak ?_
  refine oY 14 19 ak (fun K hK => ?_)
  refine gY Tryz.func103 #[.int .i64 a1, .int .i64 0, .int .i64 (wrap64 ((wrap64 ((aD.length : Int) + ((aJ aD 0).length : Int))) - 1))] ?_
  with_reducible refine (ek.calls a1 0 (wrap64 ((wrap64 ((aD.length : Int) + ((aJ aD 0).length : Int))) - 1)) false _ A6.out).mono ?_
  rintro e w' ⟨rfl, ⟨nd, rfl⟩⟩
  refine ⟨_, rfl, ?_⟩
  refine hK.out _ _ ⟨(aQ fZ.out 0).trans rfl, (aQ fZ.out 1).trans rfl, ((HB.out.cell (World.block_lt_of_cell? w _ hZ)).trans hZ)⟩ (fun ai => ?_)
  clear hK K
  refine nY 19 ?_
  refine pY 15 20 ak ?_
  refine pY 16 21 ak ?_
  refine uY 17 22 ak ?_; refine uY 18 23 ak ?_
  refine pY 19 24 ak ?_
  refine pY 20 4 ak ?_
  refine dY ak ?_
  try go_wp2
  go_ret
  exact ⟨jC, mb HB.out⟩
 subst c7
 replace H := sY H
 replace H := bZ H; obtain ⟨Ic, A8, H⟩ := H
 obtain rfl := Option.some.inj H
 go_enter Tryz.func97, Tryz.ntmps97
 try go_wp2_with (first | ((with_reducible refine ah (N := 2) rfl ?_); (try (refine ga (by rfl) ?_; dsimp only)); refine bE 2 #[.slice ay aD.length ap, .slice ae aG.length a8] 28 ?_; intro wy hg w9 bO hb; have fZ := am (bO); have F1 := gW HB hg; have Yo := F1; replace HB := bS HB hb; clear hb bO hg))
 replace fZ := am (az fZ.out)
 replace HB := am (bd HB.out)
 have Ie : 0 ≤ (0 : Int) := (by omega)
 have Ig : 0 < (aD.length : Int) := bX
 obtain ⟨zb, RH, RI, ada, jG, u_, ua⟩ := eO bl.out 0 Ie Ig
 have hZ := jG
 (try rw [show ((0 : Int)).toNat = 0 from rfl] at hZ)
 (try rw [show 0 * 1 = 0 from rfl] at hZ)
 (try rw [Addr.add_zero'] at hZ)
 cases ada
 have ajL : (0 < aD.length) = True := eq_true (by omega)
 (try rw [show ((0 : Int)).toNat = 0 from rfl] at jG)
 (try rw [Addr.add_zero'] at jG)
 replace jG := (HB.out.cell (World.block_lt_of_cell? w _ jG)).trans jG
 have DR := Aside0.mk ua
 have VT := Aside0.mk u_
 clear ua u_
 replace Ie := eq_true Ie
 replace Ig := eq_true Ig
 refine fA (n := 21) (S := fun w' => w'.cell? ⟨wy, 0, none⟩ = some (.slice (some zb) aD.length ap) ∧ w'.cell? ⟨wy, 1, none⟩ = some (.slice ae aG.length a8)) (ds := []) (Array.replicate 21 false) (by kernel_rfl) rfl rfl ⟨(aQ fZ.out 0).trans rfl, (aQ fZ.out 1).trans rfl⟩ (fun ai => ?_); refine cv bo.mc bo.jY (fun ak fz => ?_)
 generalize w9.drew = BZ at fZ HB DR jG ai ⊢
 refine tf (i := 0) (N := some 5) (v := ?_) (a' := ?_) #[true, false, false, false, false, false, false, false, false, false, false, false, false, false, false, false, false, false, false, false, false] rfl rfl (F_ ak.out fz.out (by kernel_rfl)) (fun _ _ _ h => h) (Or.inl ⟨by rfl, ?_⟩) ai ?_ ?_; rotate_left; rintro w' ⟨s0, s1⟩; go_simp; with_reducible rfl; rotate_left; exact Ih
 refine oY 1 6 ak (fun K hK => ?_)
 refine gY Tryz.func54 #[.agg #[.slice (some zb) aD.length ap, .slice ae aG.length a8]] ?_
 with_reducible refine (cA.calls k _ _ aD _ _ aG true _ ?aT ?aU ?ao ?ar A3.out).mono ?_
 (case aT => exact cB bl HB)
 (case aU => exact bz.out)
 (case ao => exact cB bx HB)
 (case ar => exact cE.out)
 rintro e tu ⟨rfl, hb⟩
 refine ⟨_, rfl, ?_⟩
 replace fZ := kS fZ hb
 replace HB := bS HB hb
 have hy_ := (HB.out.cell (World.block_lt_of_cell? w _ hZ)).trans hZ
 (try clear hb)
 (try clear sj)
 (try clear hk)
 (try clear hi)
 refine hK.out _ _ ⟨(aQ fZ.out 0).trans rfl, (aQ fZ.out 1).trans rfl⟩ (fun ai => ?_)
 clear hK K
 refine nY 6 ?_
 refine pY 2 7 ak ?_
 refine pY 3 8 ak ?_
 refine pY 4 9 ak ?_
 refine pY 7 12 ak ?_
 refine tY 5 10 ak fz ai ?_
 refine pY 6 11 ak ?_
 refine tY 8 13 ak fz ai ?_
 refine pY 9 14 ak ?_
 refine oY 10 15 ak (fun K hK => ?_)
 refine rP (w1 := ?_) (v := ?_) (by rfl) rfl ?_ ?_
 rotate_left 2
 ·go_simp
  constructor
  ·rfl
  ·rfl
 refine hK.out _ _ ⟨(aQ fZ.out 0).trans rfl, (aQ fZ.out 1).trans rfl⟩ (fun ai => ?_)
 clear hK K
 refine nY 15 ?_
 refine pY 11 16 ak ?_
 refine pY 12 17 ak ?_
 refine pY 13 18 ak ?_
 refine oY 14 19 ak (fun K hK => ?_)
 refine gY Tryz.func103 #[.int .i64 a1, .int .i64 0, .int .i64 (wrap64 ((wrap64 ((aD.length : Int) + ((aJ aD 0).length : Int))) - 1))] ?_
 with_reducible refine (ek.calls a1 0 (wrap64 ((wrap64 ((aD.length : Int) + ((aJ aD 0).length : Int))) - 1)) true _ A6.out).mono ?_
 rintro e w' ⟨rfl, ⟨nd, rfl⟩⟩
 refine ⟨_, rfl, ?_⟩
 refine hK.out _ _ ⟨(aQ fZ.out 0).trans rfl, (aQ fZ.out 1).trans rfl⟩ (fun ai => ?_)
 clear hK K
 refine nY 19 ?_
 refine pY 15 20 ak ?_
 refine pY 16 21 ak ?_
 refine tY 17 22 ak fz ai ?_
 refine oY 18 23 ak (fun K hK => ?_)
 refine gY Tryz.func55 #[.agg #[.slice (some zb) aD.length ap, .slice ae aG.length a8]] ?_
 with_reducible refine (ab.calls k _ _ aD _ _ aG Ic _ ?aT ?aU ?ao ?ar A8.out).mono ?_
 (case aT => exact fy (Kd.bh bl.out (mb HB.out)))
 (case aU => exact bz.out)
 (case ao => exact fy (Kd.bh bx.out (mb HB.out)))
 (case ar => exact cE.out)
 rintro e Ou ⟨rfl, hb⟩
 refine ⟨_, rfl, ?_⟩
 replace fZ := kS fZ hb
 replace HB := bS HB hb
 have hy_ := (HB.out.cell (World.block_lt_of_cell? w _ hZ)).trans hZ
 (try clear hb)
 (try clear sj)
 (try clear hk)
 (try clear hi)
 refine hK.out _ _ ⟨(aQ fZ.out 0).trans rfl, (aQ fZ.out 1).trans rfl⟩ (fun ai => ?_)
 clear hK K
 refine nY 23 ?_
 refine pY 19 24 ak ?_
 refine pY 20 4 ak ?_
 refine dY ak ?_
 try go_wp2
 go_ret
 exact ⟨jC, mb HB.out⟩
def bu.l0 : Nat → Int → List Int → Int → Int → Option (Bool)
 | 0, _, _, _, _ => none
 | k + 1, x1, x7, x8, x9 => if x9 < x8 then (if 0 ≤ x9 then (if x9 < (x7.length : Int) then (if (rd x7 x9) = x1 then (some true) else (bu.l0 k x1 x7 x8 (wrap64 (x9 + 1)))) else (none)) else (none)) else (some false)
def bu.f (k : Nat) (l0 : List Int) (a1 : Int) : Option (Bool) := bu.l0 k a1 l0 (l0.length : Int) 0
theorem bu.bG : ∀ k, (∀ y0 y1 y2 y3, bB (bu.l0 k y0 y1 y2 y3) (bu.l0 (k + 1) y0 y1 y2 y3))
 | 0 => fun _ _ _ _ r h => by simp [bu.l0] at h
 | k + 1 => by
  have eQ := bu.bG k
  ·intro y0 y1 y2 y3
   unfold bu.l0
   repeat' first
   | (with_reducible exact eQ ..)
   | (with_reducible exact bB.refl _)
   | (with_reducible exact bB.none _)
   | (with_reducible refine bB.ite ?_ ?_)
   | (with_reducible refine bB.bind ?_ (fun _ => ?_))
theorem bu.mono : ∀ a0 a1 k, bB (bu.f k a0 a1) (bu.f (k + 1) a0 a1) := by
 intro a0 a1 k
 have eQ := bu.bG k
 unfold bu.f
 repeat' first
   | (with_reducible exact eQ ..)
   | (with_reducible exact bB.refl _)
   | (with_reducible exact bB.none _)
   | (with_reducible refine bB.ite ?_ ?_)
   | (with_reducible refine bB.bind ?_ (fun _ => ?_))
theorem bu.calls (k : Nat) (A0 : Option Addr) (c0 : Nat) (l0 : List Int) (a1 : Int) (r : Bool) (w : World) (gD : Kd.C (Kd.int .i64) w A0 l0.length l0) (hJ : l0.length ≤ c0) (h : bu.f k l0 a1 = some r) :
  Calls Tryz.prog 176 #[.slice A0 l0.length c0, .int .i64 a1] w fun e w' => e = .returned (.bool r) ∧ bM w w' := by
 have jt := Aside0.mk gD
 have wj := Aside0.mk hJ
 clear gD hJ
 have H : (bu.l0 k a1 l0 (l0.length : Int) 0) = some r := h
 clear h
 have H' := Aside0.mk H
 clear H
 go_enter Tryz.func176, Tryz.ntmps176
 go_wp2
 go_loopg [9] k (fun kq v9 w' => ∃ (xl : Int), v9 = .int .i64 xl ∧ Aside0 (bu.l0 kq a1 l0 (l0.length : Int) xl = some r) ∧ Aside0 (kq ≤ k) ∧ bM w w')
 case atStart => exact ⟨(0), dM, H', ⟨Nat.le_refl _⟩, by repeat (first | exact bM.refl _ | apply bM.step)⟩
 case round =>
  clear H'
  obtain ⟨xl, rfl, HA, dP, ⟨m1, rfl⟩⟩ := hrel
  cases gk with
  | zero => exact absurd HA.out (by simp [bu.l0])
  | succ k1 =>
   have H := HA.out
   clear HA
   simp only [bu.l0] at H
   by_cases c3 : xl < (l0.length : Int)
   rotate_left
   ·rw [if_neg c3] at H
    have gX := decide_eq_false c3
    clear c3
    obtain rfl := Option.some.inj H
    go_wp2
    go_ret
    exact ⟨mL, mM⟩
   rw [if_pos c3] at H
   have gX := decide_eq_true c3
   clear c3
   replace H := fW H; obtain ⟨iI, H⟩ := H
   replace H := fW H; obtain ⟨jR, H⟩ := H
   by_cases c6 : (rd l0 xl) = a1
   ·rw [if_pos c6] at H
    have hU := il c6
    have vt := im c6
    clear c6
    obtain rfl := Option.some.inj H
    have Ii : 0 ≤ (xl : Int) := bX
    have Ij : xl < (l0.length : Int) := bX
    obtain ⟨ajM, adb, VU⟩ := Kd.bi jt.out xl Ii Ij
    cases adb
    replace Ii := eq_true Ii
    replace Ij := eq_true Ij
    go_wp2
    go_ret
    exact ⟨mL, mM⟩
   rw [if_neg c6] at H
   have hU := iQ c6
   have vt := iR c6
   have H' := Aside0.mk H
   clear H
   have Ii : 0 ≤ (xl : Int) := bX
   have Ij : xl < (l0.length : Int) := bX
   obtain ⟨ajM, adb, VU⟩ := Kd.bi jt.out xl Ii Ij
   cases adb
   replace Ii := eq_true Ii
   replace Ij := eq_true Ij
   go_wp2
   go_roundg k1
   case measure => have := dP.out; omega
   case rel => exact ⟨(wrap64 (xl + 1)), dM, H', ⟨by have := dP.out; omega⟩, by repeat (first | exact bM.refl _ | apply bM.step)⟩
mutual
def a6.l0 : Nat → Int → List Int → Int → List Int → List (List Int) → Int → Int → List (List Int) → List (List Int) → Option (List Int × Int)
 | 0, _, _, _, _, _, _, _, _, _ => none
 | k + 1, x1, x2, x3, iM, o8, Bh, tM, oP, oQ => if tM < Bh then (if 0 ≤ tM then (if tM < (o8.length : Int) then ((b7.f k (aJ o8 tM) x2).bind fun RJ => (if RJ = true then (a6.l0 k x1 x2 x3 iM o8 Bh (wrap64 (tM + 1)) oP oQ) else ((a_.f k oP oQ x1 (aJ o8 tM)).bind fun km => (a6.l1 k x1 x2 x3 iM km 0 (-1) o8 Bh tM km (km.length : Int) 0 oP oQ)))) else (none)) else (none)) else (some (x2, x3))
def a6.l1 : Nat → Int → List Int → Int → List Int → List Int → Int → Int → List (List Int) → Int → Int → List Int → Int → Int → List (List Int) → List (List Int) → Option (List Int × Int)
 | 0, _, _, _, _, _, _, _, _, _, _, _, _, _, _, _ => none
 | k + 1, x1, x2, x3, iM, sb, x14, wD, o8, Bh, tM, td, NS, sc, oP, oQ => if sc < NS then (if 0 ≤ sc then (if sc < (td.length : Int) then ((bu.f k iM (rd td sc)).bind fun RK => (if RK = true then (a6.l1 k x1 x2 x3 iM sb (wrap64 (x14 + 1)) wD o8 Bh tM td NS (wrap64 (sc + 1)) oP oQ) else (a6.l1 k x1 x2 x3 iM sb x14 (rd td sc) o8 Bh tM td NS (wrap64 (sc + 1)) oP oQ))) else (none)) else (none)) else (if x14 = (wrap64 ((iM.length : Int) - 1)) then ((bu.f k sb x3).bind fun RL => (if RL = true then (a6.l0 k x1 x2 x3 iM o8 Bh (wrap64 (tM + 1)) oP oQ) else (some ((aJ o8 tM), wD)))) else (a6.l0 k x1 x2 x3 iM o8 Bh (wrap64 (tM + 1)) oP oQ))
end
def a6.f (k : Nat) (aD : List (List Int)) (aG : List (List Int)) (a1 : Int) (l2 : List Int) (a3 : Int) : Option (List Int × Int) := (a_.f k aD aG a1 l2).bind fun ub => ((aW.f k aD aG a1).bind fun Ik => ((aE.f k Ik).bind fun kn => (a6.l0 k a1 l2 a3 ub kn (kn.length : Int) 0 aD aG)))
theorem a6.bG : ∀ k, (∀ y0 y1 y2 y3 y4 y5 y6 y7 y8, bB (a6.l0 k y0 y1 y2 y3 y4 y5 y6 y7 y8) (a6.l0 (k + 1) y0 y1 y2 y3 y4 y5 y6 y7 y8)) ∧ (∀ y0 y1 y2 y3 y4 y5 y6 y7 y8 y9 zB YH y12 y13 y14, bB (a6.l1 k y0 y1 y2 y3 y4 y5 y6 y7 y8 y9 zB YH y12 y13 y14) (a6.l1 (k + 1) y0 y1 y2 y3 y4 y5 y6 y7 y8 y9 zB YH y12 y13 y14))
 | 0 => ⟨fun _ _ _ _ _ _ _ _ _ r h => by simp [a6.l0] at h, fun _ _ _ _ _ _ _ _ _ _ _ _ _ _ _ r h => by simp [a6.l1] at h⟩
 | k + 1 => by
  obtain ⟨eQ, kP⟩ := a6.bG k
  refine ⟨?_, ?_⟩ <;> intros <;> (first | unfold a6.l0 | unfold a6.l1)
  all_goals repeat' first
  | (with_reducible exact eQ ..)
  | (with_reducible exact kP ..)
  | (with_reducible exact aE.mono ..)
  | (with_reducible exact aW.mono ..)
  | (with_reducible exact a_.mono ..)
  | (with_reducible exact bu.mono ..)
  | (with_reducible exact b7.mono ..)
  | (with_reducible exact bB.refl _)
  | (with_reducible exact bB.none _)
  | (with_reducible refine bB.ite ?_ ?_)
  | (with_reducible refine bB.bind ?_ (fun _ => ?_))
theorem a6.mono : ∀ a0 a1 a2 a3 a4 k, bB (a6.f k a0 a1 a2 a3 a4) (a6.f (k + 1) a0 a1 a2 a3 a4) := by
 intro a0 a1 a2 a3 a4 k
 obtain ⟨eQ, kP⟩ := a6.bG k
 unfold a6.f
 repeat' first
   | (with_reducible exact eQ ..)
   | (with_reducible exact kP ..)
   | (with_reducible exact aE.mono ..)
   | (with_reducible exact aW.mono ..)
   | (with_reducible exact a_.mono ..)
   | (with_reducible exact bu.mono ..)
   | (with_reducible exact b7.mono ..)
   | (with_reducible exact bB.refl _)
   | (with_reducible exact bB.none _)
   | (with_reducible refine bB.ite ?_ ?_)
   | (with_reducible refine bB.bind ?_ (fun _ => ?_))
theorem a6.calls (k : Nat) (ay : Option Addr) (ap : Nat) (aD : List (List Int)) (ae : Option Addr) (a8 : Nat) (aG : List (List Int)) (a1 : Int) (A2 : Option Addr) (c2 : Nat) (l2 : List Int) (a3 : Int) (r1 : List Int) (r2 : Int) (w : World) (db : Kd.C (Kd.slice 3 (Kd.int .i64)) w ay aD.length aD) (dc : aD.length ≤ ap) (dH : Kd.C (Kd.slice 3 (Kd.int .i64)) w ae aG.length aG) (dI : aG.length ≤ a8) (hs2 : Kd.V (Kd.int .i64) 3 w w.heap.size (fun _ => True) (.slice A2 l2.length c2) l2) (h : a6.f k aD aG a1 l2 a3 = some (r1, r2)) :
  Calls Tryz.prog 148 #[.agg #[.slice ay aD.length ap, .slice ae aG.length a8], .int .i64 a1, .slice A2 l2.length c2, .int .i64 a3] w fun e w' => ∃ iE : Value, e = .returned (.tuple #[iE, .int .i64 r2]) ∧ Kd.V (Kd.int .i64) 3 w' w.heap.size (fun _ => True) iE r1 ∧ Below w.heap.size w w' := by
 have Ai := (Kd.bN hs2).2.2
 have N2 := (Kd.bN hs2).2.1
 have HS2 := Aside0.mk hs2
 clear hs2
 have rD := Tryz.underlying28
 have bl := Aside0.mk db
 have bz := Aside0.mk dc
 clear db dc
 have bx := Aside0.mk dH
 have cE := Aside0.mk dI
 clear dH dI
 have HR2 := Aside0.mk Ai
 have T_ := Aside0.mk N2
 clear Ai N2
 have HB := Aside0.mk (Below.refl w.heap.size w)
 have H : ((a_.f k aD aG a1 l2).bind fun ub => ((aW.f k aD aG a1).bind fun Ik => ((aE.f k Ik).bind fun kn => (a6.l0 k a1 l2 a3 ub kn (kn.length : Int) 0 aD aG)))) = some (r1, r2) := h
 clear h
 replace H := bZ H; obtain ⟨ub, A5, H⟩ := H
 replace H := bZ H; obtain ⟨Ik, A6, H⟩ := H
 replace H := bZ H; obtain ⟨kn, A7, H⟩ := H
 have H' := Aside0.mk H
 clear H
 go_enter Tryz.func148, Tryz.ntmps148
 go_wp2_with (first | ((with_reducible refine ah (N := 4) rfl ?_); refine bE 4 #[.slice ay aD.length ap, .slice ae aG.length a8] 28 ?_; intro zc hg w8 bO hb; have gf := am (bO); have ajN := gW HB hg; have auG := ajN; replace HB := bS HB hb; clear hb bO hg; have vx := cG gf.out; have vy := cR gf.out; have vz := aH gf.out 0; have wA := aH gf.out 1) | ((with_reducible refine gC 93 rfl ?_); refine gL 21 Tryz.func93 #[.agg #[.slice ay aD.length ap, .slice ae aG.length a8], .int .i64 a1, .slice A2 l2.length c2] ?_; (with_reducible refine (a_.calls k _ _ aD _ _ aG a1 _ _ l2 ub _ ?aT ?aU ?ao ?ar ?gy ?nW A5.out).mono ?_); (case aT => exact cB bl HB); (case aU => exact bz.out); (case ao => exact cB bx HB); (case ar => exact cE.out); (case gy => exact cB HR2 HB); (case nW => exact T_.out); rintro e BZ ⟨v721, rfl, cC, hb⟩; refine ⟨_, rfl, ?_⟩; have zd := am (Kd.cO cC (aC (mb HB.out))); replace gf := kS gf hb; replace HB := bS HB hb; (try clear hb cC); have L7 := cG gf.out; have L8 := cR gf.out; have L9 := aH gf.out 0; have L_ := aH gf.out 1) | ((with_reducible refine gC 57 rfl ?_); refine gL 24 Tryz.func57 #[.agg #[.slice ay aD.length ap, .slice ae aG.length a8], .int .i64 a1] ?_; (with_reducible refine (aW.calls k (fun k_ => k_ < w.heap.size) _ _ aD _ _ aG a1 Ik _ ?aT ?aU ?ao A6.out).mono ?_); (case aT => exact Kd.jo bz.out (Kd.mh (Kd.UK (Kd.nV 3 (Kd.ku .i64)) bl.out) (mb HB.out))); (case aU => exact cB bx HB); (case ao => exact cE.out); rintro e Ou ⟨v724, rfl, cC, hb⟩; refine ⟨_, rfl, ?_⟩; have La := am (Kd.gI (Kd.kE (Kd.cJ (ok' := fun k_ => True) cC (fun _ gH => trivial)) (Kd.iH (ci zd.out))) (aC (mb HB.out))); replace zd := am (Kd.b6 (ci zd.out) hb); replace gf := kS gf hb; replace HB := bS HB hb; (try clear hb cC); obtain ⟨FV, zV, I3⟩ := Kd.gj La.out; subst I3) | ((with_reducible refine gC 56 rfl ?_); refine gL 25 Tryz.func56 #[.slice FV Ik.length zV] ?_; (with_reducible refine (aE.calls k (fun k_ => ((True ∧ some k_ ≠ (v721 : Value).ownBlock) ∧ k_ ≠ zc)) _ _ Ik kn _ ?aT A7.out).mono ?_); (case aT => exact Kd.S_V (Kd.jF (La.out) gf.out (by decide))); rintro e w14 ⟨v727, rfl, cC, hb⟩; refine ⟨_, rfl, ?_⟩; replace La := am (Kd.dm (gP La.out) hb); have Yp := am (Kd.mi (Kd.af (ok' := fun k_ => some k_ ≠ (v721 : Value).ownBlock ∧ k_ ≠ zc) cC (fun k_ gH => ⟨Or.elim gH (fun jT => jT.1.2) (fun nS => (Kd.dz (Kd.iH (ci zd.out)) k_ nS)), Or.elim gH (fun jT => jT.2) (fun nS => (Kd.du (g := zc) (o := .cells #[.slice ay aD.length ap, .slice ae aG.length a8] 28 (0, 0)) (ct gf.out) k_ nS))⟩)) (aC (mb HB.out))); replace zd := am (Kd.b6 (ci zd.out) hb); replace gf := kS gf hb; replace HB := bS HB hb; (try clear hb cC); obtain ⟨Nq, qU, Fa⟩ := Kd.lh Yp.out; subst Fa))
 go_loopg [27] k (fun kq v27 w' => ∃ (iP : Int), v27 = .int .i64 iP ∧ Aside0 (a6.l0 kq a1 l2 a3 ub kn (kn.length : Int) iP aD aG = some (r1, r2)) ∧ Aside0 (kq ≤ k) ∧ Aside0 (Kd.R (Kd.int .i64) 3 w' w.heap.size (fun _ => True) v721 ub) ∧ Aside0 (Kd.V (Kd.slice 3 (Kd.int .i64)) 40 w' w.heap.size (fun k_ => some k_ ≠ (v721 : Value).ownBlock ∧ k_ ≠ zc) (.slice Nq kn.length qU) kn) ∧ Aside0 (w'.heap[zc]? = some (.cells #[(.slice ay aD.length ap), (.slice ae aG.length a8)] 28 (0, 0))) ∧ Aside0 (Below w.heap.size w w'))
 case atStart => exact ⟨(0), dM, H', ⟨Nat.le_refl _⟩, ⟨ci zd.out⟩, ⟨c_ Yp.out⟩, ⟨ct gf.out⟩, ⟨mb HB.out⟩⟩
 case round =>
  clear H'
  obtain ⟨iP, rfl, HA, dP, cI, kB, gf, HB⟩ := hrel
  cases gk with
  | zero => exact absurd HA.out (by simp [a6.l0])
  | succ k1 =>
   have H := HA.out
   clear HA
   simp only [a6.l0] at H
   by_cases FE : iP < (kn.length : Int)
   rotate_left
   ·rw [if_neg FE] at H
    have we := decide_eq_false FE
    clear FE
    simp only [Option.some.injEq, Prod.mk.injEq] at H
    obtain ⟨rfl, rfl⟩ := H
    go_wp2
    go_ret2
    exact ⟨_, jC, (Kd.cn HS2.out (mb HB.out)), mb HB.out⟩
   rw [if_pos FE] at H
   have we := decide_eq_true FE
   clear FE
   replace H := fW H; obtain ⟨yv, H⟩ := H
   replace H := fW H; obtain ⟨BX, H⟩ := H
   replace H := bZ H; obtain ⟨RJ, A19, H⟩ := H
   by_cases zN : RJ = true
   ·subst zN
    replace H := sY H
    have H' := Aside0.mk H
    clear H
    have DS : 0 ≤ (iP : Int) := bX
    have DT : iP < (kn.length : Int) := bX
    obtain ⟨Yq, wG, ze, ade, DU, uc, ud⟩ := eO (Kd.bN kB.out).2.2 iP DS DT
    cases ade
    obtain ⟨ajO, Il, Im, zf⟩ := Kd.ly kB.out [] iP DS (by first | exact DT | exact bX | (have e_ := (Kd.bN kB.out).1; omega))
    obtain ⟨VV, VW, rfl, qW, qX⟩ := Kd.dG Im
    have mr := zf 0 _ rfl
    rw [Nat.add_zero, show ((Kd.slice 3 (Kd.int .i64))).sz = 1 from rfl, Nat.mul_one] at mr
    replace mr := Option.some.inj (mr.symm.trans DU)
    injection mr with fN iW fO
    rw [fN] at qX
    rw [fO] at qW
    have yU := Aside0.mk (show Kd.V (Kd.int .i64) 3 _ w.heap.size _ _ (aJ kn iP) from Kd.jo qW qX)
    clear fN iW fO qX qW
    clear zf Il
    have lm := Aside0.mk ud
    have yV := Aside0.mk uc
    clear ud uc
    replace DS := eq_true DS
    replace DT := eq_true DT
    go_wp2_with (first | ((with_reducible refine gC 92 rfl ?_); refine gL 33 Tryz.func92 #[.slice wG (aJ kn iP).length ze, .slice A2 l2.length c2] ?_; (with_reducible refine (b7.calls k1 _ _ (aJ kn iP) _ _ l2 true _ ?aT ?aU ?ao ?ar A19.out).mono ?_); (case aT => exact fy lm.out); (case aU => exact yV.out); (case ao => exact cB HR2 HB); (case ar => exact T_.out); rintro e w' ⟨rfl, ⟨nd, rfl⟩⟩; refine ⟨_, rfl, ?_⟩))
    go_roundg k1
    case measure => have := dP.out; omega
    case rel => exact ⟨(wrap64 (iP + 1)), dM, H', ⟨by have := dP.out; omega⟩, ⟨ci cI.out⟩, ⟨c_ kB.out⟩, ⟨ct gf.out⟩, ⟨mb HB.out⟩⟩
   replace zN := Bool.eq_false_iff.mpr zN
   subst zN
   replace H := sZ H
   replace H := bZ H; obtain ⟨km, A21, H⟩ := H
   have H' := Aside0.mk H
   clear H
   have DS : 0 ≤ (iP : Int) := bX
   have DT : iP < (kn.length : Int) := bX
   obtain ⟨Yq, wG, ze, ade, DU, uc, ud⟩ := eO (Kd.bN kB.out).2.2 iP DS DT
   cases ade
   obtain ⟨ajO, Il, Im, zf⟩ := Kd.ly kB.out [] iP DS (by first | exact DT | exact bX | (have e_ := (Kd.bN kB.out).1; omega))
   obtain ⟨VV, VW, rfl, qW, qX⟩ := Kd.dG Im
   have mr := zf 0 _ rfl
   rw [Nat.add_zero, show ((Kd.slice 3 (Kd.int .i64))).sz = 1 from rfl, Nat.mul_one] at mr
   replace mr := Option.some.inj (mr.symm.trans DU)
   injection mr with fN iW fO
   rw [fN] at qX
   rw [fO] at qW
   have yU := Aside0.mk (show Kd.V (Kd.int .i64) 3 _ w.heap.size _ _ (aJ kn iP) from Kd.jo qW qX)
   clear fN iW fO qX qW
   clear zf Il
   have lm := Aside0.mk ud
   have yV := Aside0.mk uc
   clear ud uc
   replace DS := eq_true DS
   replace DT := eq_true DT
   go_wp2_with (first | ((with_reducible refine gC 92 rfl ?_); refine gL 33 Tryz.func92 #[.slice wG (aJ kn iP).length ze, .slice A2 l2.length c2] ?_; (with_reducible refine (b7.calls k1 _ _ (aJ kn iP) _ _ l2 false _ ?aT ?aU ?ao ?ar A19.out).mono ?_); (case aT => exact fy lm.out); (case aU => exact yV.out); (case ao => exact cB HR2 HB); (case ar => exact T_.out); rintro e w' ⟨rfl, ⟨nd, rfl⟩⟩; refine ⟨_, rfl, ?_⟩; have aoE := cG gf.out; have aoF := cR gf.out; have aoG := aH gf.out 0; have aoH := aH gf.out 1) | ((with_reducible refine gC 93 rfl ?_); refine gL 37 Tryz.func93 #[.agg #[.slice ay aD.length ap, .slice ae aG.length a8], .int .i64 a1, .slice wG (aJ kn iP).length ze] ?_; (with_reducible refine (a_.calls k1 _ _ aD _ _ aG a1 _ _ (aJ kn iP) km _ ?aT ?aU ?ao ?ar ?gy ?nW A21.out).mono ?_); (case aT => exact fy (Kd.bh bl.out (mb HB.out))); (case aU => exact bz.out); (case ao => exact fy (Kd.bh bx.out (mb HB.out))); (case ar => exact cE.out); (case gy => exact fy lm.out); (case nW => exact yV.out); rintro e T7 ⟨v732, rfl, cC, hb⟩; refine ⟨_, rfl, ?_⟩; replace kB := am (Kd.cY (c_ kB.out) (Kd.bf cC) hb); replace yU := am (Kd.cY (c_ yU.out) (Kd.bf cC) hb); have RM := am (Kd.cO (Kd.kT cC (Kd.iH (ci cI.out))) (aC (mb HB.out))); replace cI := am (Kd.gV (ci cI.out) (Kd.bf cC) hb); replace gf := kS gf hb; replace lm := am (Kd.bh (fy lm.out) hb); replace HB := bS HB hb; (try clear hb cC); obtain ⟨kp, kg, Hb⟩ := Kd.cH RM.out; subst Hb))
   go_loopg [14, 15, 40] k1 (fun kq v14 v15 v40 w' => ∃ (Bj : Int) (ib : Int) (mD : Int), v14 = .int .i64 Bj ∧ v15 = .int .i64 ib ∧ v40 = .int .i64 mD ∧ Aside0 (a6.l1 kq a1 l2 a3 ub km Bj ib kn (kn.length : Int) iP km (km.length : Int) mD aD aG = some (r1, r2)) ∧ Aside0 (kq ≤ k1) ∧ Aside0 (Kd.R (Kd.int .i64) 3 w' w.heap.size (fun k_ => some k_ ≠ ((.slice kp km.length kg) : Value).ownBlock ∧ some k_ ≠ ((.slice kp km.length kg) : Value).ownBlock) v721 ub) ∧ Aside0 (Kd.R (Kd.int .i64) 3 w' w.heap.size (fun k_ => some k_ ≠ (v721 : Value).ownBlock) (.slice kp km.length kg) km) ∧ Aside0 (Kd.V (Kd.slice 3 (Kd.int .i64)) 40 w' w.heap.size (fun k_ => some k_ ≠ (v721 : Value).ownBlock ∧ some k_ ≠ ((.slice kp km.length kg) : Value).ownBlock ∧ some k_ ≠ ((.slice kp km.length kg) : Value).ownBlock ∧ k_ ≠ zc) (.slice (some Yq) kn.length qU) kn) ∧ Aside0 (Kd.R (Kd.int .i64) 3 w' w.heap.size (fun k_ => some k_ ≠ (v721 : Value).ownBlock) (.slice kp km.length kg) km) ∧ Aside0 (w'.heap[zc]? = some (.cells #[(.slice ay aD.length ap), (.slice ae aG.length a8)] 28 (0, 0))) ∧ Aside0 (Kd.C (Kd.int .i64) w' wG (aJ kn iP).length (aJ kn iP)) ∧ Aside0 (Kd.V (Kd.int .i64) 3 w' w.heap.size (fun _ => True) (.slice wG (aJ kn iP).length ze) (aJ kn iP)) ∧ Aside0 (Below w.heap.size w w'))
   case atStart => exact ⟨(0), ((-1)), (0), dM, dM, dM, H', ⟨Nat.le_refl _⟩, ⟨Kd.bD (ci cI.out) (fun _ hk => ⟨hk.2, hk.2⟩)⟩, ⟨Kd.bD (ci RM.out) (fun _ hk => hk.2)⟩, ⟨Kd.af (c_ kB.out) (fun _ hk => ⟨hk.1.1, ⟨hk.2, ⟨hk.2, hk.1.2⟩⟩⟩)⟩, ⟨Kd.bD (ci RM.out) (fun _ hk => hk.2)⟩, ⟨ct gf.out⟩, ⟨fy lm.out⟩, ⟨Kd.af (c_ yU.out) (fun _ _ => trivial)⟩, ⟨mb HB.out⟩⟩
   case round =>
    clear H'
    obtain ⟨Bj, ib, mD, rfl, rfl, rfl, HA, ft, cI, fI, kB, kL, gf, lm, NN, HB⟩ := hrel
    cases gk with
    | zero => exact absurd HA.out (by simp [a6.l1])
    | succ k2 =>
     have H := HA.out
     clear HA
     simp only [a6.l1] at H
     by_cases Ta : mD < (km.length : Int)
     rotate_left
     ·rw [if_neg Ta] at H
      have Ql := decide_eq_false Ta
      clear Ta
      by_cases E6 : Bj = (wrap64 ((ub.length : Int) - 1))
      rotate_left
      ·rw [if_neg E6] at H
       have zg := iQ E6
       have RN := iR E6
       have H' := Aside0.mk H
       clear H
       obtain ⟨VX, VY, Nr⟩ := Kd.cH cI.out
       subst Nr
       go_wp2
       go_roundg k2
       case measure => have := dP.out; have := ft.out; omega
       case rel => exact ⟨(wrap64 (iP + 1)), dM, H', ⟨by have := dP.out; have := ft.out; omega⟩, ⟨Kd.bD (ci cI.out) (fun _ hk => trivial)⟩, ⟨Kd.af (c_ kB.out) (fun _ hk => ⟨hk.1, hk.2.2.2⟩)⟩, ⟨ct gf.out⟩, ⟨mb HB.out⟩⟩
      rw [if_pos E6] at H
      have zg := il E6
      have RN := im E6
      clear E6
      replace H := bZ H; obtain ⟨RL, A33, H⟩ := H
      by_cases Qf : RL = true
      rotate_left
      ·replace Qf := Bool.eq_false_iff.mpr Qf
       subst Qf
       replace H := sZ H
       simp only [Option.some.injEq, Prod.mk.injEq] at H
       obtain ⟨rfl, rfl⟩ := H
       obtain ⟨ajP, ajQ, VZ⟩ := Kd.cH cI.out
       subst VZ
       go_wp2_with (first | (go_at_call 176; (with_reducible refine (bu.calls k2 _ _ km a3 false _ ?aT ?aU A33.out).mono ?_); (case aT => exact fy (Kd.aq fI.out).2.2); (case aU => exact (Kd.aq fI.out).2.1); rintro e w' ⟨rfl, ⟨nd, rfl⟩⟩))
       go_ret2
       exact ⟨_, jC, (Kd.af (c_ NN.out) (fun _ _ => trivial)), mb HB.out⟩
      subst Qf
      replace H := sY H
      have H' := Aside0.mk H
      clear H
      obtain ⟨xW, vq, aaN⟩ := Kd.cH cI.out
      subst aaN
      go_wp2_with (first | (go_at_call 176; (with_reducible refine (bu.calls k2 _ _ km a3 true _ ?aT ?aU A33.out).mono ?_); (case aT => exact fy (Kd.aq fI.out).2.2); (case aU => exact (Kd.aq fI.out).2.1); rintro e w' ⟨rfl, ⟨nd, rfl⟩⟩))
      go_roundg k2
      case measure => have := dP.out; have := ft.out; omega
      case rel => exact ⟨(wrap64 (iP + 1)), dM, H', ⟨by have := dP.out; have := ft.out; omega⟩, ⟨Kd.bD (ci cI.out) (fun _ hk => trivial)⟩, ⟨Kd.af (c_ kB.out) (fun _ hk => ⟨hk.1, hk.2.2.2⟩)⟩, ⟨ct gf.out⟩, ⟨mb HB.out⟩⟩
     rw [if_pos Ta] at H
     have Ql := decide_eq_true Ta
     clear Ta
     replace H := fW H; obtain ⟨sq, H⟩ := H
     replace H := fW H; obtain ⟨aif, H⟩ := H
     replace H := bZ H; obtain ⟨RK, oq, H⟩ := H
     by_cases DV : RK = true
     ·subst DV
      replace H := sY H
      have H' := Aside0.mk H
      clear H
      have Io : 0 ≤ (mD : Int) := bX
      have Ip : mD < (km.length : Int) := bX
      obtain ⟨ajR, adf, V3⟩ := Kd.bi (Kd.aq kL.out).2.2 mD Io Ip
      cases adf
      replace Io := eq_true Io
      replace Ip := eq_true Ip
      obtain ⟨ara, arb, arc⟩ := Kd.cH cI.out
      subst arc
      go_wp2_with (first | ((with_reducible refine gC 176 rfl ?_); refine gL 46 Tryz.func176 #[.slice ara ub.length arb, .int .i64 (rd km mD)] ?_; (with_reducible refine (bu.calls k2 _ _ ub (rd km mD) true _ ?aT ?aU oq.out).mono ?_); (case aT => exact fy (Kd.aq cI.out).2.2); (case aU => exact (Kd.aq cI.out).2.1); rintro e w' ⟨rfl, ⟨nd, rfl⟩⟩; refine ⟨_, rfl, ?_⟩))
      go_roundg k2
      case measure => have := dP.out; have := ft.out; omega
      case rel => exact ⟨(wrap64 (Bj + 1)), (ib), (wrap64 (mD + 1)), dM, dM, dM, H', ⟨by have := dP.out; have := ft.out; omega⟩, ⟨ci cI.out⟩, ⟨ci fI.out⟩, ⟨c_ kB.out⟩, ⟨ci kL.out⟩, ⟨ct gf.out⟩, ⟨fy lm.out⟩, ⟨c_ NN.out⟩, ⟨mb HB.out⟩⟩
     replace DV := Bool.eq_false_iff.mpr DV
     subst DV
     replace H := sZ H
     have H' := Aside0.mk H
     clear H
     have Io : 0 ≤ (mD : Int) := bX
     have Ip : mD < (km.length : Int) := bX
     obtain ⟨ajR, adf, V3⟩ := Kd.bi (Kd.aq kL.out).2.2 mD Io Ip
     cases adf
     replace Io := eq_true Io
     replace Ip := eq_true Ip
     obtain ⟨uT, ja, Nn⟩ := Kd.cH cI.out
     subst Nn
     go_wp2_with (first | ((with_reducible refine gC 176 rfl ?_); refine gL 46 Tryz.func176 #[.slice uT ub.length ja, .int .i64 (rd km mD)] ?_; (with_reducible refine (bu.calls k2 _ _ ub (rd km mD) false _ ?aT ?aU oq.out).mono ?_); (case aT => exact fy (Kd.aq cI.out).2.2); (case aU => exact (Kd.aq cI.out).2.1); rintro e w' ⟨rfl, ⟨nd, rfl⟩⟩; refine ⟨_, rfl, ?_⟩))
     go_roundg k2
     case measure => have := dP.out; have := ft.out; omega
     case rel => exact ⟨(Bj), (rd km mD), (wrap64 (mD + 1)), dM, dM, dM, H', ⟨by have := dP.out; have := ft.out; omega⟩, ⟨ci cI.out⟩, ⟨ci fI.out⟩, ⟨c_ kB.out⟩, ⟨ci kL.out⟩, ⟨ct gf.out⟩, ⟨fy lm.out⟩, ⟨c_ NN.out⟩, ⟨mb HB.out⟩⟩
mutual
def aZ.j0 : Nat → Int → List Int → List Int → Int → List (List Int) → List (List Int) → Option (List Int × List Int × Int)
 | 0, _, _, _, _, _, _ => none
 | k + 1, x1, x9, iM, jd, sC, sD => aZ.l0 k x1 x9 iM jd x1 0 sC sD
def aZ.l0 : Nat → Int → List Int → List Int → Int → Int → Int → List (List Int) → List (List Int) → Option (List Int × List Int × Int)
 | 0, _, _, _, _, _, _, _, _ => none
 | k + 1, x1, x9, iM, jd, oE, sb, sC, sD => if jd = 1 then ((a6.f k sC sD 1 x9 oE).bind fun Lb => (if Lb.2 = x1 then (some (Lb.1, iM, wrap64 (sb + 1))) else (aZ.l0 k x1 Lb.1 iM (wrap64 (3 - jd)) Lb.2 (wrap64 (sb + 1)) sC sD))) else ((a6.f k sC sD 2 iM oE).bind fun Lc => (if Lc.2 = x1 then (some (x9, Lc.1, wrap64 (sb + 1))) else (aZ.l0 k x1 x9 Lc.1 (wrap64 (3 - jd)) Lc.2 (wrap64 (sb + 1)) sC sD)))
end
def aZ.f (k : Nat) (aD : List (List Int)) (aG : List (List Int)) (a1 : Int) : Option (List Int × List Int × Int) := if 0 < (aD.length : Int) then (if 0 ≤ (wrap64 ((aD.length : Int) + 1)) then (if (wrap64 ((aD.length : Int) + 1) : Int).toNat ≤ 35184372088832 then ((some (List.replicate (wrap64 ((aD.length : Int) + 1) : Int).toNat 0 : List Int)).bind fun nv => (if 0 ≤ (wrap64 (((aJ aD 0).length : Int) + 1)) then (if (wrap64 (((aJ aD 0).length : Int) + 1) : Int).toNat ≤ 35184372088832 then ((some (List.replicate (wrap64 (((aJ aD 0).length : Int) + 1) : Int).toNat 0 : List Int)).bind fun oa => (if 0 ≤ (aD.length : Int) then (if (aD.length : Int) < (nv.length : Int) then ((some (nv.set ((aD.length : Int) : Int).toNat 1 : List Int)).bind fun sd => (if 0 ≤ ((aJ aD 0).length : Int) then (if ((aJ aD 0).length : Int) < (oa.length : Int) then ((some (oa.set (((aJ aD 0).length : Int) : Int).toNat 1 : List Int)).bind fun se => (if a1 ≥ (aD.length : Int) then (aZ.j0 k a1 sd se 2 aD aG) else (aZ.j0 k a1 sd se 1 aD aG))) else (none)) else (none))) else (none)) else (none))) else (none)) else (none))) else (none)) else (none)) else (none)
theorem aZ.bG : ∀ k, (∀ y0 y1 y2 y3 y4 y5, bB (aZ.j0 k y0 y1 y2 y3 y4 y5) (aZ.j0 (k + 1) y0 y1 y2 y3 y4 y5)) ∧ (∀ y0 y1 y2 y3 y4 y5 y6 y7, bB (aZ.l0 k y0 y1 y2 y3 y4 y5 y6 y7) (aZ.l0 (k + 1) y0 y1 y2 y3 y4 y5 y6 y7))
 | 0 => ⟨fun _ _ _ _ _ _ r h => by simp [aZ.j0] at h, fun _ _ _ _ _ _ _ _ r h => by simp [aZ.l0] at h⟩
 | k + 1 => by
  obtain ⟨eQ, kP⟩ := aZ.bG k
  refine ⟨?_, ?_⟩ <;> intros <;> (first | unfold aZ.j0 | unfold aZ.l0)
  all_goals repeat' first
  | (with_reducible exact eQ ..)
  | (with_reducible exact kP ..)
  | (with_reducible exact a6.mono ..)
  | (with_reducible exact bB.refl _)
  | (with_reducible exact bB.none _)
  | (with_reducible refine bB.ite ?_ ?_)
  | (with_reducible refine bB.bind ?_ (fun _ => ?_))
theorem aZ.mono : ∀ a0 a1 a2 k, bB (aZ.f k a0 a1 a2) (aZ.f (k + 1) a0 a1 a2) := by
 intro a0 a1 a2 k
 obtain ⟨eQ, kP⟩ := aZ.bG k
 unfold aZ.f
 repeat' first
   | (with_reducible exact eQ ..)
   | (with_reducible exact kP ..)
   | (with_reducible exact a6.mono ..)
   | (with_reducible exact bB.refl _)
   | (with_reducible exact bB.none _)
   | (with_reducible refine bB.ite ?_ ?_)
   | (with_reducible refine bB.bind ?_ (fun _ => ?_))
def aZ.T1 : Bool × List (List Nat × List Nat) := (true, [([], []), ([0], [0]), ([1], [1]), ([], []), ([3], [3]), ([4], [4]), ([5], [5]), ([6], [6]), ([2, 0, 1, 2], [2]), ([7, 8, 0, 1, 2, 3, 4, 5, 6, 7, 8], [7])])
def aZ.B1 : List Nat := [0, 1, 3, 0, 8, 24, 56, 120, 7, 511]
theorem aZ.mc : fh .any (opsOf Tryz.f98 1) = aZ.T1 := by kernel_rfl
theorem aZ.jY : fG aZ.T1.2 aZ.B1 = true := by kernel_rfl
def aZ.T2 : Bool × List (List Nat × List Nat) := (true, [([], []), ([0], [0]), ([1, 1], [1]), ([], []), ([3], [3]), ([4, 4], [4]), ([2, 0, 1, 2], [2]), ([5, 6, 0, 1, 2, 3, 4, 5, 6], [5])])
def aZ.B2 : List Nat := [0, 1, 3, 0, 8, 24, 7, 127]
theorem aZ.aa7 : fh .any (opsOf Tryz.f98 2) = aZ.T2 := by kernel_rfl
theorem aZ.Pe : fG aZ.T2.2 aZ.B2 = true := by kernel_rfl
theorem Ld {α β : Type} {e : α} {f : α → Option β} {r : β} (h : (some e).bind f = some r) : ∃ y, Aside0 (y = e) ∧ f y = some r := ⟨e, ⟨rfl⟩, h⟩
theorem Fb {α : Type} {d : Kd α} {e base base' : Nat} {w : World} {ok : Nat → Prop} {v : Value} {xs : List α} (h : Kd.V d e w base ok v xs) : Kd.V d e w base' ok v xs := by
 obtain ⟨A, n, c, h2, h3⟩ := h
 exact ⟨A, n, c, h2, h3⟩
theorem aZ.calls (k : Nat) (ay : Option Addr) (ap : Nat) (aD : List (List Int)) (ae : Option Addr) (a8 : Nat) (aG : List (List Int)) (a1 : Int) (r1 : List Int) (r2 : List Int) (r3 : Int) (w : World) (db : Kd.C (Kd.slice 3 (Kd.int .i64)) w ay aD.length aD) (dc : aD.length ≤ ap) (dH : Kd.C (Kd.slice 3 (Kd.int .i64)) w ae aG.length aG) (dI : aG.length ≤ a8) (h : aZ.f k aD aG a1 = some (r1, r2, r3)) :
  Calls Tryz.prog 98 #[.agg #[.slice ay aD.length ap, .slice ae aG.length a8], .int .i64 a1] w fun e w' => ∃ iE Ox : Value, e = .returned (.tuple #[iE, Ox, .int .i64 r3]) ∧ Kd.V (Kd.int .i64) 3 w' w.heap.size (fun _ => True) iE r1 ∧ Kd.V (Kd.int .i64) 3 w' w.heap.size (fun _ => True) Ox r2 ∧ Below w.heap.size w w' := by
 have rD := Tryz.underlying28
 have bl := Aside0.mk db
 have bz := Aside0.mk dc
 clear db dc
 have bx := Aside0.mk dH
 have cE := Aside0.mk dI
 clear dH dI
 have HB := Aside0.mk (Below.refl w.heap.size w)
 have H : (if 0 < (aD.length : Int) then (if 0 ≤ (wrap64 ((aD.length : Int) + 1)) then (if (wrap64 ((aD.length : Int) + 1) : Int).toNat ≤ 35184372088832 then ((some (List.replicate (wrap64 ((aD.length : Int) + 1) : Int).toNat 0 : List Int)).bind fun nv => (if 0 ≤ (wrap64 (((aJ aD 0).length : Int) + 1)) then (if (wrap64 (((aJ aD 0).length : Int) + 1) : Int).toNat ≤ 35184372088832 then ((some (List.replicate (wrap64 (((aJ aD 0).length : Int) + 1) : Int).toNat 0 : List Int)).bind fun oa => (if 0 ≤ (aD.length : Int) then (if (aD.length : Int) < (nv.length : Int) then ((some (nv.set ((aD.length : Int) : Int).toNat 1 : List Int)).bind fun sd => (if 0 ≤ ((aJ aD 0).length : Int) then (if ((aJ aD 0).length : Int) < (oa.length : Int) then ((some (oa.set (((aJ aD 0).length : Int) : Int).toNat 1 : List Int)).bind fun se => (if a1 ≥ (aD.length : Int) then (aZ.j0 k a1 sd se 2 aD aG) else (aZ.j0 k a1 sd se 1 aD aG))) else (none)) else (none))) else (none)) else (none))) else (none)) else (none))) else (none)) else (none)) else (none)) = some (r1, r2, r3) := h
 clear h
 by_cases c3 : 0 < (aD.length : Int)
 rotate_left
 ·rw [if_neg c3] at H
  exact absurd H (by simp)
 rw [if_pos c3] at H
 have gX := decide_eq_true c3
 have qB : decide (0 < aD.length) = true := decide_eq_true (by omega)
 clear c3
 obtain ⟨Yr, RO⟩ : ∃ j_ : Int, (wrap64 ((aD.length : Int) + 1)) = j_ := ⟨_, rfl⟩
 replace H : (if 0 ≤ (Yr) then (if (Yr : Int).toNat ≤ 35184372088832 then ((some (List.replicate (Yr : Int).toNat 0 : List Int)).bind fun nv => (if 0 ≤ (wrap64 (((aJ aD 0).length : Int) + 1)) then (if (wrap64 (((aJ aD 0).length : Int) + 1) : Int).toNat ≤ 35184372088832 then ((some (List.replicate (wrap64 (((aJ aD 0).length : Int) + 1) : Int).toNat 0 : List Int)).bind fun oa => (if 0 ≤ (aD.length : Int) then (if (aD.length : Int) < (nv.length : Int) then ((some (nv.set ((aD.length : Int) : Int).toNat 1 : List Int)).bind fun sd => (if 0 ≤ ((aJ aD 0).length : Int) then (if ((aJ aD 0).length : Int) < (oa.length : Int) then ((some (oa.set (((aJ aD 0).length : Int) : Int).toNat 1 : List Int)).bind fun se => (if a1 ≥ (aD.length : Int) then (aZ.j0 k a1 sd se 2 aD aG) else (aZ.j0 k a1 sd se 1 aD aG))) else (none)) else (none))) else (none)) else (none))) else (none)) else (none))) else (none)) else (none)) = some (r1, r2, r3) := by first | (rw [RO] at H; exact H) | (simp only [RO] at H ⊢; exact H)
 have auH : (IntKind.i64.wrap ((aD.length : Int) + 1)) = Yr := (gn _).trans RO
 replace H := oo H; obtain ⟨c5, H⟩ := H
 have jR := eq_true c5
 have Au := decide_eq_true c5
 clear c5
 replace H := oo H; obtain ⟨c6, H⟩ := H
 have hU := eq_true c6
 have vt := decide_eq_true c6
 clear c6
 (with_reducible replace H := Ld H); obtain ⟨nv, Le, H⟩ := H; (try dsimp only at H)
 obtain ⟨Ys, RP⟩ : ∃ j_ : Int, (wrap64 (((aJ aD 0).length : Int) + 1)) = j_ := ⟨_, rfl⟩
 replace H : (if 0 ≤ (Ys) then (if (Ys : Int).toNat ≤ 35184372088832 then ((some (List.replicate (Ys : Int).toNat 0 : List Int)).bind fun oa => (if 0 ≤ (aD.length : Int) then (if (aD.length : Int) < (nv.length : Int) then ((some (nv.set ((aD.length : Int) : Int).toNat 1 : List Int)).bind fun sd => (if 0 ≤ ((aJ aD 0).length : Int) then (if ((aJ aD 0).length : Int) < (oa.length : Int) then ((some (oa.set (((aJ aD 0).length : Int) : Int).toNat 1 : List Int)).bind fun se => (if a1 ≥ (aD.length : Int) then (aZ.j0 k a1 sd se 2 aD aG) else (aZ.j0 k a1 sd se 1 aD aG))) else (none)) else (none))) else (none)) else (none))) else (none)) else (none)) = some (r1, r2, r3) := by first | (rw [RP] at H; exact H) | (simp only [RP] at H ⊢; exact H)
 have auI : (IntKind.i64.wrap (((aJ aD 0).length : Int) + 1)) = Ys := (gn _).trans RP
 replace H := oo H; obtain ⟨c8, H⟩ := H
 have oz := eq_true c8
 have Hy := decide_eq_true c8
 clear c8
 replace H := oo H; obtain ⟨c9, H⟩ := H
 have tF := eq_true c9
 have ajS := decide_eq_true c9
 clear c9
 (with_reducible replace H := Ld H); obtain ⟨oa, Lf, H⟩ := H; (try dsimp only at H)
 replace H := oo H; obtain ⟨ot, H⟩ := H
 have oC := decide_eq_true ot
 have Bf : decide (0 ≤ aD.length) = true := decide_eq_true (by omega)
 clear ot
 replace H := oo H; obtain ⟨nN, H⟩ := H
 have nJ := decide_eq_true nN
 have Eh : decide (aD.length < nv.length) = true := decide_eq_true (Int.ofNat_lt.mp nN)
 clear nN
 (with_reducible replace H := Ld H); obtain ⟨sd, ajT, H⟩ := H; (try dsimp only at H)
 replace H := oo H; obtain ⟨N6, H⟩ := H
 have zJ := decide_eq_true N6
 have ahZ : decide (0 ≤ (aJ aD 0).length) = true := decide_eq_true (by omega)
 clear N6
 replace H := oo H; obtain ⟨rC, H⟩ := H
 have rI := decide_eq_true rC
 have Yt : decide ((aJ aD 0).length < oa.length) = true := decide_eq_true (Int.ofNat_lt.mp rC)
 clear rC
 (with_reducible replace H := Ld H); obtain ⟨se, ajU, H⟩ := H; (try dsimp only at H)
 have adg := Aside0.mk H
 clear H
 go_enter Tryz.func98, Tryz.ntmps98
 try go_wp2_with (first | ((with_reducible refine ah (N := 2) rfl ?_); refine bE 2 #[.slice ay aD.length ap, .slice ae aG.length a8] 28 ?_; intro Bk hg T6 bO hb; have de := am (bO); have ajV := gW HB hg; have auJ := ajV; replace HB := bS HB hb; clear hb bO hg))
 replace de := am (az de.out)
 replace HB := am (bd HB.out)
 have adh : 0 ≤ (0 : Int) := (by omega)
 have adi : 0 < (aD.length : Int) := bX
 obtain ⟨sv, adj, adk, ard, qY, Lg, Lh⟩ := eO bl.out 0 adh adi
 have ue := qY
 (try rw [show ((0 : Int)).toNat = 0 from rfl] at ue)
 (try rw [show 0 * 1 = 0 from rfl] at ue)
 (try rw [Addr.add_zero'] at ue)
 cases ard
 have auK : (0 < aD.length) = True := eq_true (by omega)
 (try rw [show ((0 : Int)).toNat = 0 from rfl] at qY)
 (try rw [Addr.add_zero'] at qY)
 replace qY := (HB.out.cell (World.block_lt_of_cell? w _ qY)).trans qY
 have V4 := Aside0.mk Lh
 have aoI := Aside0.mk Lg
 clear Lh Lg
 replace adh := eq_true adh
 replace adi := eq_true adi
 refine fA (n := 10) (S := fun w' => w'.cell? ⟨Bk, 0, none⟩ = some (.slice (some sv) aD.length ap) ∧ w'.cell? ⟨Bk, 1, none⟩ = some (.slice ae aG.length a8) ∧ w'.cell? sv = some (.slice adj (aJ aD 0).length adk)) (ds := []) (Array.replicate 10 false) (by kernel_rfl) rfl rfl ⟨(aQ de.out 0).trans rfl, (aQ de.out 1).trans rfl, ((HB.out.cell (World.block_lt_of_cell? w _ ue)).trans ue)⟩ (fun ai => ?_); refine cv aZ.mc aZ.jY (fun ak fz => ?_)
 generalize T6.drew = Ow at de HB V4 qY ai ⊢
 refine pY 0 14 ak ?_
 refine pY 3 17 ak ?_
 refine tY 1 15 ak fz ai ?_
 refine pY 2 16 ak ?_
 refine pY 8 7 ak ?_
 refine tY 4 18 ak fz ai ?_
 refine pY 5 19 ak ?_
 refine tY 6 20 ak fz ai ?_
 refine pY 7 21 ak ?_
 refine pY 9 8 ak ?_
 refine dY ak ?_
 try go_wp2
 replace de := am (az de.out)
 replace HB := am (bd HB.out)
 refine fA (n := 8) (S := fun w' => True) (ds := []) (Array.replicate 8 false) (by kernel_rfl) rfl rfl trivial (fun ai => ?_); refine cv aZ.aa7 aZ.Pe (fun ak fz => ?_)
 generalize Ow.drew = w19 at de HB ai ⊢
 refine pY 0 22 ak ?_
 refine pY 1 23 ak ?_
 refine pY 3 25 ak ?_
 refine pY 4 26 ak ?_
 refine ajW (σ := Value × Value) 1 #[true, true, true, true, true, true, true, false] (fun s_ => [(24, s_.1), (27, s_.2), (9, s_.1)]) (fun s_ w' => (Kd.R (Kd.int .i64) 3 w' w.heap.size (fun k_ => some k_ ≠ (s_.2 : Value).ownBlock) s_.1 nv) ∧ (Kd.R (Kd.int .i64) 3 w' w.heap.size (fun k_ => some k_ ≠ (s_.1 : Value).ownBlock) s_.2 oa) ∧ (w'.heap[Bk]? = some (.cells #[.slice (some sv) aD.length ap, .slice ae aG.length a8] 28 (0, 0))) ∧ (Below w.heap.size w w')) ?_ ?_
 rotate_left
 ·intro Yu
  refine are (i := 2) (j := 5) (Ni := some 24) (Nj := some 27) #[true, true, true, true, true, false, false, false] #[true, true, false, true, true, true, false, false] rfl rfl rfl rfl (adl ak.out (by kernel_rfl)) (by decide) (by decide) (fun K hK => ?_) (fun K hK => ?_)
  ·skip
   refine Kd.k5 (Kd.int .i64) _ 3 (by rfl) (N := 24) rfl 40 _ _ rfl Yr rfl rfl Tryz.underlying40 (.int .i64 0) 8 eT rfl (by decide) (by omega) 0 (ok := fun _ => True) (okp := fun _ => True) rfl (fun _ hk => hk) trivial (bX) (Nat.le_trans (Nat.mul_le_mul_right _ (bX : Yr.toNat ≤ 35184372088832)) (by omega)) (Below.refl _ _) (Nat.le_refl _) ?_
   intro v740 P4 zh hb jn dB
   clear jn dB
   (first | rw [← Le.out] at zh | (simp only [Int.reduceToNat] at zh; rw [← Le.out] at zh))
   have mE := am (Kd.cO zh (aC (mb HB.out)))
   replace de := kS de hb
   replace HB := bS HB hb
   clear hb zh
   refine hK.out _ _ trivial (fun ai => ?_)
   clear hK K
   refine nY 24 ?_
   refine pY 6 9 ak ?_
   refine oY 5 27 ak (fun K hK => ?_)
   refine Kd.k5 (Kd.int .i64) _ 3 (by rfl) (N := 27) rfl 40 _ _ rfl Ys rfl rfl Tryz.underlying40 (.int .i64 0) 8 eT rfl (by decide) (by omega) 0 (ok := fun _ => True) (okp := fun _ => True) rfl (fun _ hk => hk) trivial (bX) (Nat.le_trans (Nat.mul_le_mul_right _ (bX : Ys.toNat ≤ 35184372088832)) (by omega)) (Below.refl _ _) (Nat.le_refl _) ?_
   intro v743 w22 ob hb jn dB
   clear jn dB
   (first | rw [← Lf.out] at ob | (simp only [Int.reduceToNat] at ob; rw [← Lf.out] at ob))
   have ka := am (Kd.cO (Kd.kT ob (Kd.iH (ci mE.out))) (aC (mb HB.out)))
   replace mE := am (Kd.gV (ci mE.out) (Kd.bf ob) hb)
   replace de := kS de hb
   replace HB := bS HB hb
   clear hb ob
   refine hK.out _ _ trivial (fun ai => ?_)
   clear hK K
   refine nY 27 ?_
   exact Li (by simp only [wH, Act.put, List.setIfInBounds_toArray, List.set_cons_zero, List.set_cons_succ]) (Yu (v740, v743) _ ⟨(Kd.bD (ci mE.out) (fun _ hk => hk.2)), (Kd.bD (ci ka.out) (fun _ hk => hk.2)), (ct de.out), (mb HB.out)⟩)
  ·skip
   refine Kd.k5 (Kd.int .i64) _ 3 (by rfl) (N := 27) rfl 40 _ _ rfl Ys rfl rfl Tryz.underlying40 (.int .i64 0) 8 eT rfl (by decide) (by omega) 0 (ok := fun _ => True) (okp := fun _ => True) rfl (fun _ hk => hk) trivial (bX) (Nat.le_trans (Nat.mul_le_mul_right _ (bX : Ys.toNat ≤ 35184372088832)) (by omega)) (Below.refl _ _) (Nat.le_refl _) ?_
   intro v743 P4 zh hb jn dB
   clear jn dB
   (first | rw [← Lf.out] at zh | (simp only [Int.reduceToNat] at zh; rw [← Lf.out] at zh))
   have ka := am (Kd.cO zh (aC (mb HB.out)))
   replace de := kS de hb
   replace HB := bS HB hb
   clear hb zh
   refine hK.out _ _ trivial (fun ai => ?_)
   clear hK K
   refine nY 27 ?_
   refine oY 2 24 ak (fun K hK => ?_)
   refine Kd.k5 (Kd.int .i64) _ 3 (by rfl) (N := 24) rfl 40 _ _ rfl Yr rfl rfl Tryz.underlying40 (.int .i64 0) 8 eT rfl (by decide) (by omega) 0 (ok := fun _ => True) (okp := fun _ => True) rfl (fun _ hk => hk) trivial (bX) (Nat.le_trans (Nat.mul_le_mul_right _ (bX : Yr.toNat ≤ 35184372088832)) (by omega)) (Below.refl _ _) (Nat.le_refl _) ?_
   intro v740 w22 ob hb jn dB
   clear jn dB
   (first | rw [← Le.out] at ob | (simp only [Int.reduceToNat] at ob; rw [← Le.out] at ob))
   have mE := am (Kd.cO (Kd.kT ob (Kd.iH (ci ka.out))) (aC (mb HB.out)))
   replace ka := am (Kd.gV (ci ka.out) (Kd.bf ob) hb)
   replace de := kS de hb
   replace HB := bS HB hb
   clear hb ob
   refine hK.out _ _ trivial (fun ai => ?_)
   clear hK K
   refine nY 24 ?_
   refine pY 6 9 ak ?_
   exact Li (by simp only [wH, Act.put, List.setIfInBounds_toArray, List.set_cons_zero, List.set_cons_succ]) (Yu (v740, v743) _ ⟨(Kd.bD (ci mE.out) (fun _ hk => hk.2)), (Kd.bD (ci ka.out) (fun _ hk => hk.2)), (ct de.out), (mb HB.out)⟩)
 rintro ⟨v740, v743⟩ Pb ⟨h0_, h1_, h2_, h3_⟩
 have n0_ : Aside0 (Kd.R (Kd.int .i64) 3 Pb w.heap.size (fun k_ => some k_ ≠ (v743 : Value).ownBlock) v740 nv) := ⟨h0_⟩
 have US : Aside0 (Kd.R (Kd.int .i64) 3 Pb w.heap.size (fun k_ => some k_ ≠ (v740 : Value).ownBlock) v743 oa) := ⟨h1_⟩
 have Xx : Aside0 (Pb.heap[Bk]? = some (.cells #[.slice (some sv) aD.length ap, .slice ae aG.length a8] 28 (0, 0))) := ⟨h2_⟩
 have Xy : Aside0 (Below w.heap.size w Pb) := ⟨h3_⟩
 clear de
 clear HB
 clear h0_ h1_ h2_ h3_
 have mE := n0_
 have ka := US
 have de := Xx
 have HB := Xy
 clear n0_ US Xx Xy
 have ai := trivial
 refine Li (a' := ?_) ?_ ?_
 rotate_left
 ·simp only [wH, Act.put, List.setIfInBounds_toArray, List.set_cons_zero, List.set_cons_succ]
  rfl
 refine pY 7 10 ak ?_
 refine dY ak ?_
 have p12 : 0 ≤ ((aD.length : Int) : Int) := bX
 have q12 : ((aD.length : Int) : Int) < ((nv.length : Int) : Int) := bX
 obtain ⟨DW, Et, UR, ajX, arf, awb, ajY⟩ := Kd.lZ mE.out (by omega)
 (first | cases UR | (injection UR with kF wB wC; (first | subst kF | (injection kF with kF; subst kF)); subst wC; clear wB))
 have arh := Aside0.mk ajX
 have awc := Aside0.mk ajY
 clear ajX arf ajY
 obtain ⟨RQ, RR⟩ := Kd.gx 0 mE.out ((aD.length : Int) : Int) p12 q12
 replace p12 := eq_true p12
 replace q12 := eq_true q12
 obtain ⟨ajZ, aj0⟩ := Kd.gx 0 mE.out ((aD.length : Int) : Int) (bX) (bX)
 (try simp only [Go.IntWalk.toNatUp] at ajZ aj0)
 have adm := Kd.nI mE.out ((aD.length : Int) : Int) 1
 go_upto_if 36 with (first | ((with_reducible refine fo (t := 3) (p := 30) rfl ?_); refine fM (t := 3) (p := 30) (v := ?ari) (w1 := (Pb.setCell ⟨DW, ((aD.length : Int) : Int).toNat, none⟩ (.int .i64 1))) ?hg ?ho ?hn ?hr ?_; (case ho => rfl); (case hg => rfl); (case hn => rfl); (case hr => first | (go_simp; done) | (go_simp; rfl)); intro w26 hw; have hg : Pb.grownBy w26 (some DW) := (by rw [hw]; exact adm.2); have rR : Kd.R (Kd.int .i64) 3 w26 w.heap.size (fun k_ => some k_ ≠ (v743 : Value).ownBlock) (.slice (some ⟨DW, 0, none⟩) nv.length Et) sd := (by rw [hw, ajT.out]; exact adm.1); clear adm; replace de := am (di (ct de.out) hg (Kd.sW mE.out de.out (by decide))); replace mE := am (rR); replace ka := am (Kd.fF (v := (.slice (some ⟨DW, 0, none⟩) nv.length Et)) (v1 := (.slice (some ⟨DW, 0, none⟩) nv.length Et)) (ok := (fun _ => True)) (Kd.bD (ci ka.out) (fun _ hk => ⟨trivial, hk⟩)) hg (.inl rfl)); replace HB := am ((by rw [hw]; exact dj (HB.out) arh.out : Below w.heap.size w w26)); clear hg hw rR; have p15 : 0 ≤ (((aJ aD 0).length : Int) : Int) := bX; have q15 : (((aJ aD 0).length : Int) : Int) < ((oa.length : Int) : Int) := bX; obtain ⟨Iq, qU, Fa, aj1, arj, awd, aj2⟩ := Kd.lZ ka.out (by omega); (first | cases Fa | (injection Fa with kF wB wC; (first | subst kF | (injection kF with kF; subst kF)); subst wC; clear wB)); have ark := Aside0.mk aj1; have awe := Aside0.mk aj2; clear aj1 arj aj2; obtain ⟨arl, arm⟩ := Kd.gx 0 ka.out (((aJ aD 0).length : Int) : Int) p15 q15; replace p15 := eq_true p15; replace q15 := eq_true q15; have n_ := Aside0.mk (Kd.bD (ok' := (fun k_ => some k_ ≠ (.slice (some ⟨DW, 0, none⟩) nv.length Et : Value).ownBlock)) ka.out (fun k_ hk => hk.2)); clear ka; have ka := n_; clear n_; obtain ⟨aj3, aj4⟩ := Kd.gx 0 ka.out (((aJ aD 0).length : Int) : Int) (bX) (bX); (try simp only [Go.IntWalk.toNatUp] at aj3 aj4); have adn := Kd.nI ka.out (((aJ aD 0).length : Int) : Int) 1) | ((with_reducible refine fo (t := 3) (p := 33) rfl ?_); refine fM (t := 3) (p := 33) (v := ?arn) (w1 := (w26.setCell ⟨Iq, (((aJ aD 0).length : Int) : Int).toNat, none⟩ (.int .i64 1))) ?hg ?ho ?hn ?hr ?_; (case ho => rfl); (case hg => rfl); (case hn => rfl); (case hr => first | (go_simp; done) | (go_simp; rfl)); intro w28 hw; have hg : w26.grownBy w28 (some Iq) := (by rw [hw]; exact adn.2); have rR : Kd.R (Kd.int .i64) 3 w28 w.heap.size (fun k_ => some k_ ≠ (.slice (some ⟨DW, 0, none⟩) nv.length Et : Value).ownBlock) (.slice (some ⟨Iq, 0, none⟩) oa.length qU) se := (by rw [hw, ajU.out]; exact adn.1); clear adn; replace de := am (di (ct de.out) hg (Kd.sW ka.out de.out (by decide))); replace mE := am (Kd.fF (v := (.slice (some ⟨Iq, 0, none⟩) oa.length qU)) (v1 := (.slice (some ⟨Iq, 0, none⟩) oa.length qU)) (ok := (fun _ => True)) (Kd.bD (ci mE.out) (fun _ hk => ⟨trivial, hk⟩)) hg (.inl rfl)); replace ka := am (rR); replace HB := am ((by rw [hw]; exact dj (HB.out) ark.out : Below w.heap.size w w28)); clear hg hw rR))
 (try simp only [Act.put, List.setIfInBounds_toArray, List.set_cons_zero, List.set_cons_succ])
 go_cut [11] (fun v11 wc => ∃ (kq : Nat) (DX : Int), v11 = .int .i64 DX ∧ Aside0 (aZ.j0 kq a1 sd se DX aD aG = some (r1, r2, r3)) ∧ Aside0 (kq ≤ k) ∧ Aside0 (Kd.R (Kd.int .i64) 3 wc w.heap.size (fun k_ => some k_ ≠ ((.slice (some ⟨Iq, 0, none⟩) oa.length qU) : Value).ownBlock) (.slice (some ⟨DW, 0, none⟩) nv.length Et) sd) ∧ Aside0 (Kd.R (Kd.int .i64) 3 wc w.heap.size (fun k_ => some k_ ≠ ((.slice (some ⟨DW, 0, none⟩) nv.length Et) : Value).ownBlock) (.slice (some ⟨Iq, 0, none⟩) oa.length qU) se) ∧ Aside0 (wc.heap[Bk]? = some (.cells #[(.slice (some sv) aD.length ap), (.slice ae aG.length a8)] 28 (0, 0))) ∧ Aside0 (Below w.heap.size w wc))
 case first =>
  have H := adg.out
  clear adg
  by_cases DV : a1 ≥ (aD.length : Int)
  ·rw [if_pos DV] at H
   have pH : decide ((aD.length : Int) ≤ a1) = true := decide_eq_true DV
   clear DV
   (first | rw [pH] | (simp only [gn, oG]; rw [pH]) | skip)
   have H' := Aside0.mk H
   clear H
   go_wp2
   go_meet
   case rel => exact ⟨_, (2), dM, H', ⟨by first | omega | exact Nat.le_refl _⟩, ⟨Kd.bD (ci mE.out) (fun _ hk => hk.2)⟩, ⟨ci ka.out⟩, ⟨ct de.out⟩, ⟨mb HB.out⟩⟩
  rw [if_neg DV] at H
  have pH : decide ((aD.length : Int) ≤ a1) = false := decide_eq_false DV
  clear DV
  (first | rw [pH] | (simp only [gn, oG]; rw [pH]) | skip)
  have H' := Aside0.mk H
  clear H
  go_wp2
  go_meet
  case rel => exact ⟨_, (1), dM, H', ⟨by first | omega | exact Nat.le_refl _⟩, ⟨Kd.bD (ci mE.out) (fun _ hk => hk.2)⟩, ⟨ci ka.out⟩, ⟨ct de.out⟩, ⟨mb HB.out⟩⟩
 case rest =>
  clear adg
  obtain ⟨kq, DX, rfl, HA, V5, ch, cI, de, HB⟩ := hcut
  have qZ := (Kd.aq ch.out).1
  rw [qZ] at ch
  (try simp only [qZ])
  (try simp only [qZ] at de)
  (try simp only [qZ] at cI)
  have mu := (Kd.aq cI.out).1
  rw [mu] at cI
  (try simp only [mu])
  (try simp only [mu] at de)
  (try simp only [mu] at ch)
  cases kq with
  | zero => exact absurd HA.out (by simp [aZ.j0])
  | succ aj5 =>
   have H := HA.out
   clear HA
   simp only [aZ.j0] at H
   have H' := Aside0.mk H
   clear H
   go_wp2
   go_loopg [9, 10, 11, 12, 13] aj5 (fun kq v9 v10 v11 v12 v13 w' => ∃ (gl : List Int) (wz : List Int) (Bl : Int) (rW : Int) (Fc : Int), v11 = .int .i64 Bl ∧ v12 = .int .i64 rW ∧ v13 = .int .i64 Fc ∧ Aside0 (aZ.l0 kq a1 gl wz Bl rW Fc aD aG = some (r1, r2, r3)) ∧ Aside0 (kq ≤ aj5) ∧ Aside0 (Kd.V (Kd.int .i64) 3 w' w.heap.size (fun _ => True) v9 gl) ∧ Aside0 (Kd.V (Kd.int .i64) 3 w' w.heap.size (fun _ => True) v10 wz) ∧ Aside0 (w'.heap[Bk]? = some (.cells #[(.slice (some sv) aD.length ap), (.slice ae aG.length a8)] 28 (0, 0))) ∧ Aside0 (Below w.heap.size w w'))
   case atStart => exact ⟨(sd), (se), (DX), (a1), (0), dM, dM, dM, H', ⟨Nat.le_refl _⟩, ⟨by (try simp only [qZ]); (try simp only [mu]); exact Kd.af (Kd.R_V (ci ch.out)) (fun _ _ => trivial)⟩, ⟨by (try simp only [qZ]); (try simp only [mu]); exact Kd.af (Kd.R_V (ci cI.out)) (fun _ _ => trivial)⟩, ⟨by (try simp only [qZ]); (try simp only [mu]); exact ct de.out⟩, ⟨mb HB.out⟩⟩
   case round =>
    clear H'
    obtain ⟨gl, wz, Bl, rW, Fc, rfl, rfl, rfl, HA, ft, ch, cI, de, HB⟩ := hrel
    cases gk with
    | zero => exact absurd HA.out (by simp [aZ.l0])
    | succ k2 =>
     have H := HA.out
     clear HA
     simp only [aZ.l0] at H
     by_cases Aj : Bl = 1
     rotate_left
     ·rw [if_neg Aj] at H
      have xA := iQ Aj
      have aj6 := iR Aj
      replace H := bZ H; obtain ⟨⟨ado, V6⟩, A39, H⟩ := H; dsimp only at H
      by_cases c40 : V6 = a1
      ·rw [if_pos c40] at H
       have Pd := il c40
       have aj7 := im c40
       clear c40
       simp only [Option.some.injEq, Prod.mk.injEq] at H
       obtain ⟨rfl, rfl, rfl⟩ := H
       have aoJ := cG de.out
       have aoK := cR de.out
       have aoL := aH de.out 0
       have aoM := aH de.out 1
       obtain ⟨Eg, kt, C_⟩ := Kd.lh cI.out
       subst C_
       go_wp2_with (first | ((with_reducible refine gC 148 rfl ?_); refine gL 53 Tryz.func148 #[.agg #[.slice (some sv) aD.length ap, .slice ae aG.length a8], .int .i64 2, .slice Eg wz.length kt, .int .i64 rW] ?_; (with_reducible refine (a6.calls k2 _ _ aD _ _ aG 2 _ _ wz rW ado V6 _ ?aT ?aU ?ao ?ar ?gy A39.out).mono ?_); (case aT => exact cB bl HB); (case aU => exact bz.out); (case ao => exact cB bx HB); (case ar => exact cE.out); (case gy => exact Fb (c_ cI.out)); rintro e w43 ⟨v752, rfl, cC, hb⟩; refine ⟨_, rfl, ?_⟩; have RS := am (Fb (base' := w.heap.size) cC); replace ch := am (Kd.cn (c_ ch.out) hb); replace cI := am (Kd.cn (c_ cI.out) hb); replace de := kS de hb; replace HB := bS HB hb; (try clear hb cC)))
       go_ret3
       exact ⟨_, _, by first | rfl | (simp [fp, fq] <;> rfl) | (simp only [← RO, ← RP]; first | rfl | (simp [fp, fq] <;> rfl)) | (simp [*, fp, fq] <;> rfl), c_ ch.out, c_ RS.out, mb HB.out⟩
      rw [if_neg c40] at H
      have Pd := iQ c40
      have aj7 := iR c40
      have H' := Aside0.mk H
      clear H
      have aoN := cG de.out
      have aoO := cR de.out
      have aoP := aH de.out 0
      have aoQ := aH de.out 1
      obtain ⟨nM, jB, Hd⟩ := Kd.lh cI.out
      subst Hd
      go_wp2_with (first | ((with_reducible refine gC 148 rfl ?_); refine gL 53 Tryz.func148 #[.agg #[.slice (some sv) aD.length ap, .slice ae aG.length a8], .int .i64 2, .slice nM wz.length jB, .int .i64 rW] ?_; (with_reducible refine (a6.calls k2 _ _ aD _ _ aG 2 _ _ wz rW ado V6 _ ?aT ?aU ?ao ?ar ?gy A39.out).mono ?_); (case aT => exact cB bl HB); (case aU => exact bz.out); (case ao => exact cB bx HB); (case ar => exact cE.out); (case gy => exact Fb (c_ cI.out)); rintro e w46 ⟨v752, rfl, cC, hb⟩; refine ⟨_, rfl, ?_⟩; have RS := am (Fb (base' := w.heap.size) cC); replace ch := am (Kd.cn (c_ ch.out) hb); replace cI := am (Kd.cn (c_ cI.out) hb); replace de := kS de hb; replace HB := bS HB hb; (try clear hb cC)))
      go_roundg k2
      case measure => have := V5.out; have := ft.out; omega
      case rel => exact ⟨(gl), (ado), (wrap64 (3 - Bl)), (V6), (wrap64 (Fc + 1)), dM, dM, dM, H', ⟨by have := V5.out; have := ft.out; omega⟩, ⟨c_ ch.out⟩, ⟨c_ RS.out⟩, ⟨by (try simp only [qZ]); (try simp only [mu]); exact ct de.out⟩, ⟨mb HB.out⟩⟩
     rw [if_pos Aj] at H
     have xA := il Aj
     have aj6 := im Aj
     clear Aj
     replace H := bZ H; obtain ⟨⟨adq, V7⟩, A31, H⟩ := H; dsimp only at H
     by_cases E6 : V7 = a1
     ·rw [if_pos E6] at H
      have zg := il E6
      have RN := im E6
      clear E6
      simp only [Option.some.injEq, Prod.mk.injEq] at H
      obtain ⟨rfl, rfl, rfl⟩ := H
      have aoR := cG de.out
      have aoS := cR de.out
      have aoT := aH de.out 0
      have aoU := aH de.out 1
      obtain ⟨aro, arp, arq⟩ := Kd.lh ch.out
      subst arq
      go_wp2_with (first | ((with_reducible refine gC 148 rfl ?_); refine gL 46 Tryz.func148 #[.agg #[.slice (some sv) aD.length ap, .slice ae aG.length a8], .int .i64 1, .slice aro gl.length arp, .int .i64 rW] ?_; (with_reducible refine (a6.calls k2 _ _ aD _ _ aG 1 _ _ gl rW adq V7 _ ?aT ?aU ?ao ?ar ?gy A31.out).mono ?_); (case aT => exact cB bl HB); (case aU => exact bz.out); (case ao => exact cB bx HB); (case ar => exact cE.out); (case gy => exact Fb (c_ ch.out)); rintro e Qo ⟨v748, rfl, cC, hb⟩; refine ⟨_, rfl, ?_⟩; have RT := am (Fb (base' := w.heap.size) cC); replace ch := am (Kd.cn (c_ ch.out) hb); replace cI := am (Kd.cn (c_ cI.out) hb); replace de := kS de hb; replace HB := bS HB hb; (try clear hb cC)))
      go_ret3
      exact ⟨_, _, by first | rfl | (simp [fp, fq] <;> rfl) | (simp only [← RO, ← RP]; first | rfl | (simp [fp, fq] <;> rfl)) | (simp [*, fp, fq] <;> rfl), c_ RT.out, c_ cI.out, mb HB.out⟩
     rw [if_neg E6] at H
     have zg := iQ E6
     have RN := iR E6
     have H' := Aside0.mk H
     clear H
     have aoV := cG de.out
     have aoW := cR de.out
     have aoX := aH de.out 0
     have aoY := aH de.out 1
     obtain ⟨VX, VY, Nr⟩ := Kd.lh ch.out
     subst Nr
     go_wp2_with (first | ((with_reducible refine gC 148 rfl ?_); refine gL 46 Tryz.func148 #[.agg #[.slice (some sv) aD.length ap, .slice ae aG.length a8], .int .i64 1, .slice VX gl.length VY, .int .i64 rW] ?_; (with_reducible refine (a6.calls k2 _ _ aD _ _ aG 1 _ _ gl rW adq V7 _ ?aT ?aU ?ao ?ar ?gy A31.out).mono ?_); (case aT => exact cB bl HB); (case aU => exact bz.out); (case ao => exact cB bx HB); (case ar => exact cE.out); (case gy => exact Fb (c_ ch.out)); rintro e w38 ⟨v748, rfl, cC, hb⟩; refine ⟨_, rfl, ?_⟩; have RT := am (Fb (base' := w.heap.size) cC); replace ch := am (Kd.cn (c_ ch.out) hb); replace cI := am (Kd.cn (c_ cI.out) hb); replace de := kS de hb; replace HB := bS HB hb; (try clear hb cC)))
     go_roundg k2
     case measure => have := V5.out; have := ft.out; omega
     case rel => exact ⟨(adq), (wz), (wrap64 (3 - Bl)), (V7), (wrap64 (Fc + 1)), dM, dM, dM, H', ⟨by have := V5.out; have := ft.out; omega⟩, ⟨c_ RT.out⟩, ⟨c_ cI.out⟩, ⟨by (try simp only [qZ]); (try simp only [mu]); exact ct de.out⟩, ⟨mb HB.out⟩⟩
def dR.f (k : Nat) (aD : List (List Int)) (aG : List (List Int)) (a1 : Int) : Option (Int × Bool) := (bo.f k aD aG a1).bind fun RU => (if RU = true then ((aZ.f k aD aG a1).bind fun RV => (some (RV.2.2, true))) else (some (0, false)))
theorem dR.mono : ∀ a0 a1 a2 k, bB (dR.f k a0 a1 a2) (dR.f (k + 1) a0 a1 a2) := by
 intro a0 a1 a2 k
 unfold dR.f
 repeat' first
   | (with_reducible exact bo.mono ..)
   | (with_reducible exact aZ.mono ..)
   | (with_reducible exact bB.refl _)
   | (with_reducible exact bB.none _)
   | (with_reducible refine bB.ite ?_ ?_)
   | (with_reducible refine bB.bind ?_ (fun _ => ?_))
theorem dR.calls (k : Nat) (ay : Option Addr) (ap : Nat) (aD : List (List Int)) (ae : Option Addr) (a8 : Nat) (aG : List (List Int)) (a1 : Int) (r1 : Int) (r2 : Bool) (w : World) (db : Kd.C (Kd.slice 3 (Kd.int .i64)) w ay aD.length aD) (dc : aD.length ≤ ap) (dH : Kd.C (Kd.slice 3 (Kd.int .i64)) w ae aG.length aG) (dI : aG.length ≤ a8) (h : dR.f k aD aG a1 = some (r1, r2)) :
  Calls Tryz.prog 38 #[.agg #[.slice ay aD.length ap, .slice ae aG.length a8], .int .i64 a1] w fun e w' => e = .returned (.tuple #[.int .i64 r1, .bool r2]) ∧ Below w.heap.size w w' := by
 have rD := Tryz.underlying28
 have bl := Aside0.mk db
 have bz := Aside0.mk dc
 clear db dc
 have bx := Aside0.mk dH
 have cE := Aside0.mk dI
 clear dH dI
 have HB := Aside0.mk (Below.refl w.heap.size w)
 have H : ((bo.f k aD aG a1).bind fun RU => (if RU = true then ((aZ.f k aD aG a1).bind fun RV => (some (RV.2.2, true))) else (some (0, false)))) = some (r1, r2) := h
 clear h
 replace H := bZ H; obtain ⟨RU, A3, H⟩ := H
 by_cases c4 : RU = true
 rotate_left
 ·replace c4 := Bool.eq_false_iff.mpr c4
  subst c4
  replace H := sZ H
  simp only [Option.some.injEq, Prod.mk.injEq] at H
  obtain ⟨rfl, rfl⟩ := H
  go_enter Tryz.func38, Tryz.ntmps38
  go_wp2_with (first | ((with_reducible refine ah (N := 2) rfl ?_); refine bE 2 #[.slice ay aD.length ap, .slice ae aG.length a8] 28 ?_; intro aj8 hg tu bO hb; have lH := am (bO); have RW := gW HB hg; have aj9 := RW; replace HB := bS HB hb; clear hb bO hg; have tv := cG lH.out; have tw := cR lH.out; have tx := aH lH.out 0; have tz := aH lH.out 1) | ((with_reducible refine gC 97 rfl ?_); refine gL 11 Tryz.func97 #[.agg #[.slice ay aD.length ap, .slice ae aG.length a8], .int .i64 a1] ?_; (with_reducible refine (bo.calls k _ _ aD _ _ aG a1 false _ ?aT ?aU ?ao ?ar A3.out).mono ?_); (case aT => exact cB bl HB); (case aU => exact bz.out); (case ao => exact cB bx HB); (case ar => exact cE.out); rintro e E2 ⟨rfl, hb⟩; refine ⟨_, rfl, ?_⟩; replace lH := kS lH hb; replace HB := bS HB hb; (try clear hb)))
  go_ret2
  exact ⟨jC, mb HB.out⟩
 subst c4
 replace H := sY H
 replace H := bZ H; obtain ⟨⟨arr, ars, art⟩, A5, H⟩ := H; dsimp only at H
 simp only [Option.some.injEq, Prod.mk.injEq] at H
 obtain ⟨rfl, rfl⟩ := H
 go_enter Tryz.func38, Tryz.ntmps38
 go_wp2_with (first | ((with_reducible refine ah (N := 2) rfl ?_); refine bE 2 #[.slice ay aD.length ap, .slice ae aG.length a8] 28 ?_; intro aj8 hg w6 bO hb; have lH := am (bO); have RW := gW HB hg; have aj9 := RW; replace HB := bS HB hb; clear hb bO hg; have abc := cG lH.out; have abd := cR lH.out; have abe := aH lH.out 0; have abf := aH lH.out 1) | ((with_reducible refine gC 97 rfl ?_); refine gL 11 Tryz.func97 #[.agg #[.slice ay aD.length ap, .slice ae aG.length a8], .int .i64 a1] ?_; (with_reducible refine (bo.calls k _ _ aD _ _ aG a1 true _ ?aT ?aU ?ao ?ar A3.out).mono ?_); (case aT => exact cB bl HB); (case aU => exact bz.out); (case ao => exact cB bx HB); (case ar => exact cE.out); rintro e w8 ⟨rfl, hb⟩; refine ⟨_, rfl, ?_⟩; replace lH := kS lH hb; replace HB := bS HB hb; (try clear hb); have vx := cG lH.out; have vy := cR lH.out; have vz := aH lH.out 0; have wA := aH lH.out 1) | ((with_reducible refine gC 98 rfl ?_); refine gL 16 Tryz.func98 #[.agg #[.slice ay aD.length ap, .slice ae aG.length a8], .int .i64 a1] ?_; (with_reducible refine (aZ.calls k _ _ aD _ _ aG a1 arr ars art _ ?aT ?aU ?ao ?ar A5.out).mono ?_); (case aT => exact cB bl HB); (case aU => exact bz.out); (case ao => exact cB bx HB); (case ar => exact cE.out); rintro e BZ ⟨v758, v761, rfl, cC, vo, hb⟩; refine ⟨_, rfl, ?_⟩; have auL := am (Kd.mi cC (aC (mb HB.out))); have auM := am (Kd.mi vo (aC (mb HB.out))); replace lH := kS lH hb; replace HB := bS HB hb; (try clear hb cC vo)))
 go_ret2
 exact ⟨jC, mb HB.out⟩
end Go.Proofs.YtggiicplcglalaaGreat.All
end
