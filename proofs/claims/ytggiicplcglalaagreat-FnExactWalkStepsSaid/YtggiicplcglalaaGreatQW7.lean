/- Part of the proof that FnExactWalkSteps answers true. -/
import Derived.Test.YtggiicplcglalaaGreatQW5
section
namespace Go.Proofs.YtggiicplcglalaaGreat.All
open Go.RowKit YtggiicplcglalaaGreatW.PrintWords YtggiicplcglalaaGreatW.PrintLast YtggiicplcglalaaGreatW.PrintMore
attribute [local go_sem] max2_int min2_int max_two min_two max_three min_three max_four min_four
set_option linter.unusedVariables false
set_option linter.unusedSimpArgs false
set_option maxHeartbeats 8000000
set_option maxRecDepth 100000
def Gp (g : Nat) (lb : Array Value) (l : List bm) (q : Nat → Bool) (w : World) : Prop :=
 ∀ j, j < l.length → ∀ W : World, Below w.heap.size w W → ∀ (A : Option Addr) (cc : Nat), (au l (j : Int)).f0.length ≤ cc → Kd.C (Kd.int .i64) w A (au l (j : Int)).f0.length (au l (j : Int)).f0 →
  Calls Tryz.prog g (#[.agg #[.slice A (au l (j : Int)).f0.length cc, .int .i64 (au l (j : Int)).f1, .bool (au l (j : Int)).f2]] ++ lb) W fun e w' => e = .returned (.bool (q j)) ∧ Below w.heap.size w w'
set_option maxHeartbeats 4000000 in
set_option maxRecDepth 100000 in
theorem Jg (g : Nat) (lb : Array Value) (eg : ∀ args w, (callFunc g args).run Tryz.prog w = .ok (.enter g args) w) (q : Nat → Bool) (A0 : Option Addr) (n c : Nat) (l : List bm) (hln : l.length = n) (w : World)
  (hp : Gp g lb l q w) (hc : Kd.C eB w A0 n l) :
  Calls Tryz.prog 159 #[.slice A0 n c, .func (.func g) #[] lb] w fun e w' => e = .returned (.int .i64 (iB q n 0)) ∧ Below w.heap.size w w' := by
 have hu := Tryz.underlying113
 have hn : n ≤ 9223372036854775807 := hc.2.1
 have HP := Aside0.mk hp
 have HC := Aside0.mk hc
 have HN := Aside0.mk hn
 have HL := Aside0.mk hln
 clear hc hp hn hln
 go_enter Tryz.func159, Tryz.ntmps159
 go_wp2
 go_loopg [5, 8] n (fun gg _ s8 wr => ∃ kk : Nat, kk ≤ n ∧ n - kk ≤ gg ∧ s8 = .int .i64 kk ∧ Aside0 (Below w.heap.size w wr) ∧ Aside0 (∀ j, j < kk → q j = false))
 case atStart => exact ⟨0, Nat.zero_le _, by omega, rfl, ⟨Below.refl _ w⟩, ⟨fun j hj => absurd hj (Nat.not_lt_zero _)⟩⟩
 case round =>
  obtain ⟨kk, hkk, hg, rfl, BW, A⟩ := hrel
  have Yw := HN.out
  by_cases gS : kk < n
  rotate_left
  ·have Oc : ¬ (kk : Int) < (n : Int) := by omega
   have : kk = n := by omega
   subst this
   go_wp2
   go_ret
   refine ⟨?_, BW.out⟩
   rw [nA q kk 0 (fun m _ h => A.out m (by omega))]
   rfl
  have Oc : (kk : Int) < (n : Int) := by omega
  have amU := HL.out
  obtain ⟨ad, A1, c1, ea, Fy, Te, Tf, Iw, hi0⟩ := rq HC.out (kk : Int) (by omega) Oc
  cases ea
  have ii := HP.out kk (by rw [amU]; exact gS) wr BW.out A1 c1 Iw hi0
  simp only [Int.toNat_natCast] at Fy Te Tf
  generalize au l (kk : Int) = x at Fy Te Tf Iw hi0 ii
  replace Fy := (BW.out.cell (World.block_lt_of_cell? w _ Fy)).trans Fy
  replace Te := (BW.out.cell (World.block_lt_of_cell? w _ Te)).trans Te
  replace Tf := (BW.out.cell (World.block_lt_of_cell? w _ Tf)).trans Tf
  clear Iw hi0 amU
  cases hq : q kk with
  | true =>
   rw [hq] at ii
   have HQ := Aside0.mk hq
   clear hq
   go_wp2_with (go_at_fn g; refine ii.mono ?_; rintro e w' ⟨rfl, sh⟩)
   go_ret
   refine ⟨?_, sh⟩
   rw [oV q kk HQ.out n 0 (Nat.zero_le _) (by omega) (fun m _ h => A.out m h)]
   rfl
  | false =>
   rw [hq] at ii
   have HQ := Aside0.mk hq
   clear hq
   go_wp2_with (go_at_fn g; refine ii.mono ?_; rintro e w' ⟨rfl, sh⟩)
   go_roundg (n - (kk + 1))
   case measure => omega
   case rel =>
    refine ⟨kk + 1, by omega, by omega, by go_num, ⟨sh⟩, ⟨fun j hj => ?_⟩⟩
    by_cases e : j = kk
    ·subst e; exact HQ.out
    exact A.out j (by omega)
theorem xT (q : Nat → Bool) : ∀ d i, decide (0 ≤ iB q d i) = (List.range' i d).any q
 | 0, i => by simp [iB]
 | d + 1, i => by
  unfold iB
  rw [List.range'_succ, List.any_cons]
  cases h : q i with
  | true => simp
  | false => simp [xT q d (i + 1)]
set_option maxHeartbeats 4000000 in
set_option maxRecDepth 100000 in
theorem BQ (g : Nat) (lb : Array Value) (eg : ∀ args w, (callFunc g args).run Tryz.prog w = .ok (.enter g args) w) (q : Nat → Bool) (A0 : Option Addr) (c : Nat) (l : List bm) (w : World)
  (hp : Gp g lb l q w) (hc : Kd.C eB w A0 l.length l) :
  Calls Tryz.prog 130 #[.slice A0 l.length c, .func (.func g) #[] lb] w fun e w' => e = .returned (.bool ((List.range' 0 l.length).any q)) ∧ Below w.heap.size w w' := by
 have h1 := Jg g lb eg q A0 l.length c l rfl w hp hc
 have HE := Aside0.mk (xT q l.length 0)
 clear hp hc
 go_enter Tryz.func130, Tryz.ntmps130
 go_wp2_with (go_at_call 159; refine h1.mono ?_; rintro e w' ⟨rfl, sh⟩)
 go_ret
 refine ⟨?_, sh⟩
 rw [← HE.out]
 rfl
def dE.l0 : Nat → List Int → Int → List Int → Int → Int → Option (Int)
 | 0, _, _, _, _, _ => none
 | k + 1, x1, x5, x8, x9, iM => if iM < x9 then (if 0 ≤ iM then (if iM < (x8.length : Int) then (if iM < (x1.length : Int) then (dE.l0 k x1 (wrap64 (x5 + (wrap64 ((rd x8 iM) * (rd x1 iM))))) x8 x9 (wrap64 (iM + 1))) else (none)) else (none)) else (none)) else (some x5)
def dE.f (k : Nat) (l0 : List Int) (l1 : List Int) : Option (Int) := dE.l0 k l1 0 l0 (l0.length : Int) 0
theorem dE.bG : ∀ k, (∀ y0 y1 y2 y3 y4, bB (dE.l0 k y0 y1 y2 y3 y4) (dE.l0 (k + 1) y0 y1 y2 y3 y4))
 | 0 => fun _ _ _ _ _ r h => by simp [dE.l0] at h
 | k + 1 => by
  have eQ := dE.bG k
  ·intro y0 y1 y2 y3 y4
   unfold dE.l0
   repeat' first
   | (with_reducible exact eQ ..)
   | (with_reducible exact bB.refl _)
   | (with_reducible exact bB.none _)
   | (with_reducible refine bB.ite ?_ ?_)
   | (with_reducible refine bB.bind ?_ (fun _ => ?_))
theorem dE.mono : ∀ a0 a1 k, bB (dE.f k a0 a1) (dE.f (k + 1) a0 a1) := by
 intro a0 a1 k
 have eQ := dE.bG k
 unfold dE.f
 repeat' first
   | (with_reducible exact eQ ..)
   | (with_reducible exact bB.refl _)
   | (with_reducible exact bB.none _)
   | (with_reducible refine bB.ite ?_ ?_)
   | (with_reducible refine bB.bind ?_ (fun _ => ?_))
theorem dE.calls (k : Nat) (A0 : Option Addr) (c0 : Nat) (l0 : List Int) (A1 : Option Addr) (c1 : Nat) (l1 : List Int) (r : Int) (w : World) (gD : Kd.C (Kd.int .i64) w A0 l0.length l0) (hJ : l0.length ≤ c0) (nn : Kd.C (Kd.int .i64) w A1 l1.length l1) (mN : l1.length ≤ c1) (h : dE.f k l0 l1 = some r) :
  Calls Tryz.prog 111 #[.slice A0 l0.length c0, .slice A1 l1.length c1] w fun e w' => e = .returned (.int .i64 r) ∧ bM w w' := by
 have jt := Aside0.mk gD
 have wj := Aside0.mk hJ
 clear gD hJ
 have lz := Aside0.mk nn
 have Ag := Aside0.mk mN
 clear nn mN
 have H : (dE.l0 k l1 0 l0 (l0.length : Int) 0) = some r := h
 clear h
 have H' := Aside0.mk H
 clear H
 go_enter Tryz.func111, Tryz.ntmps111
 go_wp2
 go_loopg [5, 10] k (fun kq v5 v10 w' => ∃ (aj : Int) (p5 : Int), v5 = .int .i64 aj ∧ v10 = .int .i64 p5 ∧ Aside0 (dE.l0 kq l1 aj l0 (l0.length : Int) p5 = some r) ∧ Aside0 (kq ≤ k) ∧ bM w w')
 case atStart => exact ⟨(0), (0), dM, dM, H', ⟨Nat.le_refl _⟩, by repeat (first | exact bM.refl _ | apply bM.step)⟩
 case round =>
  clear H'
  obtain ⟨aj, p5, rfl, rfl, HA, dP, ⟨m1, rfl⟩⟩ := hrel
  cases gk with
  | zero => exact absurd HA.out (by simp [dE.l0])
  | succ k1 =>
   have H := HA.out
   clear HA
   simp only [dE.l0] at H
   by_cases c3 : p5 < (l0.length : Int)
   rotate_left
   ·rw [if_neg c3] at H
    have gX := decide_eq_false c3
    clear c3
    obtain rfl := Option.some.inj H
    go_wp2
    go_ret
    exact ⟨mL, mM⟩
   rw [if_pos c3] at H
   have gX := decide_eq_true c3
   clear c3
   replace H := fW H; obtain ⟨iI, H⟩ := H
   replace H := fW H; obtain ⟨jR, H⟩ := H
   replace H := fW H; obtain ⟨hU, H⟩ := H
   have H' := Aside0.mk H
   clear H
   have afj : 0 ≤ (p5 : Int) := bX
   have afk : p5 < (l0.length : Int) := bX
   obtain ⟨avm, asW, apn⟩ := Kd.bi jt.out p5 afj afk
   cases asW
   replace afj := eq_true afj
   replace afk := eq_true afk
   have afl : 0 ≤ (p5 : Int) := bX
   have afm : p5 < (l1.length : Int) := bX
   obtain ⟨avn, asX, apo⟩ := Kd.bi lz.out p5 afl afm
   cases asX
   replace afl := eq_true afl
   replace afm := eq_true afm
   go_wp2
   go_roundg k1
   case measure => have := dP.out; omega
   case rel => exact ⟨(wrap64 (aj + (wrap64 ((rd l0 p5) * (rd l1 p5))))), (wrap64 (p5 + 1)), dM, dM, H', ⟨by have := dP.out; omega⟩, by repeat (first | exact bM.refl _ | apply bM.step)⟩
def b4.f (k : Nat) (aD : List Int) (ny : Int) (qm : Bool) (l1 : List Int) : Option (Int) := if 0 ≤ (aD.length : Int) then (if (aD.length : Int) ≤ (l1.length : Int) then ((dE.f k aD (l1.take ((aD.length : Int) : Int).toNat)).bind fun om => (if (aD.length : Int) < (l1.length : Int) then (if (wrap64 (om - (wrap64 (ny * (rd l1 (aD.length : Int)))))) = 0 then (some 0) else (if ((decide ((wrap64 (om - (wrap64 (ny * (rd l1 (aD.length : Int)))))) > 0)) == qm) = true then (some 1) else (some (-1)))) else (none))) else (none)) else (none)
theorem b4.mono : ∀ a0 a1 a2 a3 k, bB (b4.f k a0 a1 a2 a3) (b4.f (k + 1) a0 a1 a2 a3) := by
 intro a0 a1 a2 a3 k
 unfold b4.f
 repeat' first
   | (with_reducible exact dE.mono ..)
   | (with_reducible exact bB.refl _)
   | (with_reducible exact bB.none _)
   | (with_reducible refine bB.ite ?_ ?_)
   | (with_reducible refine bB.bind ?_ (fun _ => ?_))
theorem b4.calls (k : Nat) (ay : Option Addr) (ap : Nat) (aD : List Int) (ny : Int) (qm : Bool) (A1 : Option Addr) (c1 : Nat) (l1 : List Int) (r : Int) (w : World) (db : Kd.C (Kd.int .i64) w ay aD.length aD) (dc : aD.length ≤ ap) (nn : Kd.C (Kd.int .i64) w A1 l1.length l1) (mN : l1.length ≤ c1) (h : b4.f k aD ny qm l1 = some r) :
  Calls Tryz.prog 132 #[.agg #[.slice ay aD.length ap, .int .i64 ny, .bool qm], .slice A1 l1.length c1] w fun e w' => e = .returned (.int .i64 r) ∧ Below w.heap.size w w' := by
 have KE := Tryz.underlying113
 have bl := Aside0.mk db
 have bz := Aside0.mk dc
 clear db dc
 have lz := Aside0.mk nn
 have Ag := Aside0.mk mN
 clear nn mN
 have HB := Aside0.mk (Below.refl w.heap.size w)
 have H : (if 0 ≤ (aD.length : Int) then (if (aD.length : Int) ≤ (l1.length : Int) then ((dE.f k aD (l1.take ((aD.length : Int) : Int).toNat)).bind fun om => (if (aD.length : Int) < (l1.length : Int) then (if (wrap64 (om - (wrap64 (ny * (rd l1 (aD.length : Int)))))) = 0 then (some 0) else (if ((decide ((wrap64 (om - (wrap64 (ny * (rd l1 (aD.length : Int)))))) > 0)) == qm) = true then (some 1) else (some (-1)))) else (none))) else (none)) else (none)) = some r := h
 clear h
 by_cases c3 : 0 ≤ (aD.length : Int)
 rotate_left
 ·rw [if_neg c3] at H
  exact absurd H (by simp)
 rw [if_pos c3] at H
 have gX := eq_true c3
 have qB := decide_eq_true c3
 clear c3
 replace H := oo H; obtain ⟨c4, H⟩ := H
 have iI := eq_true c4
 have N5 := decide_eq_true c4
 clear c4
 replace H := bZ H; obtain ⟨om, A5, H⟩ := H
 replace H := oo H; obtain ⟨c6, H⟩ := H
 have hU := decide_eq_true c6
 have vt : decide (aD.length < l1.length) = true := decide_eq_true (Int.ofNat_lt.mp c6)
 clear c6
 by_cases c7 : (wrap64 (om - (wrap64 (ny * (rd l1 (aD.length : Int)))))) = 0
 ·rw [if_pos c7] at H
  have lO := il c7
  have xf := im c7
  clear c7
  obtain rfl := Option.some.inj H
  go_enter Tryz.func132, Tryz.ntmps132
  go_wp2_with (first | ((with_reducible refine ah (N := 2) rfl ?_); refine bE 2 #[.slice ay aD.length ap, .int .i64 ny, .bool qm] 113 ?_; intro Gq hg w8 bO hb; have fS := am (bO); have ri := gW HB hg; have Gr := ri; replace HB := bS HB hb; clear hb bO hg; have vx := cG fS.out; have vy := cR fS.out; have TC := rL fS.out; have vz := aH fS.out 0; have wA := aH fS.out 1; have TD := aH fS.out 2; obtain ⟨asY, Gs, _, Gt, _⟩ := info_parts eT; obtain ⟨afn, TE, TF⟩ := iF (P := Tryz.prog) (Value.int .i64) 0 40 3 .i64 Tryz.underlying40 Gs Gt A1 c1 l1 (aD.length : Int) (bX) (bX) Ag.out; have rj := Aside0.mk (Kd.ix (h1 := fun _ => rfl) (TE _ (Kd.iG lz.out))); have rk := Aside0.mk TF; clear TE TF Gs Gt; have nh : 0 ≤ ((aD.length : Int) : Int) := bX; have ni : (aD.length : Int) < (l1.length : Int) := bX; obtain ⟨Gu, AZ, eU⟩ := Kd.bi lz.out (aD.length : Int) nh ni; cases AZ; replace eU := (HB.out.cell (World.block_lt_of_cell? w _ eU)).trans eU; (try simp only [Go.IntWalk.toNatUp] at eU); replace nh := eq_true nh; replace ni := eq_true ni) | (go_at_call 111; (try rw [show min aD.length l1.length = (l1.take ((aD.length : Int) : Int).toNat).length from by rw [List.length_take]; rfl]); (with_reducible refine (dE.calls k _ _ aD _ _ (l1.take ((aD.length : Int) : Int).toNat) om _ ?aT ?aU ?ao ?ar A5.out).mono ?_); (case aT => exact cB bl HB); (case aU => exact bz.out); (case ao => exact cB rj HB); (case ar => exact rk.out); rintro e w' ⟨rfl, ⟨nd, rfl⟩⟩; (try exact dD)))
  go_quiet (first | ((with_reducible refine ah (N := 2) rfl ?_); refine bE 2 #[.slice ay aD.length ap, .int .i64 ny, .bool qm] 113 ?_; intro Gq hg w8 bO hb; have fS := am (bO); have ri := gW HB hg; have Gr := ri; replace HB := bS HB hb; clear hb bO hg; have vx := cG fS.out; have vy := cR fS.out; have TC := rL fS.out; have vz := aH fS.out 0; have wA := aH fS.out 1; have TD := aH fS.out 2; obtain ⟨asY, Gs, _, Gt, _⟩ := info_parts eT; obtain ⟨afn, TE, TF⟩ := iF (P := Tryz.prog) (Value.int .i64) 0 40 3 .i64 Tryz.underlying40 Gs Gt A1 c1 l1 (aD.length : Int) (bX) (bX) Ag.out; have rj := Aside0.mk (Kd.ix (h1 := fun _ => rfl) (TE _ (Kd.iG lz.out))); have rk := Aside0.mk TF; clear TE TF Gs Gt; have nh : 0 ≤ ((aD.length : Int) : Int) := bX; have ni : (aD.length : Int) < (l1.length : Int) := bX; obtain ⟨Gu, AZ, eU⟩ := Kd.bi lz.out (aD.length : Int) nh ni; cases AZ; replace eU := (HB.out.cell (World.block_lt_of_cell? w _ eU)).trans eU; (try simp only [Go.IntWalk.toNatUp] at eU); replace nh := eq_true nh; replace ni := eq_true ni) | (go_at_call 111; (try rw [show min aD.length l1.length = (l1.take ((aD.length : Int) : Int).toNat).length from by rw [List.length_take]; rfl]); (with_reducible refine (dE.calls k _ _ aD _ _ (l1.take ((aD.length : Int) : Int).toNat) om _ ?aT ?aU ?ao ?ar A5.out).mono ?_); (case aT => exact cB bl HB); (case aU => exact bz.out); (case ao => exact cB rj HB); (case ar => exact rk.out); rintro e w' ⟨rfl, ⟨nd, rfl⟩⟩; (try exact dD))); try go_wp2
  go_ret
  exact ⟨jC, mb HB.out⟩
 rw [if_neg c7] at H
 have lO := iQ c7
 have xf := iR c7
 by_cases nN : ((decide ((wrap64 (om - (wrap64 (ny * (rd l1 (aD.length : Int)))))) > 0)) == qm) = true
 ·rw [if_pos nN] at H
  have nJ : ((decide ((wrap64 (om - (wrap64 (ny * (rd l1 (aD.length : Int)))))) > 0)) == qm) = true := nN
  (try (have Eh : decide ((decide ((wrap64 (om - (wrap64 (ny * (rd l1 (aD.length : Int)))))) > 0)) = qm) = true := by simpa using nN))
  (try (have amV : ((decide ((wrap64 (om - (wrap64 (ny * (rd l1 (aD.length : Int)))))) > 0)) == qm) = true := by simpa using nN))
  clear nN
  obtain rfl := Option.some.inj H
  go_enter Tryz.func132, Tryz.ntmps132
  go_wp2_with (first | ((with_reducible refine ah (N := 2) rfl ?_); refine bE 2 #[.slice ay aD.length ap, .int .i64 ny, .bool qm] 113 ?_; intro Gq hg Ou bO hb; have fS := am (bO); have ri := gW HB hg; have Gr := ri; replace HB := bS HB hb; clear hb bO hg; have MR := cG fS.out; have MS := cR fS.out; have XP := rL fS.out; have MT := aH fS.out 0; have MU := aH fS.out 1; have XQ := aH fS.out 2; obtain ⟨asZ, Gv, _, Gw, _⟩ := info_parts eT; obtain ⟨afo, TG, TH⟩ := iF (P := Tryz.prog) (Value.int .i64) 0 40 3 .i64 Tryz.underlying40 Gv Gw A1 c1 l1 (aD.length : Int) (bX) (bX) Ag.out; have rj := Aside0.mk (Kd.ix (h1 := fun _ => rfl) (TG _ (Kd.iG lz.out))); have rk := Aside0.mk TH; clear TG TH Gv Gw; have nh : 0 ≤ ((aD.length : Int) : Int) := bX; have ni : (aD.length : Int) < (l1.length : Int) := bX; obtain ⟨Gu, AZ, eU⟩ := Kd.bi lz.out (aD.length : Int) nh ni; cases AZ; replace eU := (HB.out.cell (World.block_lt_of_cell? w _ eU)).trans eU; (try simp only [Go.IntWalk.toNatUp] at eU); replace nh := eq_true nh; replace ni := eq_true ni) | (go_at_call 111; (try rw [show min aD.length l1.length = (l1.take ((aD.length : Int) : Int).toNat).length from by rw [List.length_take]; rfl]); (with_reducible refine (dE.calls k _ _ aD _ _ (l1.take ((aD.length : Int) : Int).toNat) om _ ?aT ?aU ?ao ?ar A5.out).mono ?_); (case aT => exact cB bl HB); (case aU => exact bz.out); (case ao => exact cB rj HB); (case ar => exact rk.out); rintro e w' ⟨rfl, ⟨nd, rfl⟩⟩; (try exact dD)))
  go_quiet (first | ((with_reducible refine ah (N := 2) rfl ?_); refine bE 2 #[.slice ay aD.length ap, .int .i64 ny, .bool qm] 113 ?_; intro Gq hg Ou bO hb; have fS := am (bO); have ri := gW HB hg; have Gr := ri; replace HB := bS HB hb; clear hb bO hg; have MR := cG fS.out; have MS := cR fS.out; have XP := rL fS.out; have MT := aH fS.out 0; have MU := aH fS.out 1; have XQ := aH fS.out 2; obtain ⟨asZ, Gv, _, Gw, _⟩ := info_parts eT; obtain ⟨afo, TG, TH⟩ := iF (P := Tryz.prog) (Value.int .i64) 0 40 3 .i64 Tryz.underlying40 Gv Gw A1 c1 l1 (aD.length : Int) (bX) (bX) Ag.out; have rj := Aside0.mk (Kd.ix (h1 := fun _ => rfl) (TG _ (Kd.iG lz.out))); have rk := Aside0.mk TH; clear TG TH Gv Gw; have nh : 0 ≤ ((aD.length : Int) : Int) := bX; have ni : (aD.length : Int) < (l1.length : Int) := bX; obtain ⟨Gu, AZ, eU⟩ := Kd.bi lz.out (aD.length : Int) nh ni; cases AZ; replace eU := (HB.out.cell (World.block_lt_of_cell? w _ eU)).trans eU; (try simp only [Go.IntWalk.toNatUp] at eU); replace nh := eq_true nh; replace ni := eq_true ni) | (go_at_call 111; (try rw [show min aD.length l1.length = (l1.take ((aD.length : Int) : Int).toNat).length from by rw [List.length_take]; rfl]); (with_reducible refine (dE.calls k _ _ aD _ _ (l1.take ((aD.length : Int) : Int).toNat) om _ ?aT ?aU ?ao ?ar A5.out).mono ?_); (case aT => exact cB bl HB); (case aU => exact bz.out); (case ao => exact cB rj HB); (case ar => exact rk.out); rintro e w' ⟨rfl, ⟨nd, rfl⟩⟩; (try exact dD))); try go_wp2
  go_ret
  exact ⟨jC, mb HB.out⟩
 rw [if_neg nN] at H
 have nJ : ((decide ((wrap64 (om - (wrap64 (ny * (rd l1 (aD.length : Int)))))) > 0)) == qm) = false := by simpa using nN
 (try (have Eh : decide ((decide ((wrap64 (om - (wrap64 (ny * (rd l1 (aD.length : Int)))))) > 0)) = qm) = false := by simpa using nN))
 (try (have amV : ((decide ((wrap64 (om - (wrap64 (ny * (rd l1 (aD.length : Int)))))) > 0)) == qm) = false := by simpa using nN))
 (try (have avo : ¬ ((decide ((wrap64 (om - (wrap64 (ny * (rd l1 (aD.length : Int)))))) > 0)) = qm) := by simpa using nN))
 clear nN
 obtain rfl := Option.some.inj H
 go_enter Tryz.func132, Tryz.ntmps132
 go_wp2_with (first | ((with_reducible refine ah (N := 2) rfl ?_); refine bE 2 #[.slice ay aD.length ap, .int .i64 ny, .bool qm] 113 ?_; intro Gq hg NQ bO hb; have fS := am (bO); have ri := gW HB hg; have Gr := ri; replace HB := bS HB hb; clear hb bO hg; have yQ := cG fS.out; have yR := cR fS.out; have XR := rL fS.out; have yS := aH fS.out 0; have yT := aH fS.out 1; have XS := aH fS.out 2; obtain ⟨as0, Gx, _, Gy, _⟩ := info_parts eT; obtain ⟨afp, TI, TJ⟩ := iF (P := Tryz.prog) (Value.int .i64) 0 40 3 .i64 Tryz.underlying40 Gx Gy A1 c1 l1 (aD.length : Int) (bX) (bX) Ag.out; have rj := Aside0.mk (Kd.ix (h1 := fun _ => rfl) (TI _ (Kd.iG lz.out))); have rk := Aside0.mk TJ; clear TI TJ Gx Gy; have nh : 0 ≤ ((aD.length : Int) : Int) := bX; have ni : (aD.length : Int) < (l1.length : Int) := bX; obtain ⟨Gu, AZ, eU⟩ := Kd.bi lz.out (aD.length : Int) nh ni; cases AZ; replace eU := (HB.out.cell (World.block_lt_of_cell? w _ eU)).trans eU; (try simp only [Go.IntWalk.toNatUp] at eU); replace nh := eq_true nh; replace ni := eq_true ni) | (go_at_call 111; (try rw [show min aD.length l1.length = (l1.take ((aD.length : Int) : Int).toNat).length from by rw [List.length_take]; rfl]); (with_reducible refine (dE.calls k _ _ aD _ _ (l1.take ((aD.length : Int) : Int).toNat) om _ ?aT ?aU ?ao ?ar A5.out).mono ?_); (case aT => exact cB bl HB); (case aU => exact bz.out); (case ao => exact cB rj HB); (case ar => exact rk.out); rintro e w' ⟨rfl, ⟨nd, rfl⟩⟩; (try exact dD)))
 go_quiet (first | ((with_reducible refine ah (N := 2) rfl ?_); refine bE 2 #[.slice ay aD.length ap, .int .i64 ny, .bool qm] 113 ?_; intro Gq hg NQ bO hb; have fS := am (bO); have ri := gW HB hg; have Gr := ri; replace HB := bS HB hb; clear hb bO hg; have yQ := cG fS.out; have yR := cR fS.out; have XR := rL fS.out; have yS := aH fS.out 0; have yT := aH fS.out 1; have XS := aH fS.out 2; obtain ⟨as0, Gx, _, Gy, _⟩ := info_parts eT; obtain ⟨afp, TI, TJ⟩ := iF (P := Tryz.prog) (Value.int .i64) 0 40 3 .i64 Tryz.underlying40 Gx Gy A1 c1 l1 (aD.length : Int) (bX) (bX) Ag.out; have rj := Aside0.mk (Kd.ix (h1 := fun _ => rfl) (TI _ (Kd.iG lz.out))); have rk := Aside0.mk TJ; clear TI TJ Gx Gy; have nh : 0 ≤ ((aD.length : Int) : Int) := bX; have ni : (aD.length : Int) < (l1.length : Int) := bX; obtain ⟨Gu, AZ, eU⟩ := Kd.bi lz.out (aD.length : Int) nh ni; cases AZ; replace eU := (HB.out.cell (World.block_lt_of_cell? w _ eU)).trans eU; (try simp only [Go.IntWalk.toNatUp] at eU); replace nh := eq_true nh; replace ni := eq_true ni) | (go_at_call 111; (try rw [show min aD.length l1.length = (l1.take ((aD.length : Int) : Int).toNat).length from by rw [List.length_take]; rfl]); (with_reducible refine (dE.calls k _ _ aD _ _ (l1.take ((aD.length : Int) : Int).toNat) om _ ?aT ?aU ?ao ?ar A5.out).mono ?_); (case aT => exact cB bl HB); (case aU => exact bz.out); (case ao => exact cB rj HB); (case ar => exact rk.out); rintro e w' ⟨rfl, ⟨nd, rfl⟩⟩; (try exact dD))); try go_wp2
 go_ret
 exact ⟨jC, mb HB.out⟩
def qw (k : Nat) (l : List bm) (p : List Int) (j : Nat) : Option Int := b4.f k (au l (j : Int)).f0 (au l (j : Int)).f1 (au l (j : Int)).f2 p
def dv.f (k : Nat) (l : List bm) (p : List Int) : Option Bool := if ((List.range' 0 l.length).all fun j => (qw k l p j).isSome) = true then some ((List.range' 0 l.length).any fun j => decide ((qw k l p j).getD 0 < 0)) else none
theorem Jh (k : Nat) (l : List bm) (p : List Int) (j : Nat) (h : (qw k l p j).isSome = true) : qw (k + 1) l p j = qw k l p j := by
 obtain ⟨v, hv⟩ := Option.isSome_iff_exists.mp h
 rw [hv]
 exact b4.mono _ _ _ _ k _ hv
theorem vW (F G : Nat → Option Int) : ∀ L : List Nat, (∀ j ∈ L, (F j).isSome = true → G j = F j) → (L.all fun j => (F j).isSome) = true → (L.all fun j => (G j).isSome) = true ∧ (L.any fun j => decide ((G j).getD 0 < 0)) = (L.any fun j => decide ((F j).getD 0 < 0))
 | [], _, _ => ⟨rfl, rfl⟩
 | a :: L, h, ha => by
  simp only [List.all_cons, Bool.and_eq_true] at ha ⊢
  have e := h a (by simp) ha.1
  have ih := vW F G L (fun j hj => h j (by simp [hj])) ha.2
  simp only [List.any_cons, e, ih.2]
  exact ⟨⟨ha.1, ih.1⟩, trivial⟩
theorem dv.mono : ∀ l p k, bB (dv.f k l p) (dv.f (k + 1) l p) := by
 intro l p k r h
 unfold dv.f at h ⊢
 by_cases c : ((List.range' 0 l.length).all fun j => (qw k l p j).isSome) = true
 rotate_left
 ·rw [if_neg c] at h
  cases h
 rw [if_pos c] at h
 obtain ⟨a, b⟩ := vW (qw k l p) (qw (k + 1) l p) _ (fun j _ hs => Jh k l p j hs) c
 rw [if_pos a, b]
 exact h
theorem A_ (k : Nat) (x : bm) (A : Option Addr) (cc : Nat) (G : Nat) (A1 : Option Addr) (c1 : Nat) (p : List Int) (v : Int) (w W : World) (hb : Below w.heap.size w W) (hx : w.cell? ⟨G, 0, none⟩ = some (.slice A1 p.length c1)) (hp : Kd.C (Kd.int .i64) w A1 p.length p) (hc : p.length ≤ c1) (hl : x.f0.length ≤ cc) (hr : Kd.C (Kd.int .i64) w A x.f0.length x.f0) (h : b4.f k x.f0 x.f1 x.f2 p = some v) :
  Calls Tryz.prog 131 #[.agg #[.slice A x.f0.length cc, .int .i64 x.f1, .bool x.f2], .pointer (some ⟨G, 0, none⟩)] W fun e w' => e = .returned (.bool (decide (v < 0))) ∧ Below w.heap.size w w' := by
 have hu := Tryz.underlying113
 have T9 := (hb.cell (World.block_lt_of_cell? w _ hx)).trans hx
 have HX := Aside0.mk T9
 have HB := Aside0.mk hb
 have HW := Aside0.mk hb.size
 have lP := fun (W1 : World) (NJ : Below w.heap.size w W1) => b4.calls k A cc x.f0 x.f1 x.f2 A1 c1 p v W1 (Kd.bh hr NJ) hl (Kd.bh hp NJ) hc h
 have HK := Aside0.mk lP
 clear hx hp hc hl hr h hb T9 lP
 go_enter Tryz.func131, Tryz.ntmps131
 go_wp2_with (first
  | ((with_reducible refine ah (N := 2) rfl ?_); refine bE 2 #[.slice A x.f0.length cc, .int .i64 x.f1, .bool x.f2] 113 ?_; intro gb hg w8 bO hb; have HB8 := Aside0.mk (HB.out.trans (hb.mono HW.out)); have hx8 := (hb.cell (World.block_lt_of_cell? W _ HX.out)).trans HX.out; have Af : w8.cell? ⟨gb, 0, none⟩ = some (.slice A x.f0.length cc) := (aQ bO 0).trans rfl; have kH : w8.cell? ⟨gb, 1, none⟩ = some (.int .i64 x.f1) := (aQ bO 1).trans rfl; have lu : w8.cell? ⟨gb, 2, none⟩ = some (.bool x.f2) := (aQ bO 2).trans rfl; clear hb bO hg)
  | (go_at_call 132; refine (HK.out _ HB8.out).mono ?_; rintro e w' ⟨rfl, sh⟩; have HB9 := Aside0.mk (HB8.out.trans (sh.mono HB8.out.size)); clear sh))
 go_ret
 exact ⟨rfl, HB9.out⟩
theorem dv.calls (k : Nat) (A0 : Option Addr) (c0 : Nat) (l0 : List bm) (G : Nat) (A1 : Option Addr) (c1 : Nat) (p : List Int) (r : Bool) (w : World) (gD : Kd.C eB w A0 l0.length l0) (hJ : l0.length ≤ c0) (hx : w.cell? ⟨G, 0, none⟩ = some (.slice A1 p.length c1)) (hp : Kd.C (Kd.int .i64) w A1 p.length p) (hc : p.length ≤ c1) (h : dv.f k l0 p = some r) :
  Calls Tryz.prog 130 #[.slice A0 l0.length c0, .func (.func 131) #[] #[.pointer (some ⟨G, 0, none⟩)]] w fun e w' => e = .returned (.bool r) ∧ Below w.heap.size w w' := by
 unfold dv.f at h
 by_cases ca : ((List.range' 0 l0.length).all fun j => (qw k l0 p j).isSome) = true
 rotate_left
 ·rw [if_neg ca] at h
  cases h
 rw [if_pos ca] at h
 obtain rfl := Option.some.inj h
 refine BQ 131 _ (enters_of Tryz.func131 (by kernel_rfl) rfl) (fun j => decide ((qw k l0 p j).getD 0 < 0)) A0 c0 l0 w ?_ gD
 intro j hj W hb A cc hl hr
 have hs : (qw k l0 p j).isSome = true := List.all_eq_true.mp ca j (by rw [List.mem_range']; exact ⟨j, hj, by omega⟩)
 obtain ⟨v, hv⟩ := Option.isSome_iff_exists.mp hs
 have := A_ k (au l0 (j : Int)) A cc G A1 c1 p v w W hb hx hp hc hl hr hv
 refine this.mono ?_
 rintro e w' ⟨rfl, sh⟩
 exact ⟨by simp only [hv, Option.getD_some], sh⟩
def dW.l0 : Nat → Int → Int → Option (Int)
 | 0, _, _ => none
 | k + 1, x0, x1 => if x1 = 0 then (some x0) else (dW.l0 k x1 (Int.tmod x0 x1))
def dW.f (k : Nat) (a0 : Int) (a1 : Int) : Option (Int) := dW.l0 k a0 a1
theorem dW.bG : ∀ k, (∀ y0 y1, bB (dW.l0 k y0 y1) (dW.l0 (k + 1) y0 y1))
 | 0 => fun _ _ r h => by simp [dW.l0] at h
 | k + 1 => by
  have eQ := dW.bG k
  ·intro y0 y1
   unfold dW.l0
   repeat' first
   | (with_reducible exact eQ ..)
   | (with_reducible exact bB.refl _)
   | (with_reducible exact bB.none _)
   | (with_reducible refine bB.ite ?_ ?_)
   | (with_reducible refine bB.bind ?_ (fun _ => ?_))
theorem dW.mono : ∀ a0 a1 k, bB (dW.f k a0 a1) (dW.f (k + 1) a0 a1) := by
 intro a0 a1 k
 have eQ := dW.bG k
 unfold dW.f
 repeat' first
   | (with_reducible exact eQ ..)
   | (with_reducible exact bB.refl _)
   | (with_reducible exact bB.none _)
   | (with_reducible refine bB.ite ?_ ?_)
   | (with_reducible refine bB.bind ?_ (fun _ => ?_))
theorem dW.calls (k : Nat) (a0 : Int) (a1 : Int) (r : Int) (w : World) (h : dW.f k a0 a1 = some r) :
  Calls Tryz.prog 151 #[.int .i64 a0, .int .i64 a1] w fun e w' => e = .returned (.int .i64 r) ∧ bM w w' := by
 have H : (dW.l0 k a0 a1) = some r := h
 clear h
 have H' := Aside0.mk H
 clear H
 go_enter Tryz.func151, Tryz.ntmps151
 go_wp2
 go_loopg [0, 1] k (fun kq v0 v1 w' => ∃ (Cq : Int) (o_ : Int), v0 = .int .i64 Cq ∧ v1 = .int .i64 o_ ∧ Aside0 (dW.l0 kq Cq o_ = some r) ∧ Aside0 (kq ≤ k) ∧ bM w w')
 case atStart => exact ⟨(a0), (a1), dM, dM, H', ⟨Nat.le_refl _⟩, by repeat (first | exact bM.refl _ | apply bM.step)⟩
 case round =>
  clear H'
  obtain ⟨Cq, o_, rfl, rfl, HA, dP, ⟨m1, rfl⟩⟩ := hrel
  cases gk with
  | zero => exact absurd HA.out (by simp [dW.l0])
  | succ k1 =>
   have H := HA.out
   clear HA
   simp only [dW.l0] at H
   by_cases c3 : o_ = 0
   ·rw [if_pos c3] at H
    have gX := il c3
    have qB := im c3
    clear c3
    obtain rfl := Option.some.inj H
    go_wp2
    go_ret
    exact ⟨mL, mM⟩
   rw [if_neg c3] at H
   have gX := iQ c3
   have qB := iR c3
   have H' := Aside0.mk H
   clear H
   go_wp2
   go_quiet (fail); try go_wp2
   go_roundg k1
   case measure => have := dP.out; omega
   case rel => exact ⟨(o_), (Int.tmod Cq o_), dM, dM, H', ⟨by have := dP.out; omega⟩, by repeat (first | exact bM.refl _ | apply bM.step)⟩
def a7.l0 : Nat → List Int → List Int → Int → Int → Option (Bool)
 | 0, _, _, _, _ => none
 | k + 1, x0, x1, oE, sb => if sb < oE then (if 0 ≤ sb then (if sb < (x0.length : Int) then (if sb < (x1.length : Int) then (if (rd x0 sb) = (rd x1 sb) then (a7.l0 k x0 x1 oE (wrap64 (sb + 1))) else (some false)) else (none)) else (none)) else (none)) else (some true)
def a7.f (k : Nat) (l0 : List Int) (l1 : List Int) : Option (Bool) := if (l0.length : Int) = (l1.length : Int) then (a7.l0 k l0 l1 (l0.length : Int) 0) else (some false)
theorem a7.bG : ∀ k, (∀ y0 y1 y2 y3, bB (a7.l0 k y0 y1 y2 y3) (a7.l0 (k + 1) y0 y1 y2 y3))
 | 0 => fun _ _ _ _ r h => by simp [a7.l0] at h
 | k + 1 => by
  have eQ := a7.bG k
  ·intro y0 y1 y2 y3
   unfold a7.l0
   repeat' first
   | (with_reducible exact eQ ..)
   | (with_reducible exact bB.refl _)
   | (with_reducible exact bB.none _)
   | (with_reducible refine bB.ite ?_ ?_)
   | (with_reducible refine bB.bind ?_ (fun _ => ?_))
theorem a7.mono : ∀ a0 a1 k, bB (a7.f k a0 a1) (a7.f (k + 1) a0 a1) := by
 intro a0 a1 k
 have eQ := a7.bG k
 unfold a7.f
 repeat' first
   | (with_reducible exact eQ ..)
   | (with_reducible exact bB.refl _)
   | (with_reducible exact bB.none _)
   | (with_reducible refine bB.ite ?_ ?_)
   | (with_reducible refine bB.bind ?_ (fun _ => ?_))
theorem a7.calls (k : Nat) (A0 : Option Addr) (c0 : Nat) (l0 : List Int) (A1 : Option Addr) (c1 : Nat) (l1 : List Int) (r : Bool) (w : World) (gD : Kd.C (Kd.int .i64) w A0 l0.length l0) (hJ : l0.length ≤ c0) (nn : Kd.C (Kd.int .i64) w A1 l1.length l1) (mN : l1.length ≤ c1) (h : a7.f k l0 l1 = some r) :
  Calls Tryz.prog 88 #[.slice A0 l0.length c0, .slice A1 l1.length c1] w fun e w' => e = .returned (.bool r) ∧ bM w w' := by
 have jt := Aside0.mk gD
 have wj := Aside0.mk hJ
 clear gD hJ
 have lz := Aside0.mk nn
 have Ag := Aside0.mk mN
 clear nn mN
 have H : (if (l0.length : Int) = (l1.length : Int) then (a7.l0 k l0 l1 (l0.length : Int) 0) else (some false)) = some r := h
 clear h
 by_cases c3 : (l0.length : Int) = (l1.length : Int)
 rotate_left
 ·rw [if_neg c3] at H
  have gX := iQ c3
  have qB := iR c3
  have IK : (l0.length == l1.length) = false := by first | simpa using c3 | (simp at c3 ⊢; omega)
  obtain rfl := Option.some.inj H
  go_enter Tryz.func88, Tryz.ntmps88
  go_wp2
  go_ret
  exact ⟨mL, mM⟩
 rw [if_pos c3] at H
 have gX := il c3
 have qB := im c3
 have IK : (l0.length == l1.length) = true := by first | simpa using c3 | (simp at c3 ⊢; omega)
 clear c3
 have H' := Aside0.mk H
 clear H
 go_enter Tryz.func88, Tryz.ntmps88
 go_wp2
 go_loopg [13] k (fun kq v13 w' => ∃ (fX : Int), v13 = .int .i64 fX ∧ Aside0 (a7.l0 kq l0 l1 (l0.length : Int) fX = some r) ∧ Aside0 (kq ≤ k) ∧ bM w w')
 case atStart => exact ⟨(0), dM, H', ⟨Nat.le_refl _⟩, by repeat (first | exact bM.refl _ | apply bM.step)⟩
 case round =>
  clear H'
  obtain ⟨fX, rfl, HA, dP, ⟨m1, rfl⟩⟩ := hrel
  cases gk with
  | zero => exact absurd HA.out (by simp [a7.l0])
  | succ k1 =>
   have H := HA.out
   clear HA
   simp only [a7.l0] at H
   by_cases c4 : fX < (l0.length : Int)
   rotate_left
   ·rw [if_neg c4] at H
    have iI := decide_eq_false c4
    clear c4
    obtain rfl := Option.some.inj H
    go_wp2
    go_ret
    exact ⟨mL, mM⟩
   rw [if_pos c4] at H
   have iI := decide_eq_true c4
   clear c4
   replace H := fW H; obtain ⟨jR, H⟩ := H
   replace H := fW H; obtain ⟨hU, H⟩ := H
   replace H := fW H; obtain ⟨lO, H⟩ := H
   by_cases c8 : (rd l0 fX) = (rd l1 fX)
   rotate_left
   ·rw [if_neg c8] at H
    have oz := iQ c8
    have Hy := iR c8
    obtain rfl := Option.some.inj H
    have Ji : 0 ≤ (fX : Int) := bX
    have Jj : fX < (l0.length : Int) := bX
    obtain ⟨amW, afq, XT⟩ := Kd.bi jt.out fX Ji Jj
    cases afq
    replace Ji := eq_true Ji
    replace Jj := eq_true Jj
    have Jk : 0 ≤ (fX : Int) := bX
    have Jl : fX < (l1.length : Int) := bX
    obtain ⟨amX, afr, XU⟩ := Kd.bi lz.out fX Jk Jl
    cases afr
    replace Jk := eq_true Jk
    replace Jl := eq_true Jl
    go_wp2
    go_quiet (fail); try go_wp2
    go_ret
    exact ⟨mL, mM⟩
   rw [if_pos c8] at H
   have oz := il c8
   have Hy := im c8
   clear c8
   have H' := Aside0.mk H
   clear H
   have Ji : 0 ≤ (fX : Int) := bX
   have Jj : fX < (l0.length : Int) := bX
   obtain ⟨amW, afq, XT⟩ := Kd.bi jt.out fX Ji Jj
   cases afq
   replace Ji := eq_true Ji
   replace Jj := eq_true Jj
   have Jk : 0 ≤ (fX : Int) := bX
   have Jl : fX < (l1.length : Int) := bX
   obtain ⟨amX, afr, XU⟩ := Kd.bi lz.out fX Jk Jl
   cases afr
   replace Jk := eq_true Jk
   replace Jl := eq_true Jl
   go_wp2
   go_quiet (fail); try go_wp2
   go_roundg k1
   case measure => have := dP.out; omega
   case rel => exact ⟨(wrap64 (fX + 1)), dM, H', ⟨by have := dP.out; omega⟩, by repeat (first | exact bM.refl _ | apply bM.step)⟩
mutual
def bA.l0 : Nat → Int → Int → List (List Int) → Int → Option ((List (List Int)))
 | 0, _, _, _, _ => none
 | k + 1, x0, x1, x7, x8 => if x8 < x0 then ((bA.f k x0 (wrap64 (x1 - 1)) (wrap64 (x8 + 1))).bind fun t244 => (bA.l1 k x0 x1 x7 x8 t244 (t244.length : Int) 0)) else (some x7)
def bA.l1 : Nat → Int → Int → List (List Int) → Int → List (List Int) → Int → Int → Option ((List (List Int)))
 | 0, _, _, _, _, _, _, _ => none
 | k + 1, x0, x1, x7, x8, tM, Z9, Ma => if Ma < Z9 then (if 0 ≤ Ma then (if Ma < (tM.length : Int) then ((some (([x8] : List Int) : List Int)).bind fun Gz => (if Gz.length + (aJ tM Ma).length < 17592186044416 then (if x7.length < 5864062014805 then (bA.l1 k x0 x1 (x7 ++ [(Gz ++ (aJ tM Ma))]) x8 tM Z9 (wrap64 (Ma + 1))) else (none)) else (none))) else (none)) else (none)) else (bA.l0 k x0 x1 x7 (wrap64 (x8 + 1)))
def bA.f : Nat → Int → Int → Int → Option ((List (List Int)))
 | 0, _, _, _ => none
 | k + 1, a0, a1, a2 => if a1 = 0 then (some (([(([] : List Int))] : List (List Int)))) else (bA.l0 k a0 a1 (([] : List (List Int))) a2)
end
theorem bA.bG : ∀ k, (∀ y0 y1 y2, bB (bA.f k y0 y1 y2) (bA.f (k + 1) y0 y1 y2)) ∧ (∀ y0 y1 y2 y3, bB (bA.l0 k y0 y1 y2 y3) (bA.l0 (k + 1) y0 y1 y2 y3)) ∧ (∀ y0 y1 y2 y3 y4 y5 y6, bB (bA.l1 k y0 y1 y2 y3 y4 y5 y6) (bA.l1 (k + 1) y0 y1 y2 y3 y4 y5 y6))
 | 0 => ⟨fun _ _ _ r h => by simp [bA.f] at h, fun _ _ _ _ r h => by simp [bA.l0] at h, fun _ _ _ _ _ _ _ r h => by simp [bA.l1] at h⟩
 | k + 1 => by
  obtain ⟨eQ, kP, sn⟩ := bA.bG k
  refine ⟨?_, ?_, ?_⟩ <;> intros <;> (first | unfold bA.f | unfold bA.l0 | unfold bA.l1)
  all_goals repeat' first
  | (with_reducible exact eQ ..)
  | (with_reducible exact kP ..)
  | (with_reducible exact sn ..)
  | (with_reducible exact bB.refl _)
  | (with_reducible exact bB.none _)
  | (with_reducible refine bB.ite ?_ ?_)
  | (with_reducible refine bB.bind ?_ (fun _ => ?_))
theorem bA.mono : ∀ a0 a1 a2 k, bB (bA.f k a0 a1 a2) (bA.f (k + 1) a0 a1 a2) := by
 intro a0 a1 a2 k
 obtain ⟨eQ, kP, sn⟩ := bA.bG k
 exact eQ a0 a1 a2
theorem bA.calls (k : Nat) : ∀ (a0 : Int) (a1 : Int) (a2 : Int) (r : List (List Int)) (w : World) (h : bA.f k a0 a1 a2 = some r),
  Calls Tryz.prog 128 #[.int .i64 a0, .int .i64 a1, .int .i64 a2] w fun e w' => ∃ iE : Value, e = .returned (iE) ∧ Kd.N (Kd.slice 3 (Kd.int .i64)) 40 w' w.heap.size (fun k_ => (w.heap.size ≤ k_)) iE r ∧ Below w.heap.size w w' := by
 induction k using Nat.strongRecOn with
 | _ k ih =>
 intro a0 a1 a2 r w h
 cases k with
 | zero => exact absurd h (by simp [bA.f])
 | succ k =>
 simp only [bA.f] at h
 have HB := Aside0.mk (Below.refl w.heap.size w)
 have H : (if a1 = 0 then (some (([(([] : List Int))] : List (List Int)))) else (bA.l0 k a0 a1 (([] : List (List Int))) a2)) = some r := h
 clear h
 by_cases c4 : a1 = 0
 ·rw [if_pos c4] at H
  have iI := il c4
  have N5 := im c4
  clear c4
  replace H := br (([] : List Int)) (fun Jm => (some (([Jm] : List (List Int)))) = some r) H; obtain ⟨Jm, Zr, H⟩ := H
  replace H := br (([Jm] : List (List Int))) (fun amY => (some amY) = some r) H; obtain ⟨amY, Zs, H⟩ := H
  obtain rfl := Option.some.inj H
  go_enter Tryz.func128, Tryz.ntmps128
  go_wp2_with (first | ((with_reducible refine ah (N := 13) rfl ?_); refine Kd.ov (Kd.int .i64) _ 3 ?hg (N := 13) ?hd (xs := ([] : List Int)) (inner := []) (ok := fun _ => True) (okp := fun _ => True) ?hr ?hp (fun _ hk => hk) trivial (Below.refl _ _) (Nat.le_refl _) (by simp) ?_; (case hd => rfl); (case hg => rfl); (case hr => first | (go_simp; done) | (go_simp; rfl)); (case hp => exact (cV.none _ _)); intro v236 w5 ho6 hb jn dB; clear jn dB; (first | rw [← Zr.out] at ho6 | (simp only [Int.reduceToNat] at ho6; rw [← Zr.out] at ho6)); have TK := am (Kd.cO (Kd.jQ (M := fun k_ => (w.heap.size ≤ k_)) ho6 (aC (mb HB.out)) (fun k_ h_ => h_)) (aC (mb HB.out))); replace HB := bS HB hb; clear hb ho6; obtain ⟨Ao7, co7, eo7⟩ := Kd.cH TK.out; subst eo7) | ((with_reducible refine ah (N := 14) rfl ?_); refine Kd.nK (Kd.slice 3 (Kd.int .i64)) _ 40 ?hg (N' := 14) ?hd (xs := ([Jm] : List (List Int))) (inner := [.slice Ao7 Jm.length co7]) (ok := (fun k_ => (w.heap.size ≤ k_))) (okp := (fun k_ => (w.heap.size ≤ k_))) ?hr ?hp (fun _ hk => hk) ((show ∀ k_, w5.heap.size ≤ k_ → (fun k_ => (w.heap.size ≤ k_)) k_ from fun k_ hk => (Nat.le_trans (aC (mb HB.out)) hk)) _ (Nat.le_refl _)) (Below.refl _ _) (Nat.le_refl _) (by simp) ?_; (case hd => rfl); (case hg => rfl); (case hr => first | (go_simp; done) | (go_simp; rfl)); (case hp => exact (cV.one (show Kd.FK (Kd.slice 3 (Kd.int .i64)) _ _ Jm [.slice Ao7 Jm.length co7] from (FKR (Kd.bD (ok' := (fun k_ => (w.heap.size ≤ k_))) (TK.out) (fun k_ hk => hk.1)))) (cV.none _ _))); intro v239 w8 Ez hb jn dB; clear jn dB; (first | rw [← Zs.out] at Ez | (simp only [Int.reduceToNat] at Ez; rw [← Zs.out] at Ez)); have amZ := am (Kd.fT Ez (aC (mb HB.out))); replace HB := bS HB hb; clear TK; clear hb Ez))
  go_ret
  exact ⟨_, jC, dX amZ.out, mb HB.out⟩
 rw [if_neg c4] at H
 have iI := iQ c4
 have N5 := iR c4
 replace H := br (([] : List (List Int))) (fun afs => (bA.l0 k a0 a1 afs a2) = some r) H; obtain ⟨afs, Zt, H⟩ := H
 have H' := Aside0.mk H
 clear H
 go_enter Tryz.func128, Tryz.ntmps128
 go_wp2_with (first | ((with_reducible refine ah (N := 15) rfl ?_); refine Kd.nK (Kd.slice 3 (Kd.int .i64)) _ 40 ?hg (N' := 15) ?hd (xs := ([] : List (List Int))) (inner := []) (ok := (fun k_ => (w.heap.size ≤ k_))) (okp := (fun k_ => (w.heap.size ≤ k_))) ?hr ?hp (fun _ hk => hk) ((show ∀ k_, w.heap.size ≤ k_ → (fun k_ => (w.heap.size ≤ k_)) k_ from fun k_ hk => (Nat.le_trans (aC (mb HB.out)) hk)) _ (Nat.le_refl _)) (Below.refl _ _) (Nat.le_refl _) (by simp) ?_; (case hd => rfl); (case hg => rfl); (case hr => first | (go_simp; done) | (go_simp; rfl)); (case hp => exact (cV.none _ _)); intro v242 BZ TL hb jn dB; clear jn dB; (first | rw [← Zt.out] at TL | (simp only [Int.reduceToNat] at TL; rw [← Zt.out] at TL)); have am0 := am (Kd.fT TL (aC (mb HB.out))); replace HB := bS HB hb; clear hb TL))
 go_loopg [7, 8] k (fun kq v7 v8 w' => ∃ (XV : List (List Int)) (cK : Int), v8 = .int .i64 cK ∧ Aside0 (bA.l0 kq a0 a1 XV cK = some r) ∧ Aside0 (kq ≤ k) ∧ Aside0 (Kd.N (Kd.slice 3 (Kd.int .i64)) 40 w' w.heap.size (fun k_ => (w.heap.size ≤ k_)) v7 XV) ∧ Aside0 (Below w.heap.size w w'))
 case atStart => exact ⟨(afs), (a2), dM, H', ⟨Nat.le_refl _⟩, ⟨dX am0.out⟩, ⟨mb HB.out⟩⟩
 case round =>
  clear H'
  obtain ⟨XV, cK, rfl, HA, dP, cf, HB⟩ := hrel
  cases gk with
  | zero => exact absurd HA.out (by simp [bA.l0])
  | succ k1 =>
   have H := HA.out
   clear HA
   simp only [bA.l0] at H
   by_cases uF : cK < a0
   rotate_left
   ·rw [if_neg uF] at H
    have uG := decide_eq_false uF
    clear uF
    obtain rfl := Option.some.inj H
    go_wp2
    go_ret
    exact ⟨_, jC, dX cf.out, mb HB.out⟩
   rw [if_pos uF] at H
   have uG := decide_eq_true uF
   clear uF
   replace H := bZ H; obtain ⟨t244, U3, H⟩ := H
   have H' := Aside0.mk H
   clear H
   go_wp2_with (first | ((with_reducible refine gC 128 rfl ?_); refine gL 27 Tryz.func128 #[.int .i64 a0, .int .i64 (wrap64 (a1 - 1)), .int .i64 (wrap64 (cK + 1))] ?_; (with_reducible refine (ih k1 (by have := dP.out; omega) a0 (wrap64 (a1 - 1)) (wrap64 (cK + 1)) t244 _ U3.out).mono ?_); rintro e w14 ⟨v245, rfl, cC, hb⟩; refine ⟨_, rfl, ?_⟩; have Zu := am (Kd.fT (Kd.bK (ok' := fun k_ => (w.heap.size ≤ k_) ∧ some k_ ≠ (u7 : Value).ownBlock) cC (fun k_ gH => ⟨(Nat.le_trans (aC (mb HB.out)) gH), (Kd.dz (Kd.rH (dX cf.out)) k_ gH)⟩)) (aC (mb HB.out))); replace cf := am (Kd.cw (dX cf.out) (Kd.gv cC) hb); replace HB := bS HB hb; (try clear hb cC); obtain ⟨Nq, qU, Fa⟩ := Kd.da Zu.out; subst Fa))
   go_loopg [7, 29] k1 (fun kq v7 v29 w' => ∃ (fb : List (List Int)) (mJ : Int), v29 = .int .i64 mJ ∧ Aside0 (bA.l1 kq a0 a1 fb cK t244 (t244.length : Int) mJ = some r) ∧ Aside0 (kq ≤ k1) ∧ Aside0 (Kd.N (Kd.slice 3 (Kd.int .i64)) 40 w' w.heap.size (fun k_ => (w.heap.size ≤ k_) ∧ some k_ ≠ ((.slice Nq t244.length qU) : Value).ownBlock) v7 fb) ∧ Aside0 (Kd.N (Kd.slice 3 (Kd.int .i64)) 40 w' w.heap.size (fun k_ => (w.heap.size ≤ k_) ∧ some k_ ≠ (v7 : Value).ownBlock) (.slice Nq t244.length qU) t244) ∧ Aside0 (Below w.heap.size w w'))
   case atStart => exact ⟨(XV), (0), dM, H', ⟨Nat.le_refl _⟩, ⟨dX cf.out⟩, ⟨dX Zu.out⟩, ⟨mb HB.out⟩⟩
   case round =>
    clear H'
    obtain ⟨fb, mJ, rfl, HA, ft, cf, rA, HB⟩ := hrel
    cases gk with
    | zero => exact absurd HA.out (by simp [bA.l1])
    | succ k2 =>
     have H := HA.out
     clear HA
     simp only [bA.l1] at H
     by_cases FE : mJ < (t244.length : Int)
     rotate_left
     ·rw [if_neg FE] at H
      have we := decide_eq_false FE
      clear FE
      have H' := Aside0.mk H
      clear H
      go_wp2
      go_roundg k2
      case measure => have := dP.out; have := ft.out; omega
      case rel => exact ⟨(fb), (wrap64 (cK + 1)), dM, H', ⟨by have := dP.out; have := ft.out; omega⟩, ⟨Kd.bK (dX cf.out) (fun _ hk => hk.1)⟩, ⟨mb HB.out⟩⟩
     rw [if_pos FE] at H
     have we := decide_eq_true FE
     clear FE
     replace H := fW H; obtain ⟨yv, H⟩ := H
     replace H := fW H; obtain ⟨BX, H⟩ := H
     replace H := br (([cK] : List Int)) (fun Gz => (if Gz.length + (aJ t244 mJ).length < 17592186044416 then (if fb.length < 5864062014805 then (bA.l1 k2 a0 a1 (fb ++ [(Gz ++ (aJ t244 mJ))]) cK t244 (t244.length : Int) (wrap64 (mJ + 1))) else (none)) else (none)) = some r) H; obtain ⟨Gz, Zv, H⟩ := H
     replace H := np H; obtain ⟨yw, H⟩ := H
     replace H := br (Gz ++ (aJ t244 mJ)) (fun Jn => (if fb.length < 5864062014805 then (bA.l1 k2 a0 a1 (fb ++ [Jn]) cK t244 (t244.length : Int) (wrap64 (mJ + 1))) else (none)) = some r) H; obtain ⟨Jn, am1, H⟩ := H
     replace H := np H; obtain ⟨am2, H⟩ := H
     replace H := br (fb ++ [Jn]) (fun aft => (bA.l1 k2 a0 a1 aft cK t244 (t244.length : Int) (wrap64 (mJ + 1))) = some r) H; obtain ⟨aft, am3, H⟩ := H
     have H' := Aside0.mk H
     clear H
     have XW : 0 ≤ (mJ : Int) := bX
     have XX : mJ < (t244.length : Int) := bX
     obtain ⟨CR, as1, as2, as3, XY, Ml, Mm⟩ := eO (Kd.cZ rA.out).2.2 mJ XW XX
     cases as3
     obtain ⟨avp, afu, afv, TM⟩ := Kd.KI rA.out [] mJ XW (by first | exact XX | exact bX | (have e_ := (Kd.cZ rA.out).1; omega))
     obtain ⟨apq, apr, rfl, EL, EM⟩ := Kd.dG afv
     have yf := TM 0 _ rfl
     rw [Nat.add_zero, show ((Kd.slice 3 (Kd.int .i64))).sz = 1 from rfl, Nat.mul_one] at yf
     replace yf := Option.some.inj (yf.symm.trans XY)
     injection yf with fN iW fO
     rw [fN] at EM
     rw [fO] at EL
     have sQ := Aside0.mk (show Kd.V (Kd.int .i64) 3 _ w.heap.size _ _ (aJ t244 mJ) from Kd.jo EL EM)
     clear fN iW fO EM EL
     clear TM afu
     have EN := Aside0.mk Mm
     have aps := Aside0.mk Ml
     clear Mm Ml
     replace XW := eq_true XW
     replace XX := eq_true XX
     go_wp2_with (first | ((with_reducible refine ah (N := 35) rfl ?_); refine Kd.ov (Kd.int .i64) _ 3 ?hg (N := 35) ?hd (xs := ([cK] : List Int)) (inner := [.int .i64 cK]) (ok := fun _ => True) (okp := fun _ => True) ?hr ?hp (fun _ hk => hk) trivial (Below.refl _ _) (Nat.le_refl _) (by simp) ?_; (case hd => rfl); (case hg => rfl); (case hr => first | (go_simp; done) | (go_simp; rfl)); (case hp => exact (cV.one (show Kd.M (Kd.int .i64) _ _ _ cK [.int .i64 cK] from rfl) (cV.none _ _))); intro v249 Ty HD hb jn dB; clear jn dB; (first | rw [← Zv.out] at HD | (simp only [Int.reduceToNat] at HD; rw [← Zv.out] at HD)); replace cf := am (Kd.cw (dX cf.out) (Kd.bf HD) hb); replace rA := am (Kd.cw (dX rA.out) (Kd.bf HD) hb); replace sQ := am (Kd.cY (c_ sQ.out) (Kd.bf HD) hb); have Zw := am (Kd.cO (Kd.jQ (M := fun k_ => (w.heap.size ≤ k_)) HD (aC (mb HB.out)) (fun k_ h_ => h_)) (aC (mb HB.out))); replace EN := am (Kd.bh (fy EN.out) hb); replace HB := bS HB hb; clear hb HD) | ((with_reducible refine bC (b := .append) (xs := #[.tmp 35, .tmp 36]) rfl ?_); at_builtin; refine Kd.gO (Kd.int .i64) (w0 := w) w.heap.size rfl (.tmp 35) (.tmp 36) 40 3 (.int .i64 0) 8 rfl Tryz.underlying40 eT rfl (by decide) (by omega) v249 Gz (aJ t244 mJ) _ _ _ (fun k_ => (w.heap.size ≤ k_)) (fun _ => False) rfl rfl ?aO ?aR (fun _ _ h => h) (fun _ h => h.elim) ?aF ?aB ?aS ?aL ?_; (case aR => exact fy EN.out); (case aB => exact (mb HB.out)); (case aF => exact (fun k_ hk => (Nat.le_trans (aC (mb HB.out)) hk))); (case aO => exact (Kd.bD (ci Zw.out) (fun _ hk => hk.1))); (case aS => exact (aC (mb HB.out))); (case aL => have := yw.out; omega); intro v252 T7 ho hb hg bk; rw [← am1.out] at ho; replace cf := am (Kd.dJ (ok := (fun k_ => (w.heap.size ≤ k_) ∧ some k_ ≠ (.slice (some CR) t244.length qU : Value).ownBlock)) (dX cf.out) hg bk); replace rA := am (Kd.dJ (ok := (fun k_ => (w.heap.size ≤ k_) ∧ some k_ ≠ (u7 : Value).ownBlock)) (dX rA.out) hg bk); replace sQ := am (Kd.bH (ok := (fun k_ => (w.heap.size ≤ k_) ∧ some k_ ≠ (u7 : Value).ownBlock ∧ some k_ ≠ (.slice (some CR) t244.length qU : Value).ownBlock)) (Kd.af (c_ sQ.out) (fun _ hk => ⟨⟨hk.1.1.1, ⟨hk.1.1.2, hk.1.2⟩⟩, hk.2⟩)) hg bk); replace HB := am (hb); have CQ := am (ho); clear Zw; clear ho hb hg bk; obtain ⟨afw, afx, as4⟩ := Kd.cH CQ.out; subst as4) | ((with_reducible refine bC (b := .append) (xs := #[.tmp 33, .tmp 38]) rfl ?_); at_builtin; refine Kd.iX (Kd.slice 3 (Kd.int .i64)) (w0 := w) w.heap.size rfl (.tmp 33) (.tmp 38) 22 40 (.slice none 0 0) 24 rfl Tryz.underlying22 gM rfl (by decide) (by omega) u7 fb Jn [.slice afw Jn.length afx] (fun k_ => (w.heap.size ≤ k_) ∧ some k_ ≠ (.slice (some CR) t244.length qU : Value).ownBlock) (fun k_ => ((fun k_ => (w.heap.size ≤ k_) ∧ some k_ ≠ (.slice (some CR) t244.length qU : Value).ownBlock)) k_ ∧ some k_ ≠ (u7 : Value).ownBlock) rfl rfl ?aP (fun _ hk => hk) ?aF ?aO ?aB ?aS ?aL ?_; (case aP => exact (FKR (Kd.bD (ok' := (fun k_ => ((fun k_ => (w.heap.size ≤ k_) ∧ some k_ ≠ (.slice (some CR) t244.length qU : Value).ownBlock)) k_ ∧ some k_ ≠ (u7 : Value).ownBlock)) (Kd.cX (Kd.cX (CQ.out) (Kd.dy rA.out) (by decide)) (Kd.dy cf.out) (by decide)) (fun k_ hk => ⟨⟨hk.1.1, hk.1.2⟩, hk.2⟩)))); (case aB => exact (mb HB.out)); (case aF => exact (fun k_ hk => ⟨(Nat.le_trans (aC (mb HB.out)) hk), Kd.dz (Kd.rH (dX rA.out)) k_ hk⟩)); (case aO => exact (Kd.bK (dX cf.out) (fun _ hk => ⟨hk.1.1, hk.1.2⟩))); (case aS => exact (aC (mb HB.out))); (case aL => have := am2.out; omega); intro v255 Pb ho hb hg bk; rw [← am3.out] at ho; replace rA := am (Kd.dJ (ok := (fun k_ => (w.heap.size ≤ k_) ∧ some k_ ≠ (.slice afw Jn.length afx : Value).ownBlock)) (Kd.bK (dX rA.out) (fun _ hk => ⟨⟨hk.1.1, hk.2⟩, hk.1.2⟩)) hg bk); replace sQ := am (Kd.bH (ok := (fun k_ => (w.heap.size ≤ k_) ∧ some k_ ≠ (.slice (some CR) t244.length qU : Value).ownBlock ∧ some k_ ≠ (.slice afw Jn.length afx : Value).ownBlock)) (Kd.af (c_ sQ.out) (fun _ hk => ⟨⟨hk.1.1, ⟨hk.1.2.2, hk.2⟩⟩, hk.1.2.1⟩)) hg bk); replace HB := am (hb); have Sn := am (ho); clear cf; clear CQ; clear ho hb hg bk))
     go_roundg k2
     case measure => have := dP.out; have := ft.out; omega
     case rel => exact ⟨(aft), (wrap64 (mJ + 1)), dM, H', ⟨by have := dP.out; have := ft.out; omega⟩, ⟨dX Sn.out⟩, ⟨Kd.bK (dX rA.out) (fun _ hk => ⟨hk.1.1, hk.2⟩)⟩, ⟨mb HB.out⟩⟩
def afy : Go.Shelf.Ren := ⟨fun | 45 => 178 | n => n, fun | 0 => 0 | 3 => 3 | 4 => 4 | 22 => 40 | 23 => 3 | n => n, fun | n => n⟩
theorem afz : SlLaysE.n45 Tryz.prog afy := {
 mixed := by kernel_rfl
 f45 := ⟨Tryz.f178.name, by decide, Tryz.func178.trans (congrArg some (by kernel_rfl))⟩
 t0 := Tryz.underlying0
 a0 := Tryz.isAgg0
 z0 := Tryz.sizeOf0
 v0 := Tryz.zeroValue0
 t3 := Tryz.underlying3
 a3 := Tryz.isAgg3
 z3 := Tryz.sizeOf3
 v3 := Tryz.zeroValue3
 t4 := Tryz.underlying4
 a4 := Tryz.isAgg4
 z4 := Tryz.sizeOf4
 v4 := Tryz.zeroValue4
 t22 := Tryz.underlying40
 a22 := Tryz.isAgg40
 z22 := Tryz.sizeOf40
 v22 := Tryz.zeroValue40
 a23 := Tryz.isAgg3
 z23 := Tryz.sizeOf3 }
open Go.Sort in
theorem TN {w : World} {base gb cap q : Nat} {e : TypeId} {cur : Array Value} {n : Nat} (fl : List Int) (m : Nat) (cP : base ≤ gb) (hb : w.heap[gb]? = some (.cells cur e (0, 0))) (h1 : n ≤ cap) (h2 : cap ≤ maxLen) (h3 : cur.size = cap * 1) (hn : fl.length + m = n) :
  (putRow (Value.int .i64) (Sort.ahead w q) gb 0 (fl ++ List.replicate m 0).toArray).ownsRow base e 1 (.slice (some ⟨gb, 0, none⟩) fl.length cap) fl.length (ma (Value.int .i64) fl) := by
 have hl : (fl ++ List.replicate m (0 : Int)).length = n := by simp [hn]
 refine ⟨by simp [ma], .inr ⟨gb, cap, putCells (Value.int .i64) 0 (fl ++ List.replicate m 0).toArray cur, rfl, cP, ?_, by omega, h2, by simp [putCells, h3], ?_⟩⟩
 ·have := heap_sortedI (n := q) (os := #[]) (fl ++ List.replicate m (0 : Int)).toArray hb
  rwa [grow_empty] at this
 ·have h4 := take_putCellsI cur (fl ++ List.replicate m (0 : Int)) (by rw [hl]; omega)
  have h5 := congrArg (List.take fl.length) h4
  rw [List.take_take, Nat.min_eq_left (by simp)] at h5
  rw [Nat.mul_one, h5, List.map_append, List.take_left' (by simp)]
  rfl
open Go.Sort in
theorem Om {w0 w : World} {base gb q : Nat} (d : Array Int) (hB : Below base w0 w) (UQ : base ≤ w.heap.size) (cP : base ≤ gb) : Below base w0 (putRow (Value.int .i64) (Sort.ahead w q) gb 0 d) := by
 have := grownBy_sortedI (w := w) (g := gb) (n := q) (os := #[]) d
 rw [grow_empty] at this
 exact hB.grown this UQ (fun k hk => by cases hk; exact cP)
def eS.f (l0 : List Int) (a1 : Int) (a2 : Int) : Option (List Int) := if 0 ≤ a1 ∧ a1 < a2 ∧ a2 ≤ (l0.length : Int) then some (l0.take a1.toNat ++ l0.drop a2.toNat) else none
set_option maxHeartbeats 4000000 in
open Go.Sort in
theorem eS.calls (cT : Nat → Prop) (tO : Value) (l0 : List Int) (a1 : Int) (a2 : Int) (r : List Int) (w0 w : World) (hB : Below w0.heap.size w0 w) (cC : Kd.R (Kd.int .i64) 3 w w0.heap.size cT tO l0) (h : eS.f l0 a1 a2 = some r) :
  Calls Tryz.prog 178 #[tO, .int .i64 a1, .int .i64 a2] w fun e w' => ∃ iE : Value, e = .returned (iE) ∧ Kd.R (Kd.int .i64) 3 w' w0.heap.size (fun k_ => (cT k_ ∨ w.heap.size ≤ k_)) iE r ∧ Below w0.heap.size w0 w' ∧ Kept w w' (fun k_ => cT k_) := by
 unfold eS.f at h
 by_cases hc : 0 ≤ a1 ∧ a1 < a2 ∧ a2 ≤ (l0.length : Int)
 rotate_left
 ·rw [if_neg hc] at h
  cases h
 rw [if_pos hc] at h
 obtain rfl := Option.some.inj h
 obtain ⟨h0, h1, h2⟩ := hc
 obtain ⟨i, rfl⟩ : ∃ i : Nat, (i : Int) = a1 := ⟨a1.toNat, by omega⟩
 obtain ⟨j, rfl⟩ : ∃ j : Nat, (j : Int) = a2 := ⟨a2.toNat, by omega⟩
 have ik := Kd.tj cC
 rcases ik.2 with ⟨rfl, hn⟩ | ⟨gb, cap, cur, rfl, cP, lT, k1, k2, k3, k4⟩
 ·omega
 ·have hH : Go.Sort.Holds (Value.int .i64) w gb 0 l0.toArray := holds_of_blockI lT (by rw [Nat.mul_one] at k4; rw [k4]; rfl)
  obtain ⟨i0, hi0, hz⟩ := Option.map_eq_some_iff.mp eT
  simp only [Prod.mk.injEq] at hz
  have lP := AnyE.slices_Delete afz (Value.int .i64) (fun _ => rfl) 0 Tryz.zeroValue3 i0 hi0 hz.2.1 gb 0 cap i j l0.toArray w hH (by simpa using k1) (by unfold maxLen at k2; omega) (by omega) (by simp only [List.size_toArray]; omega)
  change Calls Tryz.prog 178 _ _ _ at lP
  simp only [List.size_toArray] at lP
  refine lP.mono ?_
  rintro e w' ⟨rfl, q, rfl⟩
  have hl : (l0.take i ++ l0.drop j).length = l0.length - (j - i) := by simp; omega
  have hP : cT gb := cC.1 gb rfl
  have UQ : w0.heap.size ≤ w.heap.size := hB.size
  simp only [Int.toNat_natCast]
  refine ⟨_, rfl, ?_, Om _ hB UQ cP, ?_⟩
  ·rw [← hl]
   exact Kd.yq (TN (l0.take i ++ l0.drop j) (j - i) cP lT k1 k2 k3 (by rw [hl]; omega)) (fun k hk => .inl (cC.1 k hk))
  ·have hg := grownBy_sortedI (w := w) (g := gb) (n := q) (os := #[]) (l0.take i ++ l0.drop j ++ List.replicate (j - i) (0 : Int)).toArray
   rw [grow_empty] at hg
   exact Kept.nU hg (Kept.refl w _) (fun k hk => .inl (by cases hk; exact hP))
mutual
def bJ.l0 : Nat → List (List Int) → Int → Int → Int → Int → Option (Int)
 | 0, _, _, _, _, _ => none
 | k + 1, x0, x3, x4, tc, xe => if xe < tc then (if 1 ≤ (x0.length : Int) then ((some (x0.drop 1 : List (List Int))).bind fun nz => (bJ.l1 k x0 x3 x4 xe (([] : List (List Int))) tc xe nz (nz.length : Int) 0)) else (none)) else (some x3)
def bJ.l1 : Nat → List (List Int) → Int → Int → Int → List (List Int) → Int → Int → List (List Int) → Int → Int → Option (Int)
 | 0, _, _, _, _, _, _, _, _, _, _ => none
 | k + 1, x0, x3, x4, x5, x6, tc, xe, Tq, o8, Bh => if Bh < o8 then (if 0 ≤ Bh then (if Bh < (Tq.length : Int) then ((dA.f (aJ Tq Bh)).bind fun Jo => ((eS.f Jo x5 (wrap64 (x5 + 1))).bind fun Jp => (if x6.length < 5864062014805 then (bJ.l1 k x0 x3 x4 x5 (x6 ++ [Jp]) tc xe Tq o8 (wrap64 (Bh + 1))) else (none)))) else (none)) else (none)) else (if 0 < (x0.length : Int) then (if 0 ≤ x5 then (if x5 < ((aJ x0 0).length : Int) then ((bJ.f k x6).bind fun XZ => (bJ.l0 k x0 (wrap64 (x3 + (wrap64 ((wrap64 (x4 * (rd (aJ x0 0) x5))) * XZ)))) (wrap64 (-x4)) tc (wrap64 (xe + 1)))) else (none)) else (none)) else (none))
def bJ.f : Nat → List (List Int) → Option (Int)
 | 0, _ => none
 | k + 1, l0 => if (l0.length : Int) = 1 then (if 0 < (l0.length : Int) then (if 0 < ((aJ l0 0).length : Int) then (some (rd (aJ l0 0) 0)) else (none)) else (none)) else (bJ.l0 k l0 0 1 (l0.length : Int) 0)
end
theorem bJ.bG : ∀ k, (∀ y0, bB (bJ.f k y0) (bJ.f (k + 1) y0)) ∧ (∀ y0 y1 y2 y3 y4, bB (bJ.l0 k y0 y1 y2 y3 y4) (bJ.l0 (k + 1) y0 y1 y2 y3 y4)) ∧ (∀ y0 y1 y2 y3 y4 y5 y6 y7 y8 y9, bB (bJ.l1 k y0 y1 y2 y3 y4 y5 y6 y7 y8 y9) (bJ.l1 (k + 1) y0 y1 y2 y3 y4 y5 y6 y7 y8 y9))
 | 0 => ⟨fun _ r h => by simp [bJ.f] at h, fun _ _ _ _ _ r h => by simp [bJ.l0] at h, fun _ _ _ _ _ _ _ _ _ _ r h => by simp [bJ.l1] at h⟩
 | k + 1 => by
  obtain ⟨eQ, kP, sn⟩ := bJ.bG k
  refine ⟨?_, ?_, ?_⟩ <;> intros <;> (first | unfold bJ.f | unfold bJ.l0 | unfold bJ.l1)
  all_goals repeat' first
  | (with_reducible exact eQ ..)
  | (with_reducible exact kP ..)
  | (with_reducible exact sn ..)
  | (with_reducible exact bB.refl _)
  | (with_reducible exact bB.none _)
  | (with_reducible refine bB.ite ?_ ?_)
  | (with_reducible refine bB.bind ?_ (fun _ => ?_))
theorem bJ.mono : ∀ a0 k, bB (bJ.f k a0) (bJ.f (k + 1) a0) := by
 intro a0 k
 obtain ⟨eQ, kP, sn⟩ := bJ.bG k
 exact eQ a0
def bJ.T13 : Bool × List (List Nat × List Nat) := (true, [([], []), ([], []), ([], []), ([2], [2]), ([3], [3]), ([], []), ([4, 5], [4, 5]), ([6], [6]), ([1, 7], [1, 7]), ([], []), ([9], [9]), ([8, 10], [8, 10]), ([0, 11], [0, 11]), ([12, 10, 0, 1, 2, 3, 4, 5, 6, 7, 8, 9, 10, 11, 12], [0, 12])])
def bJ.B13 : List Nat := [0, 0, 0, 4, 12, 0, 60, 124, 254, 0, 512, 2046, 4095, 8191]
theorem bJ.am4 : fh .any (opsOf Tryz.f158 13) = bJ.T13 := by kernel_rfl
theorem bJ.afA : fG bJ.T13.2 bJ.B13 = true := by kernel_rfl
theorem bJ.calls (k : Nat) : ∀ (A0 : Option Addr) (c0 : Nat) (l0 : List (List Int)) (r : Int) (w : World) (gD : Kd.C (Kd.slice 3 (Kd.int .i64)) w A0 l0.length l0) (hJ : l0.length ≤ c0) (h : bJ.f k l0 = some r),
  Calls Tryz.prog 158 #[.slice A0 l0.length c0] w fun e w' => e = .returned (.int .i64 r) ∧ Below w.heap.size w w' := by
 induction k using Nat.strongRecOn with
 | _ k ih =>
 intro A0 c0 l0 r w gD hJ h
 cases k with
 | zero => exact absurd h (by simp [bJ.f])
 | succ k =>
 simp only [bJ.f] at h
 have jt := Aside0.mk gD
 have wj := Aside0.mk hJ
 clear gD hJ
 have HB := Aside0.mk (Below.refl w.heap.size w)
 have H : (if (l0.length : Int) = 1 then (if 0 < (l0.length : Int) then (if 0 < ((aJ l0 0).length : Int) then (some (rd (aJ l0 0) 0)) else (none)) else (none)) else (bJ.l0 k l0 0 1 (l0.length : Int) 0)) = some r := h
 clear h
 by_cases c2 : (l0.length : Int) = 1
 ·rw [if_pos c2] at H
  have uE := il c2
  have FD := im c2
  clear c2
  replace H := oo H; obtain ⟨c3, H⟩ := H
  have gX := decide_eq_true c3
  have qB : decide (0 < l0.length) = true := decide_eq_true (by omega)
  clear c3
  replace H := oo H; obtain ⟨c4, H⟩ := H
  have iI := decide_eq_true c4
  have N5 : decide (0 < (aJ l0 0).length) = true := decide_eq_true (by omega)
  clear c4
  obtain rfl := Option.some.inj H
  have afB : 0 ≤ (0 : Int) := (by omega)
  have afC : 0 < (l0.length : Int) := bX
  obtain ⟨avq, as5, as6, as7, Mn, Mo, Mp⟩ := eO jt.out 0 afB afC
  cases as7
  have avr : (0 < l0.length) = True := eq_true (by omega)
  (try rw [show ((0 : Int)).toNat = 0 from rfl] at Mn)
  (try rw [Addr.add_zero'] at Mn)
  have X0 := Aside0.mk Mp
  have apt := Aside0.mk Mo
  clear Mp Mo
  replace afB := eq_true afB
  replace afC := eq_true afC
  have afD : 0 ≤ (0 : Int) := (by omega)
  have afE : 0 < ((aJ l0 0).length : Int) := bX
  obtain ⟨avs, as8, Mq⟩ := Kd.bi X0.out 0 afD afE
  cases as8
  have avt : (0 < (aJ l0 0).length) = True := eq_true (by omega)
  (try rw [show ((0 : Int)).toNat = 0 from rfl] at Mq)
  (try rw [Addr.add_zero'] at Mq)
  replace afD := eq_true afD
  replace afE := eq_true afE
  go_enter Tryz.func158, Tryz.ntmps158
  go_wp2
  go_ret
  exact ⟨jC, mb HB.out⟩
 rw [if_neg c2] at H
 have uE := iQ c2
 have FD := iR c2
 have H' := Aside0.mk H
 clear H
 go_enter Tryz.func158, Tryz.ntmps158
 go_wp2
 go_loopg [3, 4, 19] k (fun kq v3 v4 v19 w' => ∃ (bg : Int) (dT : Int) (jk : Int), v3 = .int .i64 bg ∧ v4 = .int .i64 dT ∧ v19 = .int .i64 jk ∧ Aside0 (bJ.l0 kq l0 bg dT (l0.length : Int) jk = some r) ∧ Aside0 (kq ≤ k) ∧ Aside0 (Below w.heap.size w w'))
 case atStart => exact ⟨(0), (1), (0), dM, dM, dM, H', ⟨Nat.le_refl _⟩, ⟨mb HB.out⟩⟩
 case round =>
  clear H'
  obtain ⟨bg, dT, jk, rfl, rfl, rfl, HA, dP, HB⟩ := hrel
  cases gk with
  | zero => exact absurd HA.out (by simp [bJ.l0])
  | succ k1 =>
   have H := HA.out
   clear HA
   simp only [bJ.l0] at H
   by_cases c5 : jk < (l0.length : Int)
   rotate_left
   ·rw [if_neg c5] at H
    have jR := decide_eq_false c5
    clear c5
    obtain rfl := Option.some.inj H
    go_wp2
    go_ret
    exact ⟨jC, mb HB.out⟩
   rw [if_pos c5] at H
   have jR := decide_eq_true c5
   clear c5
   replace H := br (([] : List (List Int))) (fun X1 => (if 1 ≤ (l0.length : Int) then ((some (l0.drop 1 : List (List Int))).bind fun nz => (bJ.l1 k1 l0 bg dT jk X1 (l0.length : Int) jk nz (nz.length : Int) 0)) else (none)) = some r) H; obtain ⟨X1, Zx, H⟩ := H
   replace H := oo H; obtain ⟨c6, H⟩ := H
   have hU := eq_true c6
   have vt := decide_eq_true c6
   clear c6
   replace H := br (l0.drop 1) (fun nz => (bJ.l1 k1 l0 bg dT jk X1 (l0.length : Int) jk nz (nz.length : Int) 0) = some r) H; obtain ⟨nz, Zy, H⟩ := H
   have H' := Aside0.mk H
   clear H
   go_wp2_with (first | ((with_reducible refine ah (N := 22) rfl ?_); refine Kd.Xq (Kd.slice 3 (Kd.int .i64)) _ 40 ?hg (N := 22) ?hd (xs := ([] : List (List Int))) (inner := []) (ok := fun _ => True) (okp := fun _ => True) ?hr ?hp (fun _ hk => hk) trivial (Below.refl _ _) (Nat.le_refl _) (by simp) ?_; (case hd => rfl); (case hg => rfl); (case hr => first | (go_simp; done) | (go_simp; rfl)); (case hp => exact (cV.none _ _)); intro v260 w7 ho8 hb jn dB; clear jn dB; (first | rw [← Zx.out] at ho8 | (simp only [Int.reduceToNat] at ho8; rw [← Zx.out] at ho8)); have am5 := am (Kd.gI ho8 (aC (mb HB.out))); replace HB := bS HB hb; clear hb ho8; have q9 : (1 : Int) ≤ ((l0.length : Int) : Int) := bX; obtain ⟨i09, am6, _, am7, _⟩ := info_parts gM; have Jq : l0.length ≤ c0 := wj.out; have hC9 : Kd.C (Kd.slice 3 (Kd.int .i64)) _ A0 l0.length l0 := jt.out; have am8 := ow (P := Tryz.prog) 22 40 .i64 Tryz.underlying22 am6 1 am7 A0 l0.length c0 1 (by omega) q9; have hr9 := Kd.tD (m := (1 : Int).toNat) (c := c0) hC9 (by omega) Jq; obtain ⟨A9, hA9⟩ : ∃ A1, A1 = (if c0 = (1 : Int).toNat then A0 else (A0 : Option Addr).map (·.add ((1 : Int).toNat * 1))) := ⟨_, rfl⟩; obtain ⟨c9, hc9⟩ : ∃ c1, c1 = c0 - (1 : Int).toNat := ⟨_, rfl⟩; have hy9 : nz.length = l0.length - (1 : Int).toNat := (by rw [Zy.out, List.length_drop] <;> omega); rw [show (l0).drop (1 : Int).toNat = nz from Zy.out.symm] at hr9; replace hr9 : Kd.C (Kd.slice 3 (Kd.int .i64)) _ A9 nz.length nz := (by rw [hA9]; exact hr9); rw [← hy9, ← hA9, ← hc9] at am8; have am9 := Aside0.mk hr9; have avu := Aside0.mk (show nz.length ≤ c9 from by rw [hy9, hc9]; exact Nat.sub_le_sub_right Jq _); clear hr9 hC9 Jq am6 am7 hc9; have KY9 := Aside0.mk hy9; have KA9 := Aside0.mk hA9; clear hy9 hA9; replace q9 := eq_true q9))
   go_loopg [6, 26] k1 (fun kq v6 v26 w' => ∃ (cd : List (List Int)) (rm : Int), v26 = .int .i64 rm ∧ Aside0 (bJ.l1 kq l0 bg dT jk cd (l0.length : Int) jk nz (nz.length : Int) rm = some r) ∧ Aside0 (kq ≤ k1) ∧ Aside0 (Kd.S (Kd.slice 3 (Kd.int .i64)) 40 w' w.heap.size (fun _ => True) v6 cd) ∧ Aside0 (Below w.heap.size w w'))
   case atStart => exact ⟨(X1), (0), dM, H', ⟨Nat.le_refl _⟩, ⟨gP am5.out⟩, ⟨mb HB.out⟩⟩
   case round =>
    clear H'
    obtain ⟨cd, rm, rfl, HA, ft, cM, HB⟩ := hrel
    cases gk with
    | zero => exact absurd HA.out (by simp [bJ.l1])
    | succ k2 =>
     have H := HA.out
     clear HA
     simp only [bJ.l1] at H
     by_cases ot : rm < (nz.length : Int)
     rotate_left
     ·rw [if_neg ot] at H
      have oC := decide_eq_false ot
      clear ot
      replace H := oo H; obtain ⟨Be, H⟩ := H
      have FN := decide_eq_true Be
      have YM : decide (0 < l0.length) = true := decide_eq_true (by omega)
      clear Be
      replace H := fW H; obtain ⟨avv, H⟩ := H
      replace H := fW H; obtain ⟨PT, H⟩ := H
      replace H := bZ H; obtain ⟨XZ, A24, H⟩ := H
      have H' := Aside0.mk H
      clear H
      try go_wp2
      replace cM := am (Kd.gw cM.out)
      replace HB := am (bd HB.out)
      have afF : 0 ≤ (0 : Int) := (by omega)
      have afG : 0 < (l0.length : Int) := bX
      obtain ⟨am_, as9, afH, as_, qo, Mr, Ms⟩ := eO jt.out 0 afF afG
      have qp := qo
      (try rw [show ((0 : Int)).toNat = 0 from rfl] at qp)
      (try rw [show 0 * 1 = 0 from rfl] at qp)
      (try rw [Addr.add_zero'] at qp)
      cases as_
      have avw : (0 < l0.length) = True := eq_true (by omega)
      (try rw [show ((0 : Int)).toNat = 0 from rfl] at qo)
      (try rw [Addr.add_zero'] at qo)
      replace qo := (HB.out.cell (World.block_lt_of_cell? w _ qo)).trans qo
      have Mt := Aside0.mk Ms
      have apu := Aside0.mk Mr
      clear Ms Mr
      replace afF := eq_true afF
      replace afG := eq_true afG
      have afI : 0 ≤ (jk : Int) := bX
      have afJ : jk < ((aJ l0 0).length : Int) := bX
      obtain ⟨Zz, as', vX⟩ := Kd.bi Mt.out jk afI afJ
      have yg := vX
      cases as'
      replace vX := (HB.out.cell (World.block_lt_of_cell? w _ vX)).trans vX
      replace afI := eq_true afI
      replace afJ := eq_true afJ
      obtain ⟨j8, jS, Ci⟩ := Kd.gj cM.out
      (first | subst Ci | (injection Ci with FJ QL FM; have QM := FJ.symm; have QN := FM.symm; clear FJ QL FM; subst QM; subst QN))
      refine fA (n := 14) (S := fun w' => w'.cell? am_ = some (.slice (some Zz) (aJ l0 0).length afH) ∧ w'.cell? (Zz.add (jk).toNat) = some (.int .i64 (rd (aJ l0 0) jk))) (ds := []) (Array.replicate 14 false) (by kernel_rfl) rfl rfl ⟨((HB.out.cell (World.block_lt_of_cell? w _ qp)).trans qp), ((HB.out.cell (World.block_lt_of_cell? w _ yg)).trans yg)⟩ (fun ai => ?_); refine cv bJ.am4 bJ.afA (fun ak fz => ?_)
      generalize wr.drew = w25 at cM HB Mt qo vX ai ⊢
      refine pY 0 40 ak ?_
      refine pY 1 41 ak ?_
      refine pY 2 42 ak ?_
      refine pY 3 43 ak ?_
      refine pY 5 45 ak ?_
      refine pY 9 49 ak ?_
      refine tY 4 44 ak fz ai ?_
      refine pY 6 46 ak ?_
      refine tY 7 47 ak fz ai ?_
      refine pY 8 48 ak ?_
      refine oY 10 50 ak (fun K hK => ?_)
      refine gY Tryz.func158 #[.slice j8 cd.length jS] ?_
      with_reducible refine (ih k2 (by have := dP.out; have := ft.out; omega) _ _ cd XZ _ ?aT ?aU A24.out).mono ?_
      (case aT => exact fy (Kd.cj cM.out).2.2)
      (case aU => exact (Kd.cj cM.out).2.1)
      rintro e w27 ⟨rfl, hb⟩
      refine ⟨_, rfl, ?_⟩
      replace cM := am (Kd.dm (gP cM.out) hb)
      replace HB := bS HB hb
      (try clear hb)
      (try clear sj)
      (try clear hk)
      (try clear hi)
      refine hK.out _ _ ⟨((HB.out.cell (World.block_lt_of_cell? w _ qp)).trans qp), ((HB.out.cell (World.block_lt_of_cell? w _ yg)).trans yg)⟩ (fun ai => ?_)
      clear hK K
      refine nY 50 ?_
      refine pY 11 51 ak ?_
      refine pY 12 52 ak ?_
      refine pY 13 3 ak ?_
      refine dY ak ?_
      try go_wp2
      go_roundg k2
      case measure => have := dP.out; have := ft.out; omega
      case rel => exact ⟨(wrap64 (bg + (wrap64 ((wrap64 (dT * (rd (aJ l0 0) jk))) * XZ)))), (wrap64 (-dT)), (wrap64 (jk + 1)), dM, dM, dM, H', ⟨by have := dP.out; have := ft.out; omega⟩, ⟨mb HB.out⟩⟩
     rw [if_pos ot] at H
     have oC := decide_eq_true ot
     clear ot
     replace H := fW H; obtain ⟨nJ, H⟩ := H
     replace H := fW H; obtain ⟨uG, H⟩ := H
     replace H := bZ H; obtain ⟨Jo, U3, H⟩ := H
     replace H := bZ H; obtain ⟨Jp, A14, H⟩ := H
     replace H := np H; obtain ⟨FR, H⟩ := H
     replace H := br (cd ++ [Jp]) (fun afK => (bJ.l1 k2 l0 bg dT jk afK (l0.length : Int) jk nz (nz.length : Int) (wrap64 (rm + 1))) = some r) H; obtain ⟨afK, am', H⟩ := H
     have H' := Aside0.mk H
     clear H
     have afL : 0 ≤ (rm : Int) := bX
     have afM : rm < (nz.length : Int) := bX
     obtain ⟨avx, afN, afO, ata, EO, Mu, Mv⟩ := eO am9.out rm afL afM
     cases ata
     replace EO := (HB.out.cell (World.block_lt_of_cell? w _ EO)).trans EO
     have X2 := Aside0.mk Mv
     have X3 := Aside0.mk Mu
     clear Mv Mu
     replace afL := eq_true afL
     replace afM := eq_true afM
     go_wp2_with (first | ((with_reducible refine gC 126 rfl ?_); refine gL 32 Tryz.func126 #[.slice afN (aJ nz rm).length afO] ?_; (with_reducible refine (dA.calls _ _ (aJ nz rm) Jo _ ?aT ?aU U3.out).mono ?_); (case aT => exact cB X2 HB); (case aU => exact X3.out); rintro e NO ⟨v268, rfl, cC, hb⟩; refine ⟨_, rfl, ?_⟩; replace cM := am (Kd.jI (gP cM.out) (Kd.bf cC) hb); have TO := am (Kd.cO cC (aC (mb HB.out))); replace HB := bS HB hb; (try clear hb cC); obtain ⟨mO, iJ, Qa⟩ := Kd.cH TO.out; subst Qa) | ((with_reducible refine gC 178 rfl ?_); refine gL 36 Tryz.func178 #[.slice mO Jo.length iJ, .int .i64 jk, .int .i64 (wrap64 (jk + 1))] ?_; (with_reducible refine (eS.calls (fun k_ => some k_ = (.slice mO Jo.length iJ : Value).ownBlock) (.slice mO Jo.length iJ) Jo jk (wrap64 (jk + 1)) Jp w _ ?aT ?aU A14.out).mono ?_); (case aT => repeat (first | (with_reducible first | exact HB.out | apply eV | apply dN | apply bd) | exact HB.out)); (case aU => exact Kd.jr rfl TO.out); rintro e Ow ⟨v271, rfl, cC, hb, HV⟩; refine ⟨_, rfl, ?_⟩; replace cM := am (Kd.cJ (ok' := fun k_ => some k_ ≠ (v271 : Value).ownBlock) (Kd.Wg (cM.out) HV (fun k_ gH jT => (gH.2) jT)) (fun k_ gH => fun e_ => Or.elim (cC.1 k_ e_.symm) (fun jT => gH.2.1 jT) (fun nS => Nat.not_le.2 gH.2.2 nS))); have Mw := am (Kd.bD (ok' := fun k_ => True) cC (fun k_ gH => trivial)); replace HB := am (hb); clear TO; (try clear hb HV cC); obtain ⟨RB, RC, ac9⟩ := Kd.cH Mw.out; subst ac9) | ((with_reducible refine bC (b := .append) (xs := #[.tmp 30, .tmp 37]) rfl ?_); at_builtin; refine Kd.tp (Kd.slice 3 (Kd.int .i64)) (w0 := w) w.heap.size rfl (.tmp 30) (.tmp 37) 22 40 (.slice none 0 0) 24 rfl Tryz.underlying22 gM rfl (by decide) (by omega) u6 cd Jp [.slice RB Jp.length RC] (fun _ => True) (fun k_ => some k_ = (.slice RB Jp.length RC : Value).ownBlock) rfl rfl ?aP (fun k_ gH => ((Kd.bD (ok' := fun k_ => ((fun _ => True)) k_ ∧ some k_ ≠ (u6 : Value).ownBlock) (Kd.cX (Mw.out) (Kd.jq cM.out) (by decide)) (fun k_ hk => ⟨trivial, hk.2⟩))).1 k_ gH.symm) ?aF ?aO ?aB ?aS ?aL ?_; (case aP => exact Kd.BT (Kd.bD (Kd.jr rfl (Kd.bD (ok' := fun k_ => ((fun _ => True)) k_ ∧ some k_ ≠ (u6 : Value).ownBlock) (Kd.cX (Mw.out) (Kd.jq cM.out) (by decide)) (fun k_ hk => ⟨trivial, hk.2⟩))) (fun _ h_ => h_))); (case aB => exact (mb HB.out)); (case aF => exact (fun _ _ => trivial)); (case aO => exact (Kd.cJ (gP cM.out) (fun k_ hk => ⟨trivial, fun e_ => hk e_⟩))); (case aS => exact (aC (mb HB.out))); (case aL => have := FR.out; omega); intro v274 w19 ho hb hg bk; rw [← am'.out] at ho; replace HB := am (hb); have ana := am (ho); clear cM; clear Mw; clear ho hb hg bk))
     go_roundg k2
     case measure => have := dP.out; have := ft.out; omega
     case rel => exact ⟨(afK), (wrap64 (rm + 1)), dM, H', ⟨by have := dP.out; have := ft.out; omega⟩, ⟨gP ana.out⟩, ⟨mb HB.out⟩⟩
end Go.Proofs.YtggiicplcglalaaGreat.All
end
