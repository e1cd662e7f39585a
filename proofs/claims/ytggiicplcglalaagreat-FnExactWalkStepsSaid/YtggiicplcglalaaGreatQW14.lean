/- Part of the proof that FnExactWalkSteps answers true. -/
import Derived.Test.YtggiicplcglalaaGreatQW13
namespace Go.Proofs.YtggiicplcglalaaGreat.All
open Go.RowKit YtggiicplcglalaaGreatW.PrintWords YtggiicplcglalaaGreatW.PrintLast YtggiicplcglalaaGreatW.PrintMore
attribute [local go_sem] max2_int min2_int max_two min_two max_three min_three max_four min_four
set_option linter.unusedVariables false
set_option linter.unusedSimpArgs false
set_option maxHeartbeats 8000000
set_option maxRecDepth 100000
def cS.l0 : Nat → List (List Int) → List Int → Int → Option ((List (List Int)))
 | 0, _, _, _ => none
 | k + 1, x0, x1, x5 => if x5 < (x0.length : Int) then (if 0 ≤ x5 then ((bt.f k (aJ x0 x5) x1).bind fun abZ => (if abZ = true then (cS.l0 k x0 x1 (wrap64 (x5 + 1))) else ((b7.f k (aJ x0 x5) x1).bind fun ab0 => (if ab0 = true then (some x0) else ((some (([] : List (List Int)) : List (List Int))).bind fun Aw => (if x5 ≤ (x0.length : Int) then ((some (x0.take (x5 : Int).toNat : List (List Int))).bind fun tJ => (if Aw.length + tJ.length < 5864062014805 then ((some (Aw ++ tJ : List (List Int))).bind fun uI => (if uI.length < 5864062014805 then ((some (uI ++ [x1] : List (List Int))).bind fun qE => ((some (x0.drop (x5 : Int).toNat : List (List Int))).bind fun l5 => (if qE.length + l5.length < 5864062014805 then (some (qE ++ l5)) else (none)))) else (none))) else (none))) else (none))))))) else (none)) else ((some (([] : List (List Int)) : List (List Int))).bind fun BB => (if 0 ≤ x5 then (if x5 ≤ (x0.length : Int) then ((some (x0.take (x5 : Int).toNat : List (List Int))).bind fun tK => (if BB.length + tK.length < 5864062014805 then ((some (BB ++ tK : List (List Int))).bind fun uJ => (if uJ.length < 5864062014805 then ((some (uJ ++ [x1] : List (List Int))).bind fun qG => ((some (x0.drop (x5 : Int).toNat : List (List Int))).bind fun l6 => (if qG.length + l6.length < 5864062014805 then (some (qG ++ l6)) else (none)))) else (none))) else (none))) else (none)) else (none)))
def cS.f (k : Nat) (l0 : List (List Int)) (l1 : List Int) : Option ((List (List Int))) := cS.l0 k l0 l1 0
theorem cS.bG : ∀ k, (∀ y0 y1 y2, bB (cS.l0 k y0 y1 y2) (cS.l0 (k + 1) y0 y1 y2))
 | 0 => fun _ _ _ r h => by simp [cS.l0] at h
 | k + 1 => by
  have eQ := cS.bG k
  ·intro y0 y1 y2
   unfold cS.l0
   repeat' first
   | (with_reducible exact eQ ..)
   | (with_reducible exact bt.mono ..)
   | (with_reducible exact b7.mono ..)
   | (with_reducible exact bB.refl _)
   | (with_reducible exact bB.none _)
   | (with_reducible refine bB.ite ?_ ?_)
   | (with_reducible refine bB.bind ?_ (fun _ => ?_))
theorem cS.mono : ∀ a0 a1 k, bB (cS.f k a0 a1) (cS.f (k + 1) a0 a1) := by
 intro a0 a1 k
 have eQ := cS.bG k
 unfold cS.f
 repeat' first
   | (with_reducible exact eQ ..)
   | (with_reducible exact bt.mono ..)
   | (with_reducible exact b7.mono ..)
   | (with_reducible exact bB.refl _)
   | (with_reducible exact bB.none _)
   | (with_reducible refine bB.ite ?_ ?_)
   | (with_reducible refine bB.bind ?_ (fun _ => ?_))
theorem cS.calls (k : Nat) (cT : Nat → Prop) (A0 : Option Addr) (c0 : Nat) (l0 : List (List Int)) (lM : Nat → Prop) (A1 : Option Addr) (c1 : Nat) (l1 : List Int) (r : List (List Int)) (w : World) (nE : Kd.V (Kd.slice 3 (Kd.int .i64)) 40 w w.heap.size (fun k_ => cT k_) (.slice A0 l0.length c0) l0) (NX : Kd.V (Kd.int .i64) 3 w w.heap.size (fun k_ => lM k_) (.slice A1 l1.length c1) l1) (h : cS.f k l0 l1 = some r) :
  Calls Tryz.prog 119 #[.slice A0 l0.length c0, .slice A1 l1.length c1] w fun e w' => ∃ iE : Value, e = .returned (iE) ∧ Kd.V (Kd.slice 3 (Kd.int .i64)) 40 w' w.heap.size (fun k_ => ((cT k_ ∨ lM k_) ∨ w.heap.size ≤ k_)) iE r ∧ Below w.heap.size w w' := by
 have HM := Aside0.mk (show Kd.V (Kd.slice 3 (Kd.int .i64)) 40 w w.heap.size (fun k_ => ((cT k_ ∨ lM k_) ∨ w.heap.size ≤ k_)) (.slice A0 l0.length c0) l0 from Kd.af nE (fun k_ hk => .inl (.inl hk)))
 have HO1 := Aside0.mk (show Kd.V (Kd.int .i64) 3 w w.heap.size (fun k_ => ((cT k_ ∨ lM k_) ∨ w.heap.size ≤ k_)) (.slice A1 l1.length c1) l1 from Kd.af NX (fun k_ hk => .inl (.inr hk)))
 have HB := Aside0.mk (Below.refl w.heap.size w)
 have H : (cS.l0 k l0 l1 0) = some r := h
 clear h
 have H' := Aside0.mk H
 clear H
 go_enter Tryz.func119, Tryz.ntmps119
 go_wp2
 go_loopg [5] k (fun kq v5 w' => ∃ (aj : Int), v5 = .int .i64 aj ∧ Aside0 (cS.l0 kq l0 l1 aj = some r) ∧ Aside0 (kq ≤ k) ∧ Aside0 (Kd.V (Kd.slice 3 (Kd.int .i64)) 40 w' w.heap.size (fun k_ => ((cT k_ ∨ lM k_) ∨ w.heap.size ≤ k_)) (.slice A0 l0.length c0) l0) ∧ Aside0 (Kd.V (Kd.int .i64) 3 w' w.heap.size (fun k_ => ((cT k_ ∨ lM k_) ∨ w.heap.size ≤ k_)) (.slice A1 l1.length c1) l1) ∧ Aside0 (Below w.heap.size w w'))
 case atStart => exact ⟨(0), dM, H', ⟨Nat.le_refl _⟩, ⟨c_ HM.out⟩, ⟨c_ HO1.out⟩, ⟨mb HB.out⟩⟩
 case round =>
  clear H'
  obtain ⟨aj, rfl, HA, dP, bQ, kZ, HB⟩ := hrel
  cases gk with
  | zero => exact absurd HA.out (by simp [cS.l0])
  | succ k1 =>
   have H := HA.out
   clear HA
   simp only [cS.l0] at H
   by_cases c3 : aj < (l0.length : Int)
   rotate_left
   ·rw [if_neg c3] at H
    have gX := decide_eq_false c3
    clear c3
    replace H := br (([] : List (List Int))) (fun BB => (if 0 ≤ aj then (if aj ≤ (l0.length : Int) then ((some (l0.take (aj : Int).toNat : List (List Int))).bind fun tK => (if BB.length + tK.length < 5864062014805 then ((some (BB ++ tK : List (List Int))).bind fun uJ => (if uJ.length < 5864062014805 then ((some (uJ ++ [l1] : List (List Int))).bind fun qG => ((some (l0.drop (aj : Int).toNat : List (List Int))).bind fun l6 => (if qG.length + l6.length < 5864062014805 then (some (qG ++ l6)) else (none)))) else (none))) else (none))) else (none)) else (none)) = some r) H; obtain ⟨BB, YP, H⟩ := H
    by_cases lg : 0 ≤ aj
    rotate_left
    ·rw [if_neg lg] at H
     exact absurd H (by simp)
    rw [if_pos lg] at H
    have PT := eq_true lg
    have Xt := decide_eq_true lg
    clear lg
    replace H := oo H; obtain ⟨HU, H⟩ := H
    have QT := eq_true HU
    have aib := decide_eq_true HU
    clear HU
    replace H := br (l0.take (aj : Int).toNat) (fun tK => (if BB.length + tK.length < 5864062014805 then ((some (BB ++ tK : List (List Int))).bind fun uJ => (if uJ.length < 5864062014805 then ((some (uJ ++ [l1] : List (List Int))).bind fun qG => ((some (l0.drop (aj : Int).toNat : List (List Int))).bind fun l6 => (if qG.length + l6.length < 5864062014805 then (some (qG ++ l6)) else (none)))) else (none))) else (none)) = some r) H; obtain ⟨tK, YQ, H⟩ := H
    replace H := np H; obtain ⟨aic, H⟩ := H
    replace H := br (BB ++ tK) (fun uJ => (if uJ.length < 5864062014805 then ((some (uJ ++ [l1] : List (List Int))).bind fun qG => ((some (l0.drop (aj : Int).toNat : List (List Int))).bind fun l6 => (if qG.length + l6.length < 5864062014805 then (some (qG ++ l6)) else (none)))) else (none)) = some r) H; obtain ⟨uJ, aid, H⟩ := H
    replace H := np H; obtain ⟨QU, H⟩ := H
    replace H := br (uJ ++ [l1]) (fun qG => ((some (l0.drop (aj : Int).toNat : List (List Int))).bind fun l6 => (if qG.length + l6.length < 5864062014805 then (some (qG ++ l6)) else (none))) = some r) H; obtain ⟨qG, aie, H⟩ := H
    have aif := eq_true (bX : 0 ≤ aj)
    have Kz := eq_true (bX : aj ≤ (l0.length : Int))
    replace H := br (l0.drop (aj : Int).toNat) (fun l6 => (if qG.length + l6.length < 5864062014805 then (some (qG ++ l6)) else (none)) = some r) H; obtain ⟨l6, YR, H⟩ := H
    replace H := np H; obtain ⟨aih, H⟩ := H
    replace H := br (qG ++ l6) (fun aii => (some aii) = some r) H; obtain ⟨aii, aij, H⟩ := H
    obtain rfl := Option.some.inj H
    go_wp2_with (first | ((with_reducible refine ah (N := 34) rfl ?_); refine Kd.nK (Kd.slice 3 (Kd.int .i64)) _ 40 ?hg (N' := 34) ?hd (xs := ([] : List (List Int))) (inner := []) (ok := (fun k_ => ((cT k_ ∨ lM k_) ∨ w.heap.size ≤ k_))) (okp := (fun k_ => ((cT k_ ∨ lM k_) ∨ w.heap.size ≤ k_))) ?hr ?hp (fun _ hk => hk) ((show ∀ k_, wr.heap.size ≤ k_ → (fun k_ => ((cT k_ ∨ lM k_) ∨ w.heap.size ≤ k_)) k_ from fun k_ hk => (.inr (Nat.le_trans (aC (mb HB.out)) hk))) _ (Nat.le_refl _)) (Below.refl _ _) (Nat.le_refl _) (by simp) ?_; (case hd => rfl); (case hg => rfl); (case hr => first | (go_simp; done) | (go_simp; rfl)); (case hp => exact (cV.none _ _)); intro v547 w30 IV hb jn dB; clear jn dB; (first | rw [← YP.out] at IV | (simp only [Int.reduceToNat] at IV; rw [← YP.out] at IV)); replace bQ := am (Kd.cY (c_ bQ.out) (Kd.gv IV) hb); replace kZ := am (Kd.cY (c_ kZ.out) (Kd.gv IV) hb); have YS := am (Kd.fT IV (aC (mb HB.out))); replace HB := bS HB hb; clear hb IV; have q32 : (aj : Int) ≤ ((l0.length : Int) : Int) := bX; obtain ⟨avR, YT, _, aik, _⟩ := info_parts gM; have LA : l0.length ≤ c0 := (Kd.bN bQ.out).2.1; have ail : Kd.F (Kd.slice 3 (Kd.int .i64)) _ _ A0 l0.length l0 := (Kd.FP (base := w.heap.size) bQ.out).2.2; have ab1 := CZ (P := Tryz.prog) 22 40 .i64 Tryz.underlying22 YT A0 l0.length c0 aj (bX) q32 LA; have ab2 := Kd.QV (m := (aj : Int).toNat) ail (by omega); have ab3 : tK.length = (aj : Int).toNat := (by rw [YQ.out, List.length_take]; omega); rw [← YQ.out] at ab2; rw [← ab3] at ab1; have zQ := Aside0.mk (show Kd.V (Kd.slice 3 (Kd.int .i64)) 40 _ w.heap.size _ (.slice A0 tK.length c0) tK from Kd.jo (by omega) ab2); have at8 := Aside0.mk (show tK.length ≤ c0 from by omega); clear ab2 ail LA YT aik; have avS := Aside0.mk ab3; clear ab3; replace q32 := eq_true q32) | ((with_reducible refine bC (b := .append) (xs := #[.tmp 34, .tmp 37]) rfl ?_); at_builtin; refine Kd.kK (Kd.slice 3 (Kd.int .i64)) (w0 := w) w.heap.size rfl (.tmp 34) (.tmp 37) 22 40 (.slice none 0 0) 24 rfl Tryz.underlying22 gM rfl (by decide) (by omega) v547 BB tK _ _ _ (fun k_ => ((cT k_ ∨ lM k_) ∨ w.heap.size ≤ k_)) (fun k_ => ((fun k_ => ((cT k_ ∨ lM k_) ∨ w.heap.size ≤ k_))) k_ ∧ some k_ ≠ (v547 : Value).ownBlock) rfl rfl ?aO ?aR (fun _ hk => hk) ?aF ?aB ?aS ?aL ?_; (case aR => exact (by skip; exact Kd.PS (Kd.af (ok' := (fun k_ => ((fun k_ => ((cT k_ ∨ lM k_) ∨ w.heap.size ≤ k_))) k_ ∧ some k_ ≠ (v547 : Value).ownBlock)) (zQ.out) (fun k_ hk => ⟨hk.1, hk.2⟩)))); (case aB => exact (mb HB.out)); (case aF => exact (fun k_ hk => (.inr (Nat.le_trans (aC (mb HB.out)) hk)))); (case aO => exact (dX YS.out)); (case aS => exact (aC (mb HB.out))); (case aL => have := aic.out; omega); intro v555 w33 ho hb hg bk; rw [← aid.out] at ho; replace bQ := am (Kd.bH (ok := (fun k_ => ((cT k_ ∨ lM k_) ∨ w.heap.size ≤ k_))) (c_ bQ.out) hg bk); replace kZ := am (Kd.bH (ok := (fun k_ => ((cT k_ ∨ lM k_) ∨ w.heap.size ≤ k_))) (c_ kZ.out) hg bk); replace zQ := am (Kd.bH (ok := (fun k_ => ((cT k_ ∨ lM k_) ∨ w.heap.size ≤ k_))) (c_ zQ.out) hg bk); replace HB := am (hb); have YU := am (ho); clear YS; clear ho hb hg bk) | ((with_reducible refine bC (b := .append) (xs := #[.tmp 38, .tmp 40]) rfl ?_); at_builtin; refine Kd.iX (Kd.slice 3 (Kd.int .i64)) (w0 := w) w.heap.size rfl (.tmp 38) (.tmp 40) 22 40 (.slice none 0 0) 24 rfl Tryz.underlying22 gM rfl (by decide) (by omega) v555 uJ l1 [.slice A1 l1.length c1] (fun k_ => ((cT k_ ∨ lM k_) ∨ w.heap.size ≤ k_)) (fun k_ => ((fun k_ => ((cT k_ ∨ lM k_) ∨ w.heap.size ≤ k_))) k_ ∧ some k_ ≠ (v555 : Value).ownBlock) rfl rfl ?aP (fun _ hk => hk) ?aF ?aO ?aB ?aS ?aL ?_; (case aP => exact (Kd.fP (Kd.bN (Kd.af (ok' := (fun k_ => ((fun k_ => ((cT k_ ∨ lM k_) ∨ w.heap.size ≤ k_))) k_ ∧ some k_ ≠ (v555 : Value).ownBlock)) (kZ.out) (fun k_ hk => ⟨hk.1, hk.2⟩))).2.1 (Kd.PS (Kd.af (ok' := (fun k_ => ((fun k_ => ((cT k_ ∨ lM k_) ∨ w.heap.size ≤ k_))) k_ ∧ some k_ ≠ (v555 : Value).ownBlock)) (kZ.out) (fun k_ hk => ⟨hk.1, hk.2⟩))))); (case aB => exact (mb HB.out)); (case aF => exact (fun k_ hk => (.inr (Nat.le_trans (aC (mb HB.out)) hk)))); (case aO => exact (dX YU.out)); (case aS => exact (aC (mb HB.out))); (case aL => have := QU.out; omega); intro v558 w34 ho hb hg bk; rw [← aie.out] at ho; replace bQ := am (Kd.bH (ok := (fun k_ => ((cT k_ ∨ lM k_) ∨ w.heap.size ≤ k_))) (c_ bQ.out) hg bk); replace kZ := am (Kd.bH (ok := (fun k_ => ((cT k_ ∨ lM k_) ∨ w.heap.size ≤ k_))) (c_ kZ.out) hg bk); replace zQ := am (Kd.bH (ok := (fun k_ => ((cT k_ ∨ lM k_) ∨ w.heap.size ≤ k_))) (c_ zQ.out) hg bk); replace HB := am (hb); have YV := am (ho); clear YU; clear ho hb hg bk; have q35 : (aj : Int) ≤ ((l0.length : Int) : Int) := bX; obtain ⟨avT, YW, _, YX, _⟩ := info_parts gM; have yK : l0.length ≤ c0 := (Kd.bN bQ.out).2.1; have aim : Kd.F (Kd.slice 3 (Kd.int .i64)) _ _ A0 l0.length l0 := (Kd.FP (base := w.heap.size) bQ.out).2.2; have aqq : (0 : Int) ≤ (aj : Int) := bX; have ab4 := ow (P := Tryz.prog) 22 40 .i64 Tryz.underlying22 YW 1 YX A0 l0.length c0 aj aqq q35; have QW := Kd.YY (m := (aj : Int).toNat) (c := c0) aim (by omega) yK; obtain ⟨A35, Uc⟩ : ∃ A1, A1 = (if c0 = (aj : Int).toNat then A0 else (A0 : Option Addr).map (·.add ((aj : Int).toNat * 1))) := ⟨_, rfl⟩; obtain ⟨K6, Ud⟩ : ∃ c1, c1 = c0 - (aj : Int).toNat := ⟨_, rfl⟩; have QX : l6.length = l0.length - (aj : Int).toNat := (by rw [YR.out, List.length_drop] <;> omega); rw [show (l0).drop (aj : Int).toNat = l6 from YR.out.symm] at QW; replace QW : Kd.F (Kd.slice 3 (Kd.int .i64)) _ _ A35 l6.length l6 := (by rw [Uc]; exact QW); rw [← QX, ← Uc, ← Ud] at ab4; have QY := Aside0.mk (show Kd.V (Kd.slice 3 (Kd.int .i64)) 40 _ w.heap.size _ (.slice A35 l6.length K6) l6 from Kd.jo (by rw [QX, Ud]; exact Nat.sub_le_sub_right yK _) QW); have at9 := Aside0.mk (show l6.length ≤ K6 from by rw [QX, Ud]; exact Nat.sub_le_sub_right yK _); clear QW aim yK YW YX Ud; have avU := Aside0.mk QX; have avV := Aside0.mk Uc; clear QX Uc; replace q35 := eq_true q35) | ((with_reducible refine bC (b := .append) (xs := #[.tmp 42, .tmp 45]) rfl ?_); at_builtin; refine Kd.kK (Kd.slice 3 (Kd.int .i64)) (w0 := w) w.heap.size rfl (.tmp 42) (.tmp 45) 22 40 (.slice none 0 0) 24 rfl Tryz.underlying22 gM rfl (by decide) (by omega) v558 qG l6 _ _ _ (fun k_ => ((cT k_ ∨ lM k_) ∨ w.heap.size ≤ k_)) (fun k_ => ((fun k_ => ((cT k_ ∨ lM k_) ∨ w.heap.size ≤ k_))) k_ ∧ some k_ ≠ (v558 : Value).ownBlock) rfl rfl ?aO ?aR (fun _ hk => hk) ?aF ?aB ?aS ?aL ?_; (case aR => exact (by skip; exact Kd.PS (Kd.af (ok' := (fun k_ => ((fun k_ => ((cT k_ ∨ lM k_) ∨ w.heap.size ≤ k_))) k_ ∧ some k_ ≠ (v558 : Value).ownBlock)) (QY.out) (fun k_ hk => ⟨hk.1, hk.2⟩)))); (case aB => exact (mb HB.out)); (case aF => exact (fun k_ hk => (.inr (Nat.le_trans (aC (mb HB.out)) hk)))); (case aO => exact (dX YV.out)); (case aS => exact (aC (mb HB.out))); (case aL => have := aih.out; omega); intro v566 w36 ho hb hg bk; rw [← aij.out] at ho; replace bQ := am (Kd.bH (ok := (fun k_ => ((cT k_ ∨ lM k_) ∨ w.heap.size ≤ k_))) (c_ bQ.out) hg bk); replace kZ := am (Kd.bH (ok := (fun k_ => ((cT k_ ∨ lM k_) ∨ w.heap.size ≤ k_))) (c_ kZ.out) hg bk); replace zQ := am (Kd.bH (ok := (fun k_ => ((cT k_ ∨ lM k_) ∨ w.heap.size ≤ k_))) (c_ zQ.out) hg bk); replace QY := am (Kd.bH (ok := (fun k_ => ((cT k_ ∨ lM k_) ∨ w.heap.size ≤ k_))) (c_ QY.out) hg bk); replace HB := am (hb); have ain := am (ho); clear YV; clear ho hb hg bk))
    go_ret
    exact ⟨_, jC, Kd.PU (dX ain.out), mb HB.out⟩
   rw [if_pos c3] at H
   have gX := decide_eq_true c3
   clear c3
   replace H := fW H; obtain ⟨iI, H⟩ := H
   replace H := bZ H; obtain ⟨abZ, A5, H⟩ := H
   by_cases c6 : abZ = true
   ·subst c6
    replace H := sY H
    have H' := Aside0.mk H
    clear H
    have uK : 0 ≤ (aj : Int) := bX
    have uL : aj < (l0.length : Int) := bX
    obtain ⟨rS, QZ, Q0, Q1, qH, oM, oN⟩ := eO (Kd.bN bQ.out).2.2 aj uK uL
    cases Q1
    obtain ⟨YZ, zR, zS, rT⟩ := Kd.ly bQ.out [] aj uK (by first | exact uL | exact bX | (have e_ := (Kd.bN bQ.out).1; omega))
    obtain ⟨LB, LC, rfl, lC, lD⟩ := Kd.dG zS
    have j4 := rT 0 _ rfl
    rw [Nat.add_zero, show ((Kd.slice 3 (Kd.int .i64))).sz = 1 from rfl, Nat.mul_one] at j4
    replace j4 := Option.some.inj (j4.symm.trans qH)
    injection j4 with fN iW fO
    rw [fN] at lD
    rw [fO] at lC
    have ll := Aside0.mk (show Kd.V (Kd.int .i64) 3 _ w.heap.size _ _ (aJ l0 aj) from Kd.jo lC lD)
    clear fN iW fO lD lC
    clear rT zR
    have qI := Aside0.mk oN
    have uM := Aside0.mk oM
    clear oN oM
    replace uK := eq_true uK
    replace uL := eq_true uL
    go_wp2_with (first | (go_at_call 155; (with_reducible refine (bt.calls k1 _ _ (aJ l0 aj) _ _ l1 true _ ?aT ?aU ?ao ?ar A5.out).mono ?_); (case aT => exact fy qI.out); (case aU => exact uM.out); (case ao => exact fy (Kd.bN kZ.out).2.2); (case ar => exact (Kd.bN kZ.out).2.1); rintro e w' ⟨rfl, ⟨nd, rfl⟩⟩))
    go_roundg k1
    case measure => have := dP.out; omega
    case rel => exact ⟨(wrap64 (aj + 1)), dM, H', ⟨by have := dP.out; omega⟩, ⟨c_ bQ.out⟩, ⟨c_ kZ.out⟩, ⟨mb HB.out⟩⟩
   replace c6 := Bool.eq_false_iff.mpr c6
   subst c6
   replace H := sZ H
   replace H := bZ H; obtain ⟨ab0, A7, H⟩ := H
   by_cases c8 : ab0 = true
   ·subst c8
    replace H := sY H
    obtain rfl := Option.some.inj H
    have uK : 0 ≤ (aj : Int) := bX
    have uL : aj < (l0.length : Int) := bX
    obtain ⟨rS, QZ, Q0, Q1, qH, oM, oN⟩ := eO (Kd.bN bQ.out).2.2 aj uK uL
    cases Q1
    obtain ⟨YZ, zR, zS, rT⟩ := Kd.ly bQ.out [] aj uK (by first | exact uL | exact bX | (have e_ := (Kd.bN bQ.out).1; omega))
    obtain ⟨LB, LC, rfl, lC, lD⟩ := Kd.dG zS
    have j4 := rT 0 _ rfl
    rw [Nat.add_zero, show ((Kd.slice 3 (Kd.int .i64))).sz = 1 from rfl, Nat.mul_one] at j4
    replace j4 := Option.some.inj (j4.symm.trans qH)
    injection j4 with fN iW fO
    rw [fN] at lD
    rw [fO] at lC
    have ll := Aside0.mk (show Kd.V (Kd.int .i64) 3 _ w.heap.size _ _ (aJ l0 aj) from Kd.jo lC lD)
    clear fN iW fO lD lC
    clear rT zR
    have qI := Aside0.mk oN
    have uM := Aside0.mk oM
    clear oN oM
    replace uK := eq_true uK
    replace uL := eq_true uL
    go_wp2_with (first | (go_at_call 155; (with_reducible refine (bt.calls k1 _ _ (aJ l0 aj) _ _ l1 false _ ?aT ?aU ?ao ?ar A5.out).mono ?_); (case aT => exact fy qI.out); (case aU => exact uM.out); (case ao => exact fy (Kd.bN kZ.out).2.2); (case ar => exact (Kd.bN kZ.out).2.1); rintro e w' ⟨rfl, ⟨nd, rfl⟩⟩; have Cv : 0 ≤ (aj : Int) := bX; have Cw : aj < (l0.length : Int) := bX; obtain ⟨Q2, ab5, ab6, ab7, uN, uO, uP⟩ := eO (Kd.bN bQ.out).2.2 aj Cv Cw; obtain rfl : rS = Q2 := (by injection ab7); obtain ⟨aio, IW, IX, zT⟩ := Kd.ly bQ.out [] aj Cv (by first | exact Cw | exact bX | (have e_ := (Kd.bN bQ.out).1; omega)); obtain ⟨Ue, Uf, rfl, qJ, qK⟩ := Kd.dG IX; have mm := zT 0 _ rfl; rw [Nat.add_zero, show ((Kd.slice 3 (Kd.int .i64))).sz = 1 from rfl, Nat.mul_one] at mm; replace mm := Option.some.inj (mm.symm.trans uN); injection mm with fN iW fO; rw [fN] at qK; rw [fO] at qJ; have mn := Aside0.mk (show Kd.V (Kd.int .i64) 3 _ w.heap.size _ _ (aJ l0 aj) from Kd.jo qJ qK); clear fN iW fO qK qJ; clear zT IW; have uQ := Aside0.mk uP; have Cx := Aside0.mk uO; clear uP uO; replace Cv := eq_true Cv; replace Cw := eq_true Cw; have kF := Option.some.inj (qH.symm.trans uN); injection kF with kF wB wC; subst kF; subst wC; clear wB) | (go_at_call 92; (with_reducible refine (b7.calls k1 _ _ (aJ l0 aj) _ _ l1 true _ ?aT ?aU ?ao ?ar A7.out).mono ?_); (case aT => exact fy uQ.out); (case aU => exact Cx.out); (case ao => exact fy (Kd.bN kZ.out).2.2); (case ar => exact (Kd.bN kZ.out).2.1); rintro e w' ⟨rfl, ⟨nd, rfl⟩⟩))
    go_ret
    exact ⟨_, jC, c_ bQ.out, mb HB.out⟩
   replace c8 := Bool.eq_false_iff.mpr c8
   subst c8
   replace H := sZ H
   replace H := br (([] : List (List Int))) (fun Aw => (if aj ≤ (l0.length : Int) then ((some (l0.take (aj : Int).toNat : List (List Int))).bind fun tJ => (if Aw.length + tJ.length < 5864062014805 then ((some (Aw ++ tJ : List (List Int))).bind fun uI => (if uI.length < 5864062014805 then ((some (uI ++ [l1] : List (List Int))).bind fun qE => ((some (l0.drop (aj : Int).toNat : List (List Int))).bind fun l5 => (if qE.length + l5.length < 5864062014805 then (some (qE ++ l5)) else (none)))) else (none))) else (none))) else (none)) = some r) H; obtain ⟨Aw, Y0, H⟩ := H
   have tF := eq_true (bX : 0 ≤ aj)
   replace H := oo H; obtain ⟨ot, H⟩ := H
   have oC := eq_true ot
   have Bf := decide_eq_true ot
   clear ot
   replace H := br (l0.take (aj : Int).toNat) (fun tJ => (if Aw.length + tJ.length < 5864062014805 then ((some (Aw ++ tJ : List (List Int))).bind fun uI => (if uI.length < 5864062014805 then ((some (uI ++ [l1] : List (List Int))).bind fun qE => ((some (l0.drop (aj : Int).toNat : List (List Int))).bind fun l5 => (if qE.length + l5.length < 5864062014805 then (some (qE ++ l5)) else (none)))) else (none))) else (none)) = some r) H; obtain ⟨tJ, Y1, H⟩ := H
   replace H := np H; obtain ⟨FQ, H⟩ := H
   replace H := br (Aw ++ tJ) (fun uI => (if uI.length < 5864062014805 then ((some (uI ++ [l1] : List (List Int))).bind fun qE => ((some (l0.drop (aj : Int).toNat : List (List Int))).bind fun l5 => (if qE.length + l5.length < 5864062014805 then (some (qE ++ l5)) else (none)))) else (none)) = some r) H; obtain ⟨uI, aip, H⟩ := H
   replace H := np H; obtain ⟨Ei, H⟩ := H
   replace H := br (uI ++ [l1]) (fun qE => ((some (l0.drop (aj : Int).toNat : List (List Int))).bind fun l5 => (if qE.length + l5.length < 5864062014805 then (some (qE ++ l5)) else (none))) = some r) H; obtain ⟨qE, aiq, H⟩ := H
   have zJ := eq_true (bX : 0 ≤ aj)
   have rI := eq_true (bX : aj ≤ (l0.length : Int))
   replace H := br (l0.drop (aj : Int).toNat) (fun l5 => (if qE.length + l5.length < 5864062014805 then (some (qE ++ l5)) else (none)) = some r) H; obtain ⟨l5, Y2, H⟩ := H
   replace H := np H; obtain ⟨FR, H⟩ := H
   replace H := br (qE ++ l5) (fun air => (some air) = some r) H; obtain ⟨air, ais, H⟩ := H
   obtain rfl := Option.some.inj H
   have uK : 0 ≤ (aj : Int) := bX
   have uL : aj < (l0.length : Int) := bX
   obtain ⟨rS, QZ, Q0, Q1, qH, oM, oN⟩ := eO (Kd.bN bQ.out).2.2 aj uK uL
   cases Q1
   obtain ⟨YZ, zR, zS, rT⟩ := Kd.ly bQ.out [] aj uK (by first | exact uL | exact bX | (have e_ := (Kd.bN bQ.out).1; omega))
   obtain ⟨LB, LC, rfl, lC, lD⟩ := Kd.dG zS
   have j4 := rT 0 _ rfl
   rw [Nat.add_zero, show ((Kd.slice 3 (Kd.int .i64))).sz = 1 from rfl, Nat.mul_one] at j4
   replace j4 := Option.some.inj (j4.symm.trans qH)
   injection j4 with fN iW fO
   rw [fN] at lD
   rw [fO] at lC
   have ll := Aside0.mk (show Kd.V (Kd.int .i64) 3 _ w.heap.size _ _ (aJ l0 aj) from Kd.jo lC lD)
   clear fN iW fO lD lC
   clear rT zR
   have qI := Aside0.mk oN
   have uM := Aside0.mk oM
   clear oN oM
   replace uK := eq_true uK
   replace uL := eq_true uL
   go_wp2_with (first | (go_at_call 155; (with_reducible refine (bt.calls k1 _ _ (aJ l0 aj) _ _ l1 false _ ?aT ?aU ?ao ?ar A5.out).mono ?_); (case aT => exact fy qI.out); (case aU => exact uM.out); (case ao => exact fy (Kd.bN kZ.out).2.2); (case ar => exact (Kd.bN kZ.out).2.1); rintro e w' ⟨rfl, ⟨nd, rfl⟩⟩; have Cv : 0 ≤ (aj : Int) := bX; have Cw : aj < (l0.length : Int) := bX; obtain ⟨Q2, ab5, ab6, ab7, uN, uO, uP⟩ := eO (Kd.bN bQ.out).2.2 aj Cv Cw; obtain rfl : rS = Q2 := (by injection ab7); obtain ⟨aio, IW, IX, zT⟩ := Kd.ly bQ.out [] aj Cv (by first | exact Cw | exact bX | (have e_ := (Kd.bN bQ.out).1; omega)); obtain ⟨Ue, Uf, rfl, qJ, qK⟩ := Kd.dG IX; have mm := zT 0 _ rfl; rw [Nat.add_zero, show ((Kd.slice 3 (Kd.int .i64))).sz = 1 from rfl, Nat.mul_one] at mm; replace mm := Option.some.inj (mm.symm.trans uN); injection mm with fN iW fO; rw [fN] at qK; rw [fO] at qJ; have mn := Aside0.mk (show Kd.V (Kd.int .i64) 3 _ w.heap.size _ _ (aJ l0 aj) from Kd.jo qJ qK); clear fN iW fO qK qJ; clear zT IW; have uQ := Aside0.mk uP; have Cx := Aside0.mk uO; clear uP uO; replace Cv := eq_true Cv; replace Cw := eq_true Cw; have kF := Option.some.inj (qH.symm.trans uN); injection kF with kF wB wC; subst kF; subst wC; clear wB) | (go_at_call 92; (with_reducible refine (b7.calls k1 _ _ (aJ l0 aj) _ _ l1 false _ ?aT ?aU ?ao ?ar A7.out).mono ?_); (case aT => exact fy uQ.out); (case aU => exact Cx.out); (case ao => exact fy (Kd.bN kZ.out).2.2); (case ar => exact (Kd.bN kZ.out).2.1); rintro e w' ⟨rfl, ⟨nd, rfl⟩⟩) | ((with_reducible refine ah (N := 34) rfl ?_); refine Kd.nK (Kd.slice 3 (Kd.int .i64)) _ 40 ?hg (N' := 34) ?hd (xs := ([] : List (List Int))) (inner := []) (ok := (fun k_ => ((cT k_ ∨ lM k_) ∨ w.heap.size ≤ k_))) (okp := (fun k_ => ((cT k_ ∨ lM k_) ∨ w.heap.size ≤ k_))) ?hr ?hp (fun _ hk => hk) ((show ∀ k_, wr.heap.size ≤ k_ → (fun k_ => ((cT k_ ∨ lM k_) ∨ w.heap.size ≤ k_)) k_ from fun k_ hk => (.inr (Nat.le_trans (aC (mb HB.out)) hk))) _ (Nat.le_refl _)) (Below.refl _ _) (Nat.le_refl _) (by simp) ?_; (case hd => rfl); (case hg => rfl); (case hr => first | (go_simp; done) | (go_simp; rfl)); (case hp => exact (cV.none _ _)); intro v525 NO tL hb jn dB; clear jn dB; (first | rw [← Y0.out] at tL | (simp only [Int.reduceToNat] at tL; rw [← Y0.out] at tL)); replace bQ := am (Kd.cY (c_ bQ.out) (Kd.gv tL) hb); replace kZ := am (Kd.cY (c_ kZ.out) (Kd.gv tL) hb); replace ll := am (Kd.cY (c_ ll.out) (Kd.gv tL) hb); replace mn := am (Kd.cY (c_ mn.out) (Kd.gv tL) hb); have Y3 := am (Kd.fT tL (aC (mb HB.out))); replace qI := am (Kd.bh (fy qI.out) hb); replace uQ := am (Kd.bh (fy uQ.out) hb); replace HB := bS HB hb; clear hb tL; have q18 : (aj : Int) ≤ ((l0.length : Int) : Int) := bX; obtain ⟨avW, Y4, _, ait, _⟩ := info_parts gM; have LD : l0.length ≤ c0 := (Kd.bN bQ.out).2.1; have aiu : Kd.F (Kd.slice 3 (Kd.int .i64)) _ _ (some rS) l0.length l0 := (Kd.FP (base := w.heap.size) bQ.out).2.2; have ab8 := CZ (P := Tryz.prog) 22 40 .i64 Tryz.underlying22 Y4 (some rS) l0.length c0 aj (bX) q18 LD; have ab9 := Kd.QV (m := (aj : Int).toNat) aiu (by omega); have ab_ : tJ.length = (aj : Int).toNat := (by rw [Y1.out, List.length_take]; omega); rw [← Y1.out] at ab9; rw [← ab_] at ab8; have zU := Aside0.mk (show Kd.V (Kd.slice 3 (Kd.int .i64)) 40 _ w.heap.size _ (.slice (some rS) tJ.length c0) tJ from Kd.jo (by omega) ab9); have at' := Aside0.mk (show tJ.length ≤ c0 from by omega); clear ab9 aiu LD Y4 ait; have avX := Aside0.mk ab_; clear ab_; replace q18 := eq_true q18) | ((with_reducible refine bC (b := .append) (xs := #[.tmp 34, .tmp 37]) rfl ?_); at_builtin; refine Kd.kK (Kd.slice 3 (Kd.int .i64)) (w0 := w) w.heap.size rfl (.tmp 34) (.tmp 37) 22 40 (.slice none 0 0) 24 rfl Tryz.underlying22 gM rfl (by decide) (by omega) v525 Aw tJ _ _ _ (fun k_ => ((cT k_ ∨ lM k_) ∨ w.heap.size ≤ k_)) (fun k_ => ((fun k_ => ((cT k_ ∨ lM k_) ∨ w.heap.size ≤ k_))) k_ ∧ some k_ ≠ (v525 : Value).ownBlock) rfl rfl ?aO ?aR (fun _ hk => hk) ?aF ?aB ?aS ?aL ?_; (case aR => exact (by skip; exact Kd.PS (Kd.af (ok' := (fun k_ => ((fun k_ => ((cT k_ ∨ lM k_) ∨ w.heap.size ≤ k_))) k_ ∧ some k_ ≠ (v525 : Value).ownBlock)) (zU.out) (fun k_ hk => ⟨hk.1, hk.2⟩)))); (case aB => exact (mb HB.out)); (case aF => exact (fun k_ hk => (.inr (Nat.le_trans (aC (mb HB.out)) hk)))); (case aO => exact (dX Y3.out)); (case aS => exact (aC (mb HB.out))); (case aL => have := FQ.out; omega); intro v533 w19 ho hb hg bk; rw [← aip.out] at ho; replace bQ := am (Kd.bH (ok := (fun k_ => ((cT k_ ∨ lM k_) ∨ w.heap.size ≤ k_))) (c_ bQ.out) hg bk); replace kZ := am (Kd.bH (ok := (fun k_ => ((cT k_ ∨ lM k_) ∨ w.heap.size ≤ k_))) (c_ kZ.out) hg bk); replace ll := am (Kd.bH (ok := (fun k_ => ((cT k_ ∨ lM k_) ∨ w.heap.size ≤ k_))) (c_ ll.out) hg bk); replace mn := am (Kd.bH (ok := (fun k_ => ((cT k_ ∨ lM k_) ∨ w.heap.size ≤ k_))) (c_ mn.out) hg bk); replace zU := am (Kd.bH (ok := (fun k_ => ((cT k_ ∨ lM k_) ∨ w.heap.size ≤ k_))) (c_ zU.out) hg bk); replace HB := am (hb); have Y5 := am (ho); clear Y3; clear ho hb hg bk) | ((with_reducible refine bC (b := .append) (xs := #[.tmp 38, .tmp 40]) rfl ?_); at_builtin; refine Kd.iX (Kd.slice 3 (Kd.int .i64)) (w0 := w) w.heap.size rfl (.tmp 38) (.tmp 40) 22 40 (.slice none 0 0) 24 rfl Tryz.underlying22 gM rfl (by decide) (by omega) v533 uI l1 [.slice A1 l1.length c1] (fun k_ => ((cT k_ ∨ lM k_) ∨ w.heap.size ≤ k_)) (fun k_ => ((fun k_ => ((cT k_ ∨ lM k_) ∨ w.heap.size ≤ k_))) k_ ∧ some k_ ≠ (v533 : Value).ownBlock) rfl rfl ?aP (fun _ hk => hk) ?aF ?aO ?aB ?aS ?aL ?_; (case aP => exact (Kd.fP (Kd.bN (Kd.af (ok' := (fun k_ => ((fun k_ => ((cT k_ ∨ lM k_) ∨ w.heap.size ≤ k_))) k_ ∧ some k_ ≠ (v533 : Value).ownBlock)) (kZ.out) (fun k_ hk => ⟨hk.1, hk.2⟩))).2.1 (Kd.PS (Kd.af (ok' := (fun k_ => ((fun k_ => ((cT k_ ∨ lM k_) ∨ w.heap.size ≤ k_))) k_ ∧ some k_ ≠ (v533 : Value).ownBlock)) (kZ.out) (fun k_ hk => ⟨hk.1, hk.2⟩))))); (case aB => exact (mb HB.out)); (case aF => exact (fun k_ hk => (.inr (Nat.le_trans (aC (mb HB.out)) hk)))); (case aO => exact (dX Y5.out)); (case aS => exact (aC (mb HB.out))); (case aL => have := Ei.out; omega); intro v536 P4 ho hb hg bk; rw [← aiq.out] at ho; replace bQ := am (Kd.bH (ok := (fun k_ => ((cT k_ ∨ lM k_) ∨ w.heap.size ≤ k_))) (c_ bQ.out) hg bk); replace kZ := am (Kd.bH (ok := (fun k_ => ((cT k_ ∨ lM k_) ∨ w.heap.size ≤ k_))) (c_ kZ.out) hg bk); replace ll := am (Kd.bH (ok := (fun k_ => ((cT k_ ∨ lM k_) ∨ w.heap.size ≤ k_))) (c_ ll.out) hg bk); replace mn := am (Kd.bH (ok := (fun k_ => ((cT k_ ∨ lM k_) ∨ w.heap.size ≤ k_))) (c_ mn.out) hg bk); replace zU := am (Kd.bH (ok := (fun k_ => ((cT k_ ∨ lM k_) ∨ w.heap.size ≤ k_))) (c_ zU.out) hg bk); replace HB := am (hb); have Y6 := am (ho); clear Y5; clear ho hb hg bk; have q21 : (aj : Int) ≤ ((l0.length : Int) : Int) := bX; obtain ⟨aqf, FF, _, FG, _⟩ := info_parts gM; have yL : l0.length ≤ c0 := (Kd.bN bQ.out).2.1; have QH : Kd.F (Kd.slice 3 (Kd.int .i64)) _ _ (some rS) l0.length l0 := (Kd.FP (base := w.heap.size) bQ.out).2.2; have aqr : (0 : Int) ≤ (aj : Int) := bX; have QG := ow (P := Tryz.prog) 22 40 .i64 Tryz.underlying22 FF 1 FG (some rS) l0.length c0 aj aqr q21; have Q3 := Kd.YY (m := (aj : Int).toNat) (c := c0) QH (by omega) yL; obtain ⟨A21, ID⟩ : ∃ A1, A1 = (if c0 = (aj : Int).toNat then (some rS) else ((some rS) : Option Addr).map (·.add ((aj : Int).toNat * 1))) := ⟨_, rfl⟩; obtain ⟨Be, Ug⟩ : ∃ c1, c1 = c0 - (aj : Int).toNat := ⟨_, rfl⟩; have Q4 : l5.length = l0.length - (aj : Int).toNat := (by rw [Y2.out, List.length_drop] <;> omega); rw [show (l0).drop (aj : Int).toNat = l5 from Y2.out.symm] at Q3; replace Q3 : Kd.F (Kd.slice 3 (Kd.int .i64)) _ _ A21 l5.length l5 := (by rw [ID]; exact Q3); rw [← Q4, ← ID, ← Ug] at QG; have Q5 := Aside0.mk (show Kd.V (Kd.slice 3 (Kd.int .i64)) 40 _ w.heap.size _ (.slice A21 l5.length Be) l5 from Kd.jo (by rw [Q4, Ug]; exact Nat.sub_le_sub_right yL _) Q3); have aua := Aside0.mk (show l5.length ≤ Be from by rw [Q4, Ug]; exact Nat.sub_le_sub_right yL _); clear Q3 QH yL FF FG Ug; have avY := Aside0.mk Q4; have avZ := Aside0.mk ID; clear Q4 ID; replace q21 := eq_true q21) | ((with_reducible refine bC (b := .append) (xs := #[.tmp 42, .tmp 45]) rfl ?_); at_builtin; refine Kd.kK (Kd.slice 3 (Kd.int .i64)) (w0 := w) w.heap.size rfl (.tmp 42) (.tmp 45) 22 40 (.slice none 0 0) 24 rfl Tryz.underlying22 gM rfl (by decide) (by omega) v536 qE l5 _ _ _ (fun k_ => ((cT k_ ∨ lM k_) ∨ w.heap.size ≤ k_)) (fun k_ => ((fun k_ => ((cT k_ ∨ lM k_) ∨ w.heap.size ≤ k_))) k_ ∧ some k_ ≠ (v536 : Value).ownBlock) rfl rfl ?aO ?aR (fun _ hk => hk) ?aF ?aB ?aS ?aL ?_; (case aR => exact (by skip; exact Kd.PS (Kd.af (ok' := (fun k_ => ((fun k_ => ((cT k_ ∨ lM k_) ∨ w.heap.size ≤ k_))) k_ ∧ some k_ ≠ (v536 : Value).ownBlock)) (Q5.out) (fun k_ hk => ⟨hk.1, hk.2⟩)))); (case aB => exact (mb HB.out)); (case aF => exact (fun k_ hk => (.inr (Nat.le_trans (aC (mb HB.out)) hk)))); (case aO => exact (dX Y6.out)); (case aS => exact (aC (mb HB.out))); (case aL => have := FR.out; omega); intro v544 w22 ho hb hg bk; rw [← ais.out] at ho; replace bQ := am (Kd.bH (ok := (fun k_ => ((cT k_ ∨ lM k_) ∨ w.heap.size ≤ k_))) (c_ bQ.out) hg bk); replace kZ := am (Kd.bH (ok := (fun k_ => ((cT k_ ∨ lM k_) ∨ w.heap.size ≤ k_))) (c_ kZ.out) hg bk); replace ll := am (Kd.bH (ok := (fun k_ => ((cT k_ ∨ lM k_) ∨ w.heap.size ≤ k_))) (c_ ll.out) hg bk); replace mn := am (Kd.bH (ok := (fun k_ => ((cT k_ ∨ lM k_) ∨ w.heap.size ≤ k_))) (c_ mn.out) hg bk); replace zU := am (Kd.bH (ok := (fun k_ => ((cT k_ ∨ lM k_) ∨ w.heap.size ≤ k_))) (c_ zU.out) hg bk); replace Q5 := am (Kd.bH (ok := (fun k_ => ((cT k_ ∨ lM k_) ∨ w.heap.size ≤ k_))) (c_ Q5.out) hg bk); replace HB := am (hb); have aiv := am (ho); clear Y6; clear ho hb hg bk))
   go_ret
   exact ⟨_, jC, Kd.PU (dX aiv.out), mb HB.out⟩
end Go.Proofs.YtggiicplcglalaaGreat.All
