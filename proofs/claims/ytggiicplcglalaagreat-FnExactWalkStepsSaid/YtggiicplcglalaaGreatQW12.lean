/- Part of the proof that FnExactWalkSteps answers true. -/
import Derived.Test.YtggiicplcglalaaGreatQW11
section
namespace Go.Proofs.YtggiicplcglalaaGreat.All
open Go.RowKit YtggiicplcglalaaGreatW.PrintWords YtggiicplcglalaaGreatW.PrintLast YtggiicplcglalaaGreatW.PrintMore
attribute [local go_sem] max2_int min2_int max_two min_two max_three min_three max_four min_four
set_option linter.unusedVariables false
set_option linter.unusedSimpArgs false
set_option maxHeartbeats 8000000
set_option maxRecDepth 100000
def aK.l0 : Nat → Int → Int → List (bm) → Int → List (bm) → List Int → List Int → Bool → Int → Int → Option (List Int × List Int × Int)
 | 0, _, _, _, _, _, _, _, _, _, _ => none
 | k + 1, a1, n1, L1, n2, L2, x, y, t, d, s => if t = true then ((aN.f k n2 L2 y d).bind fun r => (if r.2 = a1 then (some (x, r.1, s)) else (if s > 1000 then (some (x, r.1, s)) else (aK.l0 k a1 n1 L1 n2 L2 x r.1 false r.2 (wrap64 (s + 1)))))) else ((aN.f k n1 L1 x d).bind fun r => (if r.2 = a1 then (some (r.1, y, s)) else (if s > 1000 then (some (r.1, y, s)) else (aK.l0 k a1 n1 L1 n2 L2 r.1 y true r.2 (wrap64 (s + 1))))))
def aK.f (k : Nat) (aD : List (List Int)) (aG : List (List Int)) (a1 : Int) : Option (List Int × List Int × Int) := (aA.f k aD aG 1).bind fun b1 => ((aA.f k aD aG 2).bind fun b2 => ((dU.f aD aG).bind fun m => (if 0 ≤ m then (if m.toNat ≤ 1000000 then ((dd.f aD aG).bind fun n => (if 0 ≤ n then (if n.toNat ≤ 1000000 then (aK.l0 k a1 b1.1 b1.2 b2.1 b2.2 (List.replicate m.toNat 0 ++ [1]) (List.replicate n.toNat 0 ++ [1]) (decide (m ≤ a1)) a1 1) else (none)) else (none))) else (none)) else (none))))
theorem aK.bG : ∀ k, ∀ y0 y1 y2 y3 y4 y5 y6 y7 y8 y9, bB (aK.l0 k y0 y1 y2 y3 y4 y5 y6 y7 y8 y9) (aK.l0 (k + 1) y0 y1 y2 y3 y4 y5 y6 y7 y8 y9)
 | 0 => fun _ _ _ _ _ _ _ _ _ _ r h => by simp [aK.l0] at h
 | k + 1 => by
   have ih := aK.bG k
   intro y0 y1 y2 y3 y4 y5 y6 y7 y8 y9
   unfold aK.l0
   repeat' first
   | (with_reducible exact ih _ _ _ _ _ _ _ _ _ _)
   | (with_reducible exact aN.mono ..)
   | (with_reducible exact aA.mono ..)
   | (with_reducible exact bB.refl _)
   | (with_reducible exact bB.none _)
   | (with_reducible refine bB.ite ?_ ?_)
   | (with_reducible refine bB.bind ?_ (fun _ => ?_))
theorem aK.mono : ∀ a0 a1 a2 k, bB (aK.f k a0 a1 a2) (aK.f (k + 1) a0 a1 a2) := by
   intro a0 a1 a2 k
   have ih := aK.bG k
   unfold aK.f
   repeat' first
   | (with_reducible exact ih _ _ _ _ _ _ _ _ _ _)
   | (with_reducible exact aN.mono ..)
   | (with_reducible exact aA.mono ..)
   | (with_reducible exact bB.refl _)
   | (with_reducible exact bB.none _)
   | (with_reducible refine bB.ite ?_ ?_)
   | (with_reducible refine bB.bind ?_ (fun _ => ?_))
def aK.T1 : Bool × List (List Nat × List Nat) := (true, [([], []), ([0], [0]), ([], []), ([2, 1], [2]), ([1, 3], [1, 3]), ([], []), ([5, 4, 3, 0, 1, 2, 3, 4, 5], [4, 5])])
def aK.B1 : List Nat := [0, 1, 0, 7, 15, 0, 63]
theorem aK.mc : fh .any (opsOf Tryz.f96 1) = aK.T1 := by kernel_rfl
theorem aK.jY : fG aK.T1.2 aK.B1 = true := by kernel_rfl
def aK.T2 : Bool × List (List Nat × List Nat) := (true, [([], []), ([0], [0]), ([1, 1], [1]), ([], []), ([2, 3, 1], [2, 3]), ([], []), ([5, 4], [5]), ([6, 6], [6]), ([], []), ([7, 8, 6], [7, 8]), ([4, 9], [4, 9]), ([], []), ([11, 10, 9, 0, 1, 2, 3, 4, 5, 6, 7, 8, 9, 10, 11], [10, 11])])
def aK.B2 : List Nat := [0, 1, 3, 0, 15, 0, 63, 127, 0, 511, 1023, 0, 4095]
theorem aK.aa7 : fh .any (opsOf Tryz.f96 2) = aK.T2 := by kernel_rfl
theorem aK.Pe : fG aK.T2.2 aK.B2 = true := by kernel_rfl
def aK.T8 : Bool × List (List Nat × List Nat) := (true, [([], []), ([0], [0]), ([1], [1]), ([], []), ([3], [3]), ([4], [4]), ([], []), ([2, 5, 6], [2, 5, 6]), ([7], [7]), ([8], [8]), ([8], [8]), ([9, 7, 0, 1, 2, 3, 4, 5, 6, 7, 8, 9], [9]), ([10, 11, 0, 1, 2, 3, 4, 5, 6, 7, 8, 9, 10, 11], [10])])
def aK.B8 : List Nat := [0, 1, 3, 0, 8, 24, 0, 127, 255, 511, 511, 1023, 4095]
theorem aK.ahF : fh .any (opsOf Tryz.f96 8) = aK.T8 := by kernel_rfl
theorem aK.YC : fG aK.T8.2 aK.B8 = true := by kernel_rfl
def aK.T11 : Bool × List (List Nat × List Nat) := (true, [([], []), ([0], [0]), ([], []), ([2], [2]), ([], []), ([1, 0, 1], [1]), ([3, 5, 0, 1, 2, 3, 5], [3]), ([4, 6, 0, 1, 2, 3, 4, 5, 6], [4])])
def aK.B11 : List Nat := [0, 1, 0, 4, 0, 3, 47, 127]
theorem aK.B9 : fh .any (opsOf Tryz.f96 11) = aK.T11 := by kernel_rfl
theorem aK.vw : fG aK.T11.2 aK.B11 = true := by kernel_rfl
def yF (t : Bool) : Int := if t = true then 1 else 0
theorem NU : yF false = 0 := rfl
theorem NV : yF true = 1 := rfl
section
variable {P : Program} {ops : Array Oper} {o : Oper} {a : Act} {Q : Exit → Act → World → Prop} {Kc : Act → World → Prop}
theorem wk {W w1 : World} (hw : Region.wanted o (yielded ops a.tmps) = true) (hN : o.dst = none) (jP : (execOp a.eval o).run P W = .ok .skip w1) (h : Kc a w1) : if Region.wanted o (yielded ops a.tmps) = true then Oper.wp P o a W Kc Q else Kc (a.put o.dst undef) W := by
 rw [if_pos hw]
 unfold Oper.wp
 rw [jP]
 show Kc (a.put o.dst undef) w1
 rw [hN]
 exact h
end
theorem UZ {W : World} {g : Nat} {t : TypeId} {x0 x1 x2 x3 u0 u1 u2 u3 : Value} (hb : W.heap[g]? = some (.cells #[x0, x1, x2, x3] t (0, 0))) :
  ((((W.setCell ⟨g, 0, none⟩ u0).setCell ⟨g, 1, none⟩ u1).setCell ⟨g, 2, none⟩ u2).setCell ⟨g, 3, none⟩ u3).heap[g]? = some (.cells #[u0, u1, u2, u3] t (0, 0)) ∧ Kept W ((((W.setCell ⟨g, 0, none⟩ u0).setCell ⟨g, 1, none⟩ u1).setCell ⟨g, 2, none⟩ u2).setCell ⟨g, 3, none⟩ u3) (fun k => k = g) := by
 refine ⟨?_, ?_⟩
 ·exact dS (cs := #[u0, u1, u2, x3]) (dS (cs := #[u0, u1, x2, x3]) (dS (cs := #[u0, x1, x2, x3]) (dS (cs := #[x0, x1, x2, x3]) hb 0 u0 rfl) 1 u1 rfl) 2 u2 rfl) 3 u3 rfl
 ·exact Kept.setCell (S := fun k => k = g) (Kept.setCell (S := fun k => k = g) (Kept.setCell (S := fun k => k = g) (Kept.setCell (S := fun k => k = g) (Kept.refl W _) (p := ⟨g, 0, none⟩) (.inl (show g = g from rfl)) u0) (p := ⟨g, 1, none⟩) (.inl (show g = g from rfl)) u1) (p := ⟨g, 2, none⟩) (.inl (show g = g from rfl)) u2) (p := ⟨g, 3, none⟩) (.inl (show g = g from rfl)) u3
theorem U0 {W : World} {g : Nat} {t : TypeId} {x0 x1 u0 u1 : Value} (hb : W.heap[g]? = some (.cells #[x0, x1] t (0, 0))) :
  ((W.setCell ⟨g, 0, none⟩ u0).setCell ⟨g, 1, none⟩ u1).heap[g]? = some (.cells #[u0, u1] t (0, 0)) ∧ Kept W ((W.setCell ⟨g, 0, none⟩ u0).setCell ⟨g, 1, none⟩ u1) (fun k => k = g) := by
 refine ⟨?_, ?_⟩
 ·exact dS (cs := #[u0, x1]) (dS (cs := #[x0, x1]) hb 0 u0 rfl) 1 u1 rfl
 ·exact Kept.setCell (S := fun k => k = g) (Kept.setCell (S := fun k => k = g) (Kept.refl W _) (p := ⟨g, 0, none⟩) (.inl (show g = g from rfl)) u0) (p := ⟨g, 1, none⟩) (.inl (show g = g from rfl)) u1
theorem U1 {w : World} {A : Option Addr} {l : List Int} {g j : Nat} {cs : Array Value} {v : Value} {t : TypeId} (hC : Kd.C (Kd.int .i64) w A l.length l) (hb : w.heap[g]? = some (.cells cs t (0, 0))) (h0 : ∀ u ∈ cs, ∀ x : Int, u ≠ .int .i64 x) : Kd.C (Kd.int .i64) (w.setCell ⟨g, j, none⟩ v) A l.length l := by
 have h := Kd.iG (enc := Value.int .i64) (d := (0 : Int)) (h1 := fun _ => rfl) hC
 refine Kd.ix (enc := Value.int .i64) (d := (0 : Int)) (h1 := fun _ => rfl) ⟨h.1, h.2.1, fun hn => ?_⟩
 obtain ⟨ad, e, hc⟩ := h.2.2 hn
 refine ⟨ad, e, fun i hi => ?_⟩
 have K7 := hc i hi
 have fv : (ad.add i).block ≠ g := by
  intro eb
  unfold World.cell? at K7
  rw [eb, hb] at K7
  simp only at K7
  split at K7
  ·cases K7
  ·exact h0 _ (Array.mem_of_getElem? K7) _ rfl
 rw [← K7]
 exact World.cell?_of_block (Below.heap_setCell w ⟨g, j, none⟩ v _ fv)
theorem apY {w : World} {A : Option Addr} {l : List Int} {c base : Nat} (hC : Kd.C (Kd.int .i64) w A l.length l) (hl : l.length ≤ c) : Kd.V (Kd.int .i64) 3 w base (fun _ => True) (.slice A l.length c) l := Kd.jo hl (Kd.rN (Kd.UK (Kd.ku .i64) hC) (fun _ _ => trivial))
theorem NW {w : World} {A A0 A1 : Option Addr} {l : List Int} {g j c base n0 c0 n1 c1 : Nat} {v : Value} {t : TypeId} (hV : Kd.V (Kd.int .i64) 3 w base (fun _ => True) (.slice A l.length c) l) (hb : w.heap[g]? = some (.cells #[.slice A0 n0 c0, .slice A1 n1 c1] t (0, 0))) : Kd.V (Kd.int .i64) 3 (w.setCell ⟨g, j, none⟩ v) base (fun _ => True) (.slice A l.length c) l := by
 obtain ⟨_, h2, h3⟩ := Kd.bN hV
 exact apY (U1 h3 hb (by intro u hu x e; subst e; simp at hu)) h2
theorem aK.calls (k : Nat) (ay : Option Addr) (ap : Nat) (aD : List (List Int)) (ae : Option Addr) (a8 : Nat) (aG : List (List Int)) (a1 : Int) (r1 : List Int) (r2 : List Int) (r3 : Int) (w : World) (db : Kd.C (Kd.slice 3 (Kd.int .i64)) w ay aD.length aD) (dc : aD.length ≤ ap) (dH : Kd.C (Kd.slice 3 (Kd.int .i64)) w ae aG.length aG) (dI : aG.length ≤ a8) (h : aK.f k aD aG a1 = some (r1, r2, r3)) :
  Calls Tryz.prog 96 #[.agg #[.slice ay aD.length ap, .slice ae aG.length a8], .int .i64 a1] w fun e w' => ∃ iE Ox : Value, e = .returned (.tuple #[iE, Ox, .int .i64 r3]) ∧ Kd.V (Kd.int .i64) 3 w' w.heap.size (fun _ => True) iE r1 ∧ Kd.V (Kd.int .i64) 3 w' w.heap.size (fun _ => True) Ox r2 ∧ Below w.heap.size w w' := by
 have rD := Tryz.underlying28
 have Tr := Tryz.underlying77
 have atQ := Tryz.underlying126
 have atS := Tryz.underlying127
 have bl := Aside0.mk db
 have bz := Aside0.mk dc
 clear db dc
 have bx := Aside0.mk dH
 have cE := Aside0.mk dI
 clear dH dI
 have HB := Aside0.mk (Below.refl w.heap.size w)
 unfold aK.f at h
 replace H := bZ h; obtain ⟨⟨n1, L1⟩, AF1, H⟩ := H; dsimp only at H
 clear h
 replace H := bZ H; obtain ⟨⟨n2, L2⟩, AF2, H⟩ := H; dsimp only at H
 replace H := bZ H; obtain ⟨m, AM, H⟩ := H
 replace H := oo H; obtain ⟨m0, H⟩ := H
 replace H := oo H; obtain ⟨m1, H⟩ := H
 replace H := bZ H; obtain ⟨n, AN, H⟩ := H
 replace H := oo H; obtain ⟨n0, H⟩ := H
 replace H := oo H; obtain ⟨nb, H⟩ := H
 have HA := Aside0.mk H
 clear H
 obtain ⟨xa, hxa⟩ : ∃ z : List Int, z = List.replicate m.toNat (0 : Int) ++ [1] := ⟨_, rfl⟩
 obtain ⟨ya, hya⟩ : ∃ z : List Int, z = List.replicate n.toNat (0 : Int) ++ [1] := ⟨_, rfl⟩
 rw [← hxa, ← hya] at HA
 replace hxa := Aside0.mk hxa
 replace hya := Aside0.mk hya
 replace m0 := Aside0.mk m0
 replace m1 := Aside0.mk m1
 replace n0 := Aside0.mk n0
 replace nb := Aside0.mk nb
 go_enter Tryz.func96, Tryz.ntmps96
 try go_wp2_with (first | ((with_reducible refine ah (N := 2) rfl ?_); refine bE 2 #[.slice ay aD.length ap, .slice ae aG.length a8] 28 ?_; intro gb hg w1 bO hb; have BK := am (bO); replace HB := bS HB hb; clear hb bO hg))
 replace BK := am (az BK.out)
 replace HB := am (bd HB.out)
 refine fA (n := 7) (S := fun w' => True) (ds := []) (Array.replicate 7 false) (by kernel_rfl) rfl rfl trivial (fun ai => ?_); refine cv aK.mc aK.jY (fun ak fz => ?_)
 clear ai
 generalize w1.drew = wq at BK HB ⊢
 refine Pf [0, 1, 2, 3, 4, 5, 6] (fun a0_ b a w' => ∃ (wl : Option Addr) (wm : Nat) (wo : Option Addr) (wu : Nat) (gF : Nat) (E4 : Value), a = fw a0_ b [(0, 14, .agg #[.slice ay aD.length ap, .slice ae aG.length a8]), (1, 15, .agg #[.int .i64 n1, .slice wl L1.length wm]), (2, 16, .agg #[.slice ay aD.length ap, .slice ae aG.length a8]), (3, 17, .agg #[.int .i64 n2, .slice wo L2.length wu]), (4, 18, E4), (5, 7, .pointer (some ⟨gF, 0, none⟩))] ∧ (Below wq.heap.size wq w') ∧ (b 1 = true → Kd.V eB 113 w' 0 (fun k_ => b 5 = true → k_ ≠ gF) (.slice wl L1.length wm) L1) ∧ (b 3 = true → Kd.V eB 113 w' 0 (fun k_ => b 5 = true → k_ ≠ gF) (.slice wo L2.length wu) L2) ∧ (b 5 = true → wq.heap.size ≤ gF ∧ gF < w'.heap.size) ∧ (b 5 = true → b 6 = false → w'.heap[gF]? = some (.cells #[.int .i64 0, .slice none 0 0, .int .i64 0, .slice none 0 0] 126 (0, 0))) ∧ (b 4 = true → E4 = .agg #[.int .i64 n1, .slice wl L1.length wm, .int .i64 n2, .slice wo L2.length wu]) ∧ (b 6 = true → w'.heap[gF]? = some (.cells #[.int .i64 n1, .slice wl L1.length wm, .int .i64 n2, .slice wo L2.length wu] 126 (0, 0)))) ak.out fz.out (by kernel_rfl) (by kernel_rfl) ?_ ?_ ?_
 ·exact ⟨none, 0, none, 0, 0, .bool false, by simp only [fw, Bool.false_eq_true, if_false], Below.refl _ _, fun h_ => absurd h_ (by decide), fun h_ => absurd h_ (by decide), fun h_ => absurd h_ (by decide), fun h_ => absurd h_ (by decide), fun h_ => absurd h_ (by decide), fun h_ => absurd h_ (by decide)⟩
 ·skip
  refine dx ?_ ?_
  ·rintro b a w' ⟨wl, wm, wo, wu, gF, E4, ha, HQ, N1, N3, G5, F5, X4, F6⟩ nt kW ju
   refine ⟨_, rfl, fun K hK => ?_⟩
   have e2 : a.tmps[2]? = some (.pointer (some ⟨gb, 0, none⟩)) := by rw [ha]; exact (kX rfl).trans rfl
   replace ha := Aside0.mk ha
   have Ck := cG (bR BK.out HQ)
   have Cl := cR (bR BK.out HQ)
   refine rP (w1 := w') (v := .agg #[.slice ay aD.length ap, .slice ae aG.length a8]) (by rfl) rfl ?_ ?_
   ·go_simp
    (try simp only [gn])
    try rfl
   refine hK.out _ _ ⟨wl, wm, wo, wu, gF, E4, (by rw [ha.out]; exact eR 0 nt rfl rfl rfl), HQ, N1, N3, G5, F5, X4, F6⟩
  refine dx ?_ ?_
  ·rintro b a w' ⟨wl, wm, wo, wu, gF, E4, ha, HQ, N1, N3, G5, F5, X4, F6⟩ nt kW ju
   refine ⟨_, rfl, fun K hK => ?_⟩
   have e14 : a.tmps[14]? = some (.agg #[.slice ay aD.length ap, .slice ae aG.length a8]) := by rw [ha]; exact eZ (e := (0, 14, .agg #[.slice ay aD.length ap, .slice ae aG.length a8])) 0 rfl rfl (kW 0 (by kernel_rfl)) rfl
   replace ha := Aside0.mk ha
   refine B_ Tryz.func64 (by kernel_rfl) rfl #[.agg #[.slice ay aD.length ap, .slice ae aG.length a8], .int .i64 1] (by rfl) rfl rfl (by first | (simp only [List.map_toArray, List.map_cons, List.map_nil, Act.eval, Array.getD_eq_getD_getElem?, Option.getD_some, e14]; done) | (simp only [List.map_toArray, List.map_cons, List.map_nil, Act.eval, Array.getD_eq_getD_getElem?, Option.getD_some, e14]; rfl)) ?_
   with_reducible refine (aA.calls k _ _ aD _ _ aG 1 n1 L1 _ ?aT ?aU ?ao ?ar AF1.out).mono ?_
   (case aT => exact Kd.bh bl.out (HB.out.trans (HQ.mono HB.out.size)))
   (case aU => exact bz.out)
   (case ao => exact Kd.bh bx.out (HB.out.trans (HQ.mono HB.out.size)))
   (case ar => exact cE.out)
   rintro e w2 ⟨v_, rfl, ho, hb⟩
   obtain ⟨Az, cz, ez⟩ := Kd.da ho
   subst ez
   refine ⟨_, rfl, ?_⟩
   refine hK.out _ _ ⟨Az, cz, wo, wu, gF, E4, (by rw [ha.out]; exact eR 1 nt rfl rfl rfl), HQ.trans (hb.mono HQ.size), fun _ => Kd.af (Kd.PU ho) (fun k_ gH h5_ e_ => by have h6_ := (G5 h5_).2; omega), fun h_ => Kd.cn (N3 h_) hb, fun h_ => ⟨(G5 h_).1, Nat.lt_of_lt_of_le (G5 h_).2 hb.size⟩, fun h_ h2_ => bR (F5 h_ h2_) hb, fun h_ => absurd ((ju 4 (by kernel_rfl)).symm.trans h_) (by decide), fun h_ => absurd ((ju 6 (by kernel_rfl)).symm.trans h_) (by decide)⟩
  refine dx ?_ ?_
  ·rintro b a w' ⟨wl, wm, wo, wu, gF, E4, ha, HQ, N1, N3, G5, F5, X4, F6⟩ nt kW ju
   refine ⟨_, rfl, fun K hK => ?_⟩
   have e2 : a.tmps[2]? = some (.pointer (some ⟨gb, 0, none⟩)) := by rw [ha]; exact (kX rfl).trans rfl
   replace ha := Aside0.mk ha
   have Ck := cG (bR BK.out HQ)
   have Cl := cR (bR BK.out HQ)
   refine rP (w1 := w') (v := .agg #[.slice ay aD.length ap, .slice ae aG.length a8]) (by rfl) rfl ?_ ?_
   ·go_simp
    (try simp only [gn])
    try rfl
   refine hK.out _ _ ⟨wl, wm, wo, wu, gF, E4, (by rw [ha.out]; exact eR 2 nt rfl rfl rfl), HQ, N1, N3, G5, F5, X4, F6⟩
  refine dx ?_ ?_
  ·rintro b a w' ⟨wl, wm, wo, wu, gF, E4, ha, HQ, N1, N3, G5, F5, X4, F6⟩ nt kW ju
   refine ⟨_, rfl, fun K hK => ?_⟩
   have e16 : a.tmps[16]? = some (.agg #[.slice ay aD.length ap, .slice ae aG.length a8]) := by rw [ha]; exact eZ (e := (2, 16, .agg #[.slice ay aD.length ap, .slice ae aG.length a8])) 2 rfl rfl (kW 2 (by kernel_rfl)) rfl
   replace ha := Aside0.mk ha
   refine B_ Tryz.func64 (by kernel_rfl) rfl #[.agg #[.slice ay aD.length ap, .slice ae aG.length a8], .int .i64 2] (by rfl) rfl rfl (by first | (simp only [List.map_toArray, List.map_cons, List.map_nil, Act.eval, Array.getD_eq_getD_getElem?, Option.getD_some, e16]; done) | (simp only [List.map_toArray, List.map_cons, List.map_nil, Act.eval, Array.getD_eq_getD_getElem?, Option.getD_some, e16]; rfl)) ?_
   with_reducible refine (aA.calls k _ _ aD _ _ aG 2 n2 L2 _ ?aT ?aU ?ao ?ar AF2.out).mono ?_
   (case aT => exact Kd.bh bl.out (HB.out.trans (HQ.mono HB.out.size)))
   (case aU => exact bz.out)
   (case ao => exact Kd.bh bx.out (HB.out.trans (HQ.mono HB.out.size)))
   (case ar => exact cE.out)
   rintro e w2 ⟨v_, rfl, ho, hb⟩
   obtain ⟨Az, cz, ez⟩ := Kd.da ho
   subst ez
   refine ⟨_, rfl, ?_⟩
   refine hK.out _ _ ⟨wl, wm, Az, cz, gF, E4, (by rw [ha.out]; exact eR 3 nt rfl rfl rfl), HQ.trans (hb.mono HQ.size), fun h_ => Kd.cn (N1 h_) hb, fun _ => Kd.af (Kd.PU ho) (fun k_ gH h5_ e_ => by have h6_ := (G5 h5_).2; omega), fun h_ => ⟨(G5 h_).1, Nat.lt_of_lt_of_le (G5 h_).2 hb.size⟩, fun h_ h2_ => bR (F5 h_ h2_) hb, fun h_ => absurd ((ju 4 (by kernel_rfl)).symm.trans h_) (by decide), fun h_ => absurd ((ju 6 (by kernel_rfl)).symm.trans h_) (by decide)⟩
  refine dx ?_ ?_
  ·rintro b a w' ⟨wl, wm, wo, wu, gF, E4, ha, HQ, N1, N3, G5, F5, X4, F6⟩ nt kW ju
   refine ⟨_, rfl, fun K hK => ?_⟩
   have e15 : a.tmps[15]? = some (.agg #[.int .i64 n1, .slice wl L1.length wm]) := by rw [ha]; exact eZ (e := (1, 15, .agg #[.int .i64 n1, .slice wl L1.length wm])) 1 rfl rfl (kW 1 (by kernel_rfl)) rfl
   have e17 : a.tmps[17]? = some (.agg #[.int .i64 n2, .slice wo L2.length wu]) := by rw [ha]; exact eZ (e := (3, 17, .agg #[.int .i64 n2, .slice wo L2.length wu])) 3 rfl rfl (kW 3 (by kernel_rfl)) rfl
   replace ha := Aside0.mk ha
   refine rP (w1 := w') (v := .agg #[.int .i64 n1, .slice wl L1.length wm, .int .i64 n2, .slice wo L2.length wu]) (by rfl) rfl ?_ ?_
   ·go_simp
    (try simp only [gn])
    try rfl
   refine hK.out _ _ ⟨wl, wm, wo, wu, gF, (.agg #[.int .i64 n1, .slice wl L1.length wm, .int .i64 n2, .slice wo L2.length wu]), (by rw [ha.out]; exact eR 4 nt rfl rfl rfl), HQ, N1, N3, G5, F5, fun _ => rfl, F6⟩
  refine dx ?_ ?_
  ·rintro b a w' ⟨wl, wm, wo, wu, gF, E4, ha, HQ, N1, N3, G5, F5, X4, F6⟩ nt kW ju
   refine ⟨_, rfl, fun K hK => ?_⟩
   replace ha := Aside0.mk ha
   refine Eb (by rfl) (N := 7) rfl (cs := #[.int .i64 0, .slice none 0 0, .int .i64 0, .slice none 0 0]) (t := 126) ?hr ?_
   (case hr => first | (go_simp; done) | (go_simp; rfl))
   intro g_ hg w2 bO hb
   refine hK.out _ _ ⟨wl, wm, wo, wu, g_, E4, (by rw [ha.out]; exact eR 5 nt rfl rfl rfl), HQ.trans (hb.mono HQ.size), fun h_ => Kd.cn (Kd.af (Kd.K8 (N1 h_)) (fun k_ gH _ e_ => by have h6_ := gH.2; omega)) hb, fun h_ => Kd.cn (Kd.af (Kd.K8 (N3 h_)) (fun k_ gH _ e_ => by have h6_ := gH.2; omega)) hb, fun _ => ⟨by rw [hg]; exact HQ.size, d_ bO⟩, fun _ _ => bO, X4, fun h_ => absurd ((ju 6 (by kernel_rfl)).symm.trans h_) (by decide)⟩
  refine dx ?_ ?_
  ·rintro b a w' ⟨wl, wm, wo, wu, gF, E4, ha, HQ, N1, N3, G5, F5, X4, F6⟩ nt kW ju
   refine ⟨_, rfl, fun K hK => ?_⟩
   have e7 : a.tmps[7]? = some (.pointer (some ⟨gF, 0, none⟩)) := by rw [ha]; exact eZ (e := (5, 7, .pointer (some ⟨gF, 0, none⟩))) 5 rfl rfl (kW 5 (by kernel_rfl)) rfl
   have e18 : a.tmps[18]? = some (E4) := by rw [ha]; exact eZ (e := (4, 18, E4)) 4 rfl rfl (kW 4 (by kernel_rfl)) rfl
   replace ha := Aside0.mk ha
   rw [X4 (kW 4 (by kernel_rfl))] at e18
   have hF := F5 (kW 5 (by kernel_rfl)) nt
   have Af := cG hF
   have kH := cR hF
   have lu := rL hF
   have E5 := ahG hF
   have hf0 := aH hF 0
   have hf1 := aH hF 1
   have hf2 := aH hF 2
   have hf3 := aH hF 3
   obtain ⟨NX, hk⟩ := UZ (u0 := .int .i64 n1) (u1 := .slice wl L1.length wm) (u2 := .int .i64 n2) (u3 := .slice wo L2.length wu) hF
   refine wk (w1 := (((w'.setCell ⟨gF, 0, none⟩ (.int .i64 n1)).setCell ⟨gF, 1, none⟩ (.slice wl L1.length wm)).setCell ⟨gF, 2, none⟩ (.int .i64 n2)).setCell ⟨gF, 3, none⟩ (.slice wo L2.length wu)) (by rfl) rfl ?hr ?_
   (case hr => first | (go_simp; done) | (go_simp; rfl))
   refine hK.out _ _ ⟨wl, wm, wo, wu, gF, E4, (by rw [ha.out]; exact wv (v := undef) rfl), dj (dj (dj (dj HQ (G5 (kW 5 (by kernel_rfl))).1) (G5 (kW 5 (by kernel_rfl))).1) (G5 (kW 5 (by kernel_rfl))).1) (G5 (kW 5 (by kernel_rfl))).1, fun h_ => Kd.Pg (N1 h_) hk (fun k_ gH => gH (kW 5 (by kernel_rfl))), fun h_ => Kd.Pg (N3 h_) hk (fun k_ gH => gH (kW 5 (by kernel_rfl))), fun h_ => ⟨(G5 h_).1, Nat.lt_of_lt_of_le (G5 h_).2 hk.1⟩, fun _ h2_ => absurd ((jv b 6).symm.trans h2_) (by decide), X4, fun _ => NX⟩
  exact Ba
 rintro b a wz1 hX ⟨wl, wm, wo, wu, gF, E4, ha, HQ, N1, N3, G5, F5, X4, F6⟩
 have Ph := hX 0 (by kernel_rfl)
 have NY := hX 1 (by kernel_rfl)
 have Pj := hX 2 (by kernel_rfl)
 have NZ := hX 3 (by kernel_rfl)
 have Hu := hX 4 (by kernel_rfl)
 have Pk := hX 5 (by kernel_rfl)
 have N0 := hX 6 (by kernel_rfl)
 subst ha
 simp only [fw, Ph, NY, Pj, NZ, Hu, Pk, N0, if_true, Act.put, List.setIfInBounds_toArray, List.set_cons_zero, List.set_cons_succ]
 have BF := am (F6 N0)
 have VL1 := am (Kd.af (N1 NY) (fun _ _ => trivial) (ok' := fun _ => True))
 have VL2 := am (Kd.af (N3 NZ) (fun _ _ => trivial) (ok' := fun _ => True))
 replace BK := am (bR BK.out HQ)
 replace HB := am (HB.out.trans (HQ.mono HB.out.size))
 obtain rfl := X4 Hu
 clear X4 F5 F6 N1 N3 G5 HQ hX Ph NY Pj NZ Hu Pk N0
 try go_wp2
 replace BK := am (az BK.out)
 replace BF := am (az BF.out)
 replace VL1 := am (Kd.ee VL1.out)
 replace VL2 := am (Kd.ee VL2.out)
 replace HB := am (bd HB.out)
 refine fA (n := 13) (S := fun w' => True) (ds := []) (Array.replicate 13 false) (by kernel_rfl) rfl rfl trivial (fun ai => ?_); refine cv aK.aa7 aK.Pe (fun ak fz => ?_)
 clear ai
 generalize wz1.drew = wp at BK BF VL1 VL2 HB ⊢
 refine Pf [0, 1, 2, 3, 4, 5, 6, 7, 8, 9, 10, 11, 12] (fun a0_ b a w' => ∃ (v21 : Value) (p8 : Option Addr) (rE : Nat) (p_ : Option Addr) (lg : Nat) (v26 : Value) (pa : Option Addr) (tI : Nat) (oq : Option Addr) (nR : Nat) (kj : Value) (gA : Nat), a = fw a0_ b [(0, 19, .agg #[.slice ay aD.length ap, .slice ae aG.length a8]), (1, 20, .int .i64 m), (2, 21, v21), (3, 22, .slice p8 1 rE), (4, 23, .slice p_ xa.length lg), (5, 24, .agg #[.slice ay aD.length ap, .slice ae aG.length a8]), (6, 25, .int .i64 n), (7, 26, v26), (8, 27, .slice pa 1 tI), (9, 28, .slice oq ya.length nR), (10, 29, kj), (11, 8, .pointer (some ⟨gA, 0, none⟩))] ∧ (Below wp.heap.size wp w') ∧ (b 2 = true → b 4 = false → Kd.R (Kd.int .i64) 3 w' wp.heap.size (fun _ => True) (v21) (List.replicate m.toNat (0 : Int))) ∧ (b 3 = true → b 4 = false → Kd.R (Kd.int .i64) 3 w' wp.heap.size (fun _ => True) (.slice p8 1 rE) [1]) ∧ (b 4 = true → Kd.R (Kd.int .i64) 3 w' wp.heap.size (fun _ => True) (.slice p_ xa.length lg) xa) ∧ (b 7 = true → b 9 = false → Kd.R (Kd.int .i64) 3 w' wp.heap.size (fun _ => True) (v26) (List.replicate n.toNat (0 : Int))) ∧ (b 8 = true → b 9 = false → Kd.R (Kd.int .i64) 3 w' wp.heap.size (fun _ => True) (.slice pa 1 tI) [1]) ∧ (b 9 = true → Kd.R (Kd.int .i64) 3 w' wp.heap.size (fun _ => True) (.slice oq ya.length nR) ya) ∧ (b 2 = true → b 8 = true → b 4 = false → b 9 = false → ∀ k_, (v21 : Value).ownBlock = some k_ → some k_ ≠ (.slice pa 1 tI : Value).ownBlock) ∧ (b 4 = true → b 7 = true → b 9 = false → ∀ k_, (v26 : Value).ownBlock = some k_ → some k_ ≠ (.slice p_ xa.length lg : Value).ownBlock) ∧ (b 10 = true → kj = .agg #[.slice p_ xa.length lg, .slice oq ya.length nR]) ∧ (b 11 = true → wp.heap.size ≤ gA) ∧ (b 11 = true → b 12 = false → w'.heap[gA]? = some (.cells #[.slice none 0 0, .slice none 0 0] 127 (0, 0))) ∧ (b 12 = true → w'.heap[gA]? = some (.cells #[.slice p_ xa.length lg, .slice oq ya.length nR] 127 (0, 0)))) ak.out fz.out (by kernel_rfl) (by kernel_rfl) ?_ ?_ ?_
 ·exact ⟨.bool false, none, 0, none, 0, .bool false, none, 0, none, 0, .bool false, 0, by simp only [fw, Bool.false_eq_true, if_false], Below.refl _ _, fun h_ => absurd h_ (by decide), fun h_ => absurd h_ (by decide), fun h_ => absurd h_ (by decide), fun h_ => absurd h_ (by decide), fun h_ => absurd h_ (by decide), fun h_ => absurd h_ (by decide), fun h_ => absurd h_ (by decide), fun h_ => absurd h_ (by decide), fun h_ => absurd h_ (by decide), fun h_ => absurd h_ (by decide), fun h_ => absurd h_ (by decide), fun h_ => absurd h_ (by decide)⟩
 ·skip
  refine dx ?_ ?_
  ·rintro b a w' ⟨v21, p8, rE, p_, lg, v26, pa, tI, oq, nR, kj, gA, ha, HQ, F2, F3, F4, F7, F8, F9, yG, xc, ww, uD, vZ, yH⟩ nt kW ju
   refine ⟨_, rfl, fun K hK => ?_⟩
   have e2 : a.tmps[2]? = some (.pointer (some ⟨gb, 0, none⟩)) := by rw [ha]; exact (kX rfl).trans rfl
   replace ha := Aside0.mk ha
   have Ck := cG (bR BK.out HQ)
   have Cl := cR (bR BK.out HQ)
   refine rP (w1 := w') (v := .agg #[.slice ay aD.length ap, .slice ae aG.length a8]) (by rfl) rfl ?_ ?_
   ·go_simp
    (try simp only [gn])
    try rfl
   refine hK.out _ _ ⟨v21, p8, rE, p_, lg, v26, pa, tI, oq, nR, kj, gA, (by rw [ha.out]; exact eR 0 nt rfl rfl rfl), HQ, F2, F3, F4, F7, F8, F9, yG, xc, ww, uD, vZ, yH⟩
  refine dx ?_ ?_
  ·rintro b a w' ⟨v21, p8, rE, p_, lg, v26, pa, tI, oq, nR, kj, gA, ha, HQ, F2, F3, F4, F7, F8, F9, yG, xc, ww, uD, vZ, yH⟩ nt kW ju
   refine ⟨_, rfl, fun K hK => ?_⟩
   have e19 : a.tmps[19]? = some (.agg #[.slice ay aD.length ap, .slice ae aG.length a8]) := by rw [ha]; exact eZ (e := (0, 19, .agg #[.slice ay aD.length ap, .slice ae aG.length a8])) 0 rfl rfl (kW 0 (by kernel_rfl)) rfl
   replace ha := Aside0.mk ha
   refine B_ Tryz.func77 (by kernel_rfl) rfl #[.agg #[.slice ay aD.length ap, .slice ae aG.length a8]] (by rfl) rfl rfl (by first | (simp only [List.map_toArray, List.map_cons, List.map_nil, Act.eval, Array.getD_eq_getD_getElem?, Option.getD_some, e19]; done) | (simp only [List.map_toArray, List.map_cons, List.map_nil, Act.eval, Array.getD_eq_getD_getElem?, Option.getD_some, e19]; rfl)) ?_
   with_reducible refine (dU.calls _ _ aD _ _ aG m _ ?aT ?aU ?ao ?ar AM.out).mono ?_
   (case aT => exact Kd.bh bl.out (HB.out.trans (HQ.mono HB.out.size)))
   (case aU => exact bz.out)
   (case ao => exact Kd.bh bx.out (HB.out.trans (HQ.mono HB.out.size)))
   (case ar => exact cE.out)
   rintro e w2 ⟨rfl, hb⟩
   refine ⟨_, rfl, ?_⟩
   refine hK.out _ _ ⟨v21, p8, rE, p_, lg, v26, pa, tI, oq, nR, kj, gA, (by rw [ha.out]; exact eR 1 nt rfl rfl rfl), HQ.trans (hb.mono HQ.size), fun h_ h2_ => Kd.b6 (F2 h_ h2_) hb, fun h_ h2_ => Kd.b6 (F3 h_ h2_) hb, fun h_ => Kd.b6 (F4 h_) hb, fun h_ h2_ => Kd.b6 (F7 h_ h2_) hb, fun h_ h2_ => Kd.b6 (F8 h_ h2_) hb, fun h_ => Kd.b6 (F9 h_) hb, yG, xc, ww, uD, fun h_ h2_ => bR (vZ h_ h2_) hb, fun h_ => bR (yH h_) hb⟩
  refine dx ?_ ?_
  ·rintro b a w' ⟨v21, p8, rE, p_, lg, v26, pa, tI, oq, nR, kj, gA, ha, HQ, F2, F3, F4, F7, F8, F9, yG, xc, ww, uD, vZ, yH⟩ nt kW ju
   refine ⟨_, rfl, fun K hK => ?_⟩
   have e20 : a.tmps[20]? = some (.int .i64 m) := by rw [ha]; exact eZ (e := (1, 20, .int .i64 m)) 1 rfl rfl (kW 1 (by kernel_rfl)) rfl
   replace ha := Aside0.mk ha
   refine Kd.k5 (Kd.int .i64) _ 3 (by rfl) (N := 21) rfl 40 _ _ rfl m (oF e20) (oF e20) Tryz.underlying40 (.int .i64 0) 8 eT rfl (by decide) (by omega) 0 (ok := fun _ => True) (okp := fun _ => True) rfl (fun _ hk => hk) trivial m0.out (Nat.le_trans (Nat.mul_le_mul_right _ m1.out) (by decide)) (Below.refl _ _) (Nat.le_refl _) ?_
   intro v_ w2 ho hb hg aa8
   refine hK.out _ _ ⟨v_, p8, rE, p_, lg, v26, pa, tI, oq, nR, kj, gA, (by rw [ha.out]; exact eR 2 nt rfl rfl rfl), HQ.trans (hb.mono HQ.size), fun _ _ => Kd.cO ho HQ.size, fun h_ h2_ => Kd.b6 (F3 h_ h2_) hb, fun h_ => Kd.b6 (F4 h_) hb, fun h_ h2_ => Kd.b6 (F7 h_ h2_) hb, fun h_ h2_ => Kd.b6 (F8 h_ h2_) hb, fun h_ => Kd.b6 (F9 h_) hb, fun _ h_ _ h9_ k_ e_ e2_ => by have x_ := Kd.bf ho k_ e_; have y_ := Kd.iH (F8 h_ h9_) k_ e2_.symm; omega, xc, ww, uD, fun h_ h2_ => bR (vZ h_ h2_) hb, fun h_ => bR (yH h_) hb⟩
  refine dx ?_ ?_
  ·rintro b a w' ⟨v21, p8, rE, p_, lg, v26, pa, tI, oq, nR, kj, gA, ha, HQ, F2, F3, F4, F7, F8, F9, yG, xc, ww, uD, vZ, yH⟩ nt kW ju
   refine ⟨_, rfl, fun K hK => ?_⟩
   replace ha := Aside0.mk ha
   refine Kd.tE (Kd.int .i64) _ 3 ?hg (N := 22) ?hd (xs := ([1] : List Int)) (inner := [.int .i64 1]) (ok := fun _ => True) (okp := fun _ => True) ?hr ?hp (fun _ hk => hk) trivial (Below.refl _ _) (Nat.le_refl _) (by simp) ?_
   (case hd => rfl)
   (case hg => rfl)
   (case hr => first | (go_simp; done) | (go_simp; rfl))
   (case hp => exact (cV.one (show Kd.M (Kd.int .i64) _ _ _ 1 [.int .i64 1] from rfl) (cV.none _ _)))
   intro v_ w2 ho hb hg aa8
   obtain ⟨Az, cz, ez⟩ := Kd.cH ho
   subst ez
   refine hK.out _ _ ⟨v21, Az, cz, p_, lg, v26, pa, tI, oq, nR, kj, gA, (by rw [ha.out]; exact eR 3 nt rfl rfl rfl), HQ.trans (hb.mono HQ.size), fun h_ h2_ => Kd.b6 (F2 h_ h2_) hb, fun _ _ => Kd.cO ho HQ.size, fun h_ => Kd.b6 (F4 h_) hb, fun h_ h2_ => Kd.b6 (F7 h_ h2_) hb, fun h_ h2_ => Kd.b6 (F8 h_ h2_) hb, fun h_ => Kd.b6 (F9 h_) hb, yG, xc, ww, uD, fun h_ h2_ => bR (vZ h_ h2_) hb, fun h_ => bR (yH h_) hb⟩
  refine dx ?_ ?_
  ·rintro b a w' ⟨v21, p8, rE, p_, lg, v26, pa, tI, oq, nR, kj, gA, ha, HQ, F2, F3, F4, F7, F8, F9, yG, xc, ww, uD, vZ, yH⟩ nt kW ju
   refine ⟨_, rfl, fun K hK => ?_⟩
   have e21 : a.tmps[21]? = some (v21) := by rw [ha]; exact eZ (e := (2, 21, v21)) 2 rfl rfl (kW 2 (by kernel_rfl)) rfl
   have e22 : a.tmps[22]? = some (.slice p8 1 rE) := by rw [ha]; exact eZ (e := (3, 22, .slice p8 1 rE)) 3 rfl rfl (kW 3 (by kernel_rfl)) rfl
   replace ha := Aside0.mk ha
   have jT := F2 (kW 2 (by kernel_rfl)) nt
   have hx_ := F3 (kW 3 (by kernel_rfl)) nt
   refine Kd.kU (Kd.int .i64) (w0 := wp) wp.heap.size (by rfl) (.tmp 21) (.tmp 22) 40 3 (.int .i64 0) 8 rfl Tryz.underlying40 eT rfl (by decide) (by omega) v21 (List.replicate m.toNat (0 : Int)) [1] _ _ _ (fun _ => True) (fun _ => False) (oF e21) (oF e22) jT (Kd.aq hx_).2.2 (fun _ _ h => h) (fun _ h => h.elim) (fun _ _ => trivial) HQ HQ.size ?aL ?_
   (case aL => rw [List.length_replicate]; exact Nat.le_trans (Nat.mul_le_mul_right _ (Nat.add_le_add_right m1.out _)) (by decide))
   intro v_ w2 ho hb hg bk
   rw [← hxa.out] at ho
   obtain ⟨Az, cz, ez⟩ := Kd.cH ho
   subst ez
   refine hK.out _ _ ⟨v21, p8, rE, Az, cz, v26, pa, tI, oq, nR, kj, gA, (by rw [ha.out]; exact eR 4 nt rfl rfl rfl), hb, fun _ h_ => absurd ((jv b 4).symm.trans h_) (by decide), fun _ h_ => absurd ((jv b 4).symm.trans h_) (by decide), fun _ => ho, fun h_ => absurd ((ju 7 (by kernel_rfl)).symm.trans h_) (by decide), fun h_ h9_ => Kd.Ew (F8 h_ h9_) rfl hg (yG (kW 2 (by kernel_rfl)) h_ nt h9_), fun h_ => absurd ((ju 9 (by kernel_rfl)).symm.trans h_) (by decide), fun _ _ h_ => absurd ((jv b 4).symm.trans h_) (by decide), fun _ h_ => absurd ((ju 7 (by kernel_rfl)).symm.trans h_) (by decide), fun h_ => absurd ((ju 10 (by kernel_rfl)).symm.trans h_) (by decide), uD, fun h_ h2_ => di (vZ h_ h2_) hg (Kd.sW jT (vZ h_ h2_) (by decide)), fun h_ => absurd ((ju 12 (by kernel_rfl)).symm.trans h_) (by decide)⟩
  refine dx ?_ ?_
  ·rintro b a w' ⟨v21, p8, rE, p_, lg, v26, pa, tI, oq, nR, kj, gA, ha, HQ, F2, F3, F4, F7, F8, F9, yG, xc, ww, uD, vZ, yH⟩ nt kW ju
   refine ⟨_, rfl, fun K hK => ?_⟩
   have e2 : a.tmps[2]? = some (.pointer (some ⟨gb, 0, none⟩)) := by rw [ha]; exact (kX rfl).trans rfl
   replace ha := Aside0.mk ha
   have Ck := cG (bR BK.out HQ)
   have Cl := cR (bR BK.out HQ)
   refine rP (w1 := w') (v := .agg #[.slice ay aD.length ap, .slice ae aG.length a8]) (by rfl) rfl ?_ ?_
   ·go_simp
    (try simp only [gn])
    try rfl
   refine hK.out _ _ ⟨v21, p8, rE, p_, lg, v26, pa, tI, oq, nR, kj, gA, (by rw [ha.out]; exact eR 5 nt rfl rfl rfl), HQ, F2, F3, F4, F7, F8, F9, yG, xc, ww, uD, vZ, yH⟩
  refine dx ?_ ?_
  ·rintro b a w' ⟨v21, p8, rE, p_, lg, v26, pa, tI, oq, nR, kj, gA, ha, HQ, F2, F3, F4, F7, F8, F9, yG, xc, ww, uD, vZ, yH⟩ nt kW ju
   refine ⟨_, rfl, fun K hK => ?_⟩
   have e24 : a.tmps[24]? = some (.agg #[.slice ay aD.length ap, .slice ae aG.length a8]) := by rw [ha]; exact eZ (e := (5, 24, .agg #[.slice ay aD.length ap, .slice ae aG.length a8])) 5 rfl rfl (kW 5 (by kernel_rfl)) rfl
   replace ha := Aside0.mk ha
   refine B_ Tryz.func78 (by kernel_rfl) rfl #[.agg #[.slice ay aD.length ap, .slice ae aG.length a8]] (by rfl) rfl rfl (by first | (simp only [List.map_toArray, List.map_cons, List.map_nil, Act.eval, Array.getD_eq_getD_getElem?, Option.getD_some, e24]; done) | (simp only [List.map_toArray, List.map_cons, List.map_nil, Act.eval, Array.getD_eq_getD_getElem?, Option.getD_some, e24]; rfl)) ?_
   with_reducible refine (dd.calls _ _ aD _ _ aG n _ ?aT ?aU ?ao ?ar AN.out).mono ?_
   (case aT => exact Kd.bh bl.out (HB.out.trans (HQ.mono HB.out.size)))
   (case aU => exact bz.out)
   (case ao => exact Kd.bh bx.out (HB.out.trans (HQ.mono HB.out.size)))
   (case ar => exact cE.out)
   rintro e w2 ⟨rfl, hb⟩
   refine ⟨_, rfl, ?_⟩
   refine hK.out _ _ ⟨v21, p8, rE, p_, lg, v26, pa, tI, oq, nR, kj, gA, (by rw [ha.out]; exact eR 6 nt rfl rfl rfl), HQ.trans (hb.mono HQ.size), fun h_ h2_ => Kd.b6 (F2 h_ h2_) hb, fun h_ h2_ => Kd.b6 (F3 h_ h2_) hb, fun h_ => Kd.b6 (F4 h_) hb, fun h_ h2_ => Kd.b6 (F7 h_ h2_) hb, fun h_ h2_ => Kd.b6 (F8 h_ h2_) hb, fun h_ => Kd.b6 (F9 h_) hb, yG, xc, ww, uD, fun h_ h2_ => bR (vZ h_ h2_) hb, fun h_ => bR (yH h_) hb⟩
  refine dx ?_ ?_
  ·rintro b a w' ⟨v21, p8, rE, p_, lg, v26, pa, tI, oq, nR, kj, gA, ha, HQ, F2, F3, F4, F7, F8, F9, yG, xc, ww, uD, vZ, yH⟩ nt kW ju
   refine ⟨_, rfl, fun K hK => ?_⟩
   have e25 : a.tmps[25]? = some (.int .i64 n) := by rw [ha]; exact eZ (e := (6, 25, .int .i64 n)) 6 rfl rfl (kW 6 (by kernel_rfl)) rfl
   replace ha := Aside0.mk ha
   refine Kd.k5 (Kd.int .i64) _ 3 (by rfl) (N := 26) rfl 40 _ _ rfl n (oF e25) (oF e25) Tryz.underlying40 (.int .i64 0) 8 eT rfl (by decide) (by omega) 0 (ok := fun _ => True) (okp := fun _ => True) rfl (fun _ hk => hk) trivial n0.out (Nat.le_trans (Nat.mul_le_mul_right _ nb.out) (by decide)) (Below.refl _ _) (Nat.le_refl _) ?_
   intro v_ w2 ho hb hg aa8
   refine hK.out _ _ ⟨v21, p8, rE, p_, lg, v_, pa, tI, oq, nR, kj, gA, (by rw [ha.out]; exact eR 7 nt rfl rfl rfl), HQ.trans (hb.mono HQ.size), fun h_ h2_ => Kd.b6 (F2 h_ h2_) hb, fun h_ h2_ => Kd.b6 (F3 h_ h2_) hb, fun h_ => Kd.b6 (F4 h_) hb, fun _ _ => Kd.cO ho HQ.size, fun h_ h2_ => Kd.b6 (F8 h_ h2_) hb, fun h_ => Kd.b6 (F9 h_) hb, yG, fun h_ _ _ k_ e_ e2_ => by have x_ := Kd.bf ho k_ e_; have y_ := Kd.iH (F4 h_) k_ e2_.symm; omega, ww, uD, fun h_ h2_ => bR (vZ h_ h2_) hb, fun h_ => bR (yH h_) hb⟩
  refine dx ?_ ?_
  ·rintro b a w' ⟨v21, p8, rE, p_, lg, v26, pa, tI, oq, nR, kj, gA, ha, HQ, F2, F3, F4, F7, F8, F9, yG, xc, ww, uD, vZ, yH⟩ nt kW ju
   refine ⟨_, rfl, fun K hK => ?_⟩
   replace ha := Aside0.mk ha
   refine Kd.tE (Kd.int .i64) _ 3 ?hg (N := 27) ?hd (xs := ([1] : List Int)) (inner := [.int .i64 1]) (ok := fun _ => True) (okp := fun _ => True) ?hr ?hp (fun _ hk => hk) trivial (Below.refl _ _) (Nat.le_refl _) (by simp) ?_
   (case hd => rfl)
   (case hg => rfl)
   (case hr => first | (go_simp; done) | (go_simp; rfl))
   (case hp => exact (cV.one (show Kd.M (Kd.int .i64) _ _ _ 1 [.int .i64 1] from rfl) (cV.none _ _)))
   intro v_ w2 ho hb hg aa8
   obtain ⟨Az, cz, ez⟩ := Kd.cH ho
   subst ez
   refine hK.out _ _ ⟨v21, p8, rE, p_, lg, v26, Az, cz, oq, nR, kj, gA, (by rw [ha.out]; exact eR 8 nt rfl rfl rfl), HQ.trans (hb.mono HQ.size), fun h_ h2_ => Kd.b6 (F2 h_ h2_) hb, fun h_ h2_ => Kd.b6 (F3 h_ h2_) hb, fun h_ => Kd.b6 (F4 h_) hb, fun h_ h2_ => Kd.b6 (F7 h_ h2_) hb, fun _ _ => Kd.cO ho HQ.size, fun h_ => Kd.b6 (F9 h_) hb, fun h_ _ h4_ _ k_ e_ e2_ => by have x_ := Kd.bf ho k_ e2_.symm; have y_ := Kd.iH (F2 h_ h4_) k_ e_; omega, xc, ww, uD, fun h_ h2_ => bR (vZ h_ h2_) hb, fun h_ => bR (yH h_) hb⟩
  refine dx ?_ ?_
  ·rintro b a w' ⟨v21, p8, rE, p_, lg, v26, pa, tI, oq, nR, kj, gA, ha, HQ, F2, F3, F4, F7, F8, F9, yG, xc, ww, uD, vZ, yH⟩ nt kW ju
   refine ⟨_, rfl, fun K hK => ?_⟩
   have e26 : a.tmps[26]? = some (v26) := by rw [ha]; exact eZ (e := (7, 26, v26)) 7 rfl rfl (kW 7 (by kernel_rfl)) rfl
   have e27 : a.tmps[27]? = some (.slice pa 1 tI) := by rw [ha]; exact eZ (e := (8, 27, .slice pa 1 tI)) 8 rfl rfl (kW 8 (by kernel_rfl)) rfl
   replace ha := Aside0.mk ha
   have jT := F7 (kW 7 (by kernel_rfl)) nt
   have hx_ := F8 (kW 8 (by kernel_rfl)) nt
   refine Kd.kU (Kd.int .i64) (w0 := wp) wp.heap.size (by rfl) (.tmp 26) (.tmp 27) 40 3 (.int .i64 0) 8 rfl Tryz.underlying40 eT rfl (by decide) (by omega) v26 (List.replicate n.toNat (0 : Int)) [1] _ _ _ (fun _ => True) (fun _ => False) (oF e26) (oF e27) jT (Kd.aq hx_).2.2 (fun _ _ h => h) (fun _ h => h.elim) (fun _ _ => trivial) HQ HQ.size ?aL ?_
   (case aL => rw [List.length_replicate]; exact Nat.le_trans (Nat.mul_le_mul_right _ (Nat.add_le_add_right nb.out _)) (by decide))
   intro v_ w2 ho hb hg bk
   rw [← hya.out] at ho
   obtain ⟨Az, cz, ez⟩ := Kd.cH ho
   subst ez
   refine hK.out _ _ ⟨v21, p8, rE, p_, lg, v26, pa, tI, Az, cz, kj, gA, (by rw [ha.out]; exact eR 9 nt rfl rfl rfl), hb, fun _ h_ => absurd ((kW 4 (by kernel_rfl)).symm.trans h_) (by decide), fun _ h_ => absurd ((kW 4 (by kernel_rfl)).symm.trans h_) (by decide), fun h_ => Kd.Ew (F4 h_) rfl hg (xc h_ (kW 7 (by kernel_rfl)) nt), fun _ h_ => absurd ((jv b 9).symm.trans h_) (by decide), fun _ h_ => absurd ((jv b 9).symm.trans h_) (by decide), fun _ => ho, fun _ _ _ h_ => absurd ((jv b 9).symm.trans h_) (by decide), fun _ _ h_ => absurd ((jv b 9).symm.trans h_) (by decide), fun h_ => absurd ((ju 10 (by kernel_rfl)).symm.trans h_) (by decide), uD, fun h_ h2_ => di (vZ h_ h2_) hg (Kd.sW jT (vZ h_ h2_) (by decide)), fun h_ => absurd ((ju 12 (by kernel_rfl)).symm.trans h_) (by decide)⟩
  refine dx ?_ ?_
  ·rintro b a w' ⟨v21, p8, rE, p_, lg, v26, pa, tI, oq, nR, kj, gA, ha, HQ, F2, F3, F4, F7, F8, F9, yG, xc, ww, uD, vZ, yH⟩ nt kW ju
   refine ⟨_, rfl, fun K hK => ?_⟩
   have e23 : a.tmps[23]? = some (.slice p_ xa.length lg) := by rw [ha]; exact eZ (e := (4, 23, .slice p_ xa.length lg)) 4 rfl rfl (kW 4 (by kernel_rfl)) rfl
   have e28 : a.tmps[28]? = some (.slice oq ya.length nR) := by rw [ha]; exact eZ (e := (9, 28, .slice oq ya.length nR)) 9 rfl rfl (kW 9 (by kernel_rfl)) rfl
   replace ha := Aside0.mk ha
   refine rP (w1 := w') (v := .agg #[.slice p_ xa.length lg, .slice oq ya.length nR]) (by rfl) rfl ?_ ?_
   ·go_simp
    (try simp only [gn])
    try rfl
   refine hK.out _ _ ⟨v21, p8, rE, p_, lg, v26, pa, tI, oq, nR, (.agg #[.slice p_ xa.length lg, .slice oq ya.length nR]), gA, (by rw [ha.out]; exact eR 10 nt rfl rfl rfl), HQ, F2, F3, F4, F7, F8, F9, yG, xc, fun _ => rfl, uD, vZ, yH⟩
  refine dx ?_ ?_
  ·rintro b a w' ⟨v21, p8, rE, p_, lg, v26, pa, tI, oq, nR, kj, gA, ha, HQ, F2, F3, F4, F7, F8, F9, yG, xc, ww, uD, vZ, yH⟩ nt kW ju
   refine ⟨_, rfl, fun K hK => ?_⟩
   replace ha := Aside0.mk ha
   refine Eb (by rfl) (N := 8) rfl (cs := #[.slice none 0 0, .slice none 0 0]) (t := 127) ?hr ?_
   (case hr => first | (go_simp; done) | (go_simp; rfl))
   intro g_ hg w2 bO hb
   refine hK.out _ _ ⟨v21, p8, rE, p_, lg, v26, pa, tI, oq, nR, kj, g_, (by rw [ha.out]; exact eR 11 nt rfl rfl rfl), HQ.trans (hb.mono HQ.size), fun h_ h2_ => Kd.b6 (F2 h_ h2_) hb, fun h_ h2_ => Kd.b6 (F3 h_ h2_) hb, fun h_ => Kd.b6 (F4 h_) hb, fun h_ h2_ => Kd.b6 (F7 h_ h2_) hb, fun h_ h2_ => Kd.b6 (F8 h_ h2_) hb, fun h_ => Kd.b6 (F9 h_) hb, yG, xc, ww, fun _ => by rw [hg]; exact HQ.size, fun _ _ => bO, fun h_ => absurd ((ju 12 (by kernel_rfl)).symm.trans h_) (by decide)⟩
  refine dx ?_ ?_
  ·rintro b a w' ⟨v21, p8, rE, p_, lg, v26, pa, tI, oq, nR, kj, gA, ha, HQ, F2, F3, F4, F7, F8, F9, yG, xc, ww, uD, vZ, yH⟩ nt kW ju
   refine ⟨_, rfl, fun K hK => ?_⟩
   have e8 : a.tmps[8]? = some (.pointer (some ⟨gA, 0, none⟩)) := by rw [ha]; exact eZ (e := (11, 8, .pointer (some ⟨gA, 0, none⟩))) 11 rfl rfl (kW 11 (by kernel_rfl)) rfl
   have e29 : a.tmps[29]? = some (kj) := by rw [ha]; exact eZ (e := (10, 29, kj)) 10 rfl rfl (kW 10 (by kernel_rfl)) rfl
   replace ha := Aside0.mk ha
   rw [ww (kW 10 (by kernel_rfl))] at e29
   have hF := vZ (kW 11 (by kernel_rfl)) nt
   have Af := cG hF
   have kH := cR hF
   have hf0 := aH hF 0
   have hf1 := aH hF 1
   obtain ⟨NX, hk⟩ := U0 (u0 := .slice p_ xa.length lg) (u1 := .slice oq ya.length nR) hF
   refine wk (w1 := (w'.setCell ⟨gA, 0, none⟩ (.slice p_ xa.length lg)).setCell ⟨gA, 1, none⟩ (.slice oq ya.length nR)) (by rfl) rfl ?hr ?_
   (case hr => first | (go_simp; done) | (go_simp; rfl))
   refine hK.out _ _ ⟨v21, p8, rE, p_, lg, v26, pa, tI, oq, nR, kj, gA, (by rw [ha.out]; exact wv (v := undef) rfl), dj (dj HQ (uD (kW 11 (by kernel_rfl)))) (uD (kW 11 (by kernel_rfl))), fun _ h_ => absurd ((kW 4 (by kernel_rfl)).symm.trans h_) (by decide), fun _ h_ => absurd ((kW 4 (by kernel_rfl)).symm.trans h_) (by decide), fun h_ => Kd.bD (Kd.Hv (Kd.dL (F4 h_) hF (by decide)) hk (fun k_ gH => gH.2)) (fun _ _ => trivial), fun _ h_ => absurd ((kW 9 (by kernel_rfl)).symm.trans h_) (by decide), fun _ h_ => absurd ((kW 9 (by kernel_rfl)).symm.trans h_) (by decide), fun h_ => Kd.bD (Kd.Hv (Kd.dL (F9 h_) hF (by decide)) hk (fun k_ gH => gH.2)) (fun _ _ => trivial), yG, xc, ww, uD, fun _ h2_ => absurd ((jv b 12).symm.trans h2_) (by decide), fun _ => NX⟩
  exact Ba
 rintro b a wz2 hX ⟨v21, p8, rE, p_, lg, v26, pa, tI, oq, nR, kj, gA, ha, HQ, F2, F3, F4, F7, F8, F9, yG, xc, ww, uD, vZ, yH⟩
 have Ph := hX 0 (by kernel_rfl)
 have NY := hX 1 (by kernel_rfl)
 have Pj := hX 2 (by kernel_rfl)
 have NZ := hX 3 (by kernel_rfl)
 have Hu := hX 4 (by kernel_rfl)
 have Pk := hX 5 (by kernel_rfl)
 have N0 := hX 6 (by kernel_rfl)
 have ahH := hX 7 (by kernel_rfl)
 have ahI := hX 8 (by kernel_rfl)
 have aa9 := hX 9 (by kernel_rfl)
 have Pl := hX 10 (by kernel_rfl)
 have Pm := hX 11 (by kernel_rfl)
 have Pn := hX 12 (by kernel_rfl)
 subst ha
 simp only [fw, Ph, NY, Pj, NZ, Hu, Pk, N0, ahH, ahI, aa9, Pl, Pm, Pn, if_true, Act.put, List.setIfInBounds_toArray, List.set_cons_zero, List.set_cons_succ]
 have BA := am (yH Pn)
 have V0 := am (Kd.af (Kd.R_V (base' := w.heap.size) (F4 Hu)) (fun _ _ => trivial) (ok' := fun _ => True))
 have V1 := am (Kd.af (Kd.R_V (base' := w.heap.size) (F9 aa9)) (fun _ _ => trivial) (ok' := fun _ => True))
 have GA := am (uD Pm)
 have k7 := am HQ
 obtain rfl := ww Pl
 clear F2 F3 F4 F7 F8 F9 yG xc ww uD vZ yH HQ hX Ph NY Pj NZ Hu Pk N0 ahH ahI aa9 Pl Pm Pn
 have Ck := cG (bR BK.out k7.out)
 have Cl := cR (bR BK.out k7.out)
 go_upto_if 34 with (first | ((with_reducible refine gC 77 rfl ?_); refine gL 33 Tryz.func77 #[.agg #[.slice ay aD.length ap, .slice ae aG.length a8]] ?_; (with_reducible refine (dU.calls _ _ aD _ _ aG m _ ?aT ?aU ?ao ?ar AM.out).mono ?_); (case aT => exact Kd.bh bl.out (HB.out.trans (k7.out.mono HB.out.size))); (case aU => exact bz.out); (case ao => exact Kd.bh bx.out (HB.out.trans (k7.out.mono HB.out.size))); (case ar => exact cE.out); rintro e w3 ⟨rfl, hb⟩; refine ⟨_, rfl, ?_⟩; replace V0 := am (Kd.cn V0.out hb); replace V1 := am (Kd.cn V1.out hb); replace BA := am (bR BA.out hb); replace k7 := am (k7.out.trans (hb.mono k7.out.size)); clear hb))
 (try simp only [Act.put, List.setIfInBounds_toArray, List.set_cons_zero, List.set_cons_succ])
 go_cut [9] (fun v9 wc => ∃ (t : Bool), v9 = .int .i64 (yF t) ∧ Aside0 (t = decide (m ≤ a1)) ∧ Aside0 (Kd.V (Kd.int .i64) 3 wc w.heap.size (fun _ => True) (.slice p_ xa.length lg) xa) ∧ Aside0 (Kd.V (Kd.int .i64) 3 wc w.heap.size (fun _ => True) (.slice oq ya.length nR) ya) ∧ Aside0 (wc.heap[gA]? = some (.cells #[.slice p_ xa.length lg, .slice oq ya.length nR] 127 (0, 0))) ∧ Aside0 (Below wp.heap.size wp wc))
 case first =>
  by_cases c : m ≤ a1
  ·have cb : decide (m ≤ a1) = true := decide_eq_true c
   (first | rw [cb] | (simp only [gn, oG]; rw [cb]) | skip)
   go_wp2
   go_meet
   case rel => exact ⟨true, rfl, ⟨cb.symm⟩, V0, V1, BA, k7⟩
  have cb : decide (m ≤ a1) = false := decide_eq_false c
  (first | rw [cb] | (simp only [gn, oG]; rw [cb]) | skip)
  go_wp2
  go_meet
  case rel => exact ⟨false, rfl, ⟨cb.symm⟩, V0, V1, BA, k7⟩
 case rest =>
  clear Ck Cl V0 V1 BA k7
  obtain ⟨t0, rfl, HT, V0, V1, BA, k7⟩ := hcut
  replace HA := am (show aK.l0 k a1 n1 L1 n2 L2 xa ya t0 a1 1 = some (r1, r2, r3) from by rw [HT.out]; exact HA.out)
  clear HT
  obtain ⟨_, hl1, mN⟩ := Kd.bN VL1.out
  obtain ⟨_, Po, N2⟩ := Kd.bN VL2.out
  replace hl1 := Aside0.mk hl1
  replace Po := Aside0.mk Po
  replace mN := Aside0.mk mN
  replace N2 := Aside0.mk N2
  clear VL1 VL2
  go_wp2
  go_loopg [9, 10, 11] k (fun kq v9 v10 v11 w' => ∃ (t : Bool) (x y : List Int) (d s : Int) (Ax Ay : Option Addr) (cx cy : Nat), v9 = .int .i64 (yF t) ∧ v10 = .int .i64 d ∧ v11 = .int .i64 s ∧ Aside0 (aK.l0 kq a1 n1 L1 n2 L2 x y t d s = some (r1, r2, r3)) ∧ Aside0 (kq ≤ k) ∧ Aside0 (Kd.V (Kd.int .i64) 3 w' w.heap.size (fun _ => True) (.slice Ax x.length cx) x) ∧ Aside0 (Kd.V (Kd.int .i64) 3 w' w.heap.size (fun _ => True) (.slice Ay y.length cy) y) ∧ Aside0 (w'.heap[gA]? = some (.cells #[.slice Ax x.length cx, .slice Ay y.length cy] 127 (0, 0))) ∧ Aside0 (Below wp.heap.size wp w'))
  case atStart => exact ⟨t0, xa, ya, a1, 1, p_, oq, lg, nR, rfl, rfl, rfl, HA, ⟨Nat.le_refl _⟩, V0, V1, BA, k7⟩
  case round =>
   clear HA V0 V1 BA k7
   obtain ⟨t, x, y, d, s, Ax, Ay, cx, cy, rfl, rfl, rfl, HA, HK, V0, V1, BA, k7⟩ := hrel
   cases gk with
   | zero => exact absurd HA.out (by simp [aK.l0])
   | succ k2 =>
    have H := HA.out
    clear HA
    simp only [aK.l0] at H
    cases t
    ·simp only [Bool.false_eq_true, if_false] at H
     replace H := bZ H; obtain ⟨⟨nx, own⟩, AL, H⟩ := H; dsimp only at H
     replace H := Aside0.mk H
     (try simp only [NU])
     try go_wp2
     replace BA := am (az BA.out)
     replace V0 := am (Kd.ee V0.out)
     replace V1 := am (Kd.ee V1.out)
     replace k7 := am (bd k7.out)
     refine fA (n := 13) (S := fun w' => w'.cell? ⟨gF, 0, none⟩ = some (.int .i64 n1) ∧ w'.cell? ⟨gF, 1, none⟩ = some (.slice wl L1.length wm) ∧ w'.cell? ⟨gA, 0, none⟩ = some (.slice Ax x.length cx)) (ds := []) (Array.replicate 13 false) (by kernel_rfl) rfl rfl ⟨(aQ (bR BF.out k7.out) 0).trans rfl, (aQ (bR BF.out k7.out) 1).trans rfl, (aQ BA.out 0).trans rfl⟩ (fun ai => ?_); refine cv aK.ahF aK.YC (fun ak fz => ?_)
     generalize wr.drew = w4 at BA V0 V1 k7 ai ⊢
     refine pY 0 38 ak ?_
     refine pY 1 39 ak ?_
     refine tY 2 40 ak fz ai ?_
     refine pY 3 41 ak ?_
     refine pY 4 42 ak ?_
     refine tY 5 43 ak fz ai ?_
     refine pY 6 44 ak ?_
     refine oY 7 45 ak (fun K hK => ?_)
     refine gY Tryz.func147 #[.agg #[.int .i64 n1, .slice wl L1.length wm], .slice Ax x.length cx, .int .i64 d] ?_
     with_reducible refine (aN.calls k2 n1 _ _ L1 _ _ x d nx own _ ?aT ?aU ?ao ?ar AL.out).mono ?_
     (case aT => exact Kd.bh mN.out k7.out)
     (case aU => exact hl1.out)
     (case ao => exact (Kd.bN V0.out).2.2)
     (case ar => exact (Kd.bN V0.out).2.1)
     rintro e w5 ⟨v_, rfl, ho, hb⟩
     obtain ⟨Az, cz, ez⟩ := Kd.lh ho
     subst ez
     refine ⟨_, rfl, ?_⟩
     replace V0 := am (Kd.cn V0.out hb)
     replace V1 := am (Kd.cn V1.out hb)
     replace BA := am (bR BA.out hb)
     have VN := am (Kd.mi ho (base' := w.heap.size) (aC (HB.out.trans (k7.out.mono HB.out.size))))
     replace k7 := am (k7.out.trans (hb.mono k7.out.size))
     clear hb ho
     refine hK.out _ _ ⟨(aQ (bR BF.out k7.out) 0).trans rfl, (aQ (bR BF.out k7.out) 1).trans rfl, (aQ BA.out 0).trans rfl⟩ (fun ai => ?_)
     clear hK K
     refine nY 45 ?_
     refine pY 8 37 ak ?_
     refine pY 9 46 ak ?_
     refine pY 10 47 ak ?_
     refine pY 11 12 ak ?_
     refine pY 12 13 ak ?_
     refine dY ak ?_
     have Ck := cG BA.out
     have Cl := cR BA.out
     have aa_ := aH BA.out 0
     have aa' := aH BA.out 1
     go_upto_region 10 with (fail)
     clear Ck Cl aa_ aa'
     replace V0 := am (NW (j := 0) (v := .slice Az nx.length cz) V0.out BA.out)
     replace V1 := am (NW (j := 0) (v := .slice Az nx.length cz) V1.out BA.out)
     replace VN := am (NW (j := 0) (v := .slice Az nx.length cz) VN.out BA.out)
     replace BA := am (dS (cs' := #[.slice Az nx.length cz, .slice Ay y.length cy]) BA.out 0 (.slice Az nx.length cz) rfl)
     replace k7 := am (dj (g := gA) (j := 0) (v := .slice Az nx.length cz) k7.out GA.out)
     generalize (w5.setCell ⟨gA, 0, none⟩ (.slice Az nx.length cz)) = w6 at V0 V1 VN BA k7 ⊢
     replace H := H.out
     by_cases c1 : own = a1
     ·rw [if_pos c1] at H
      have aba := il c1
      have abb := im c1
      clear c1
      simp only [Option.some.injEq, Prod.mk.injEq] at H
      obtain ⟨rfl, rfl, rfl⟩ := H
      go_wp2
      replace BA := am (az BA.out)
      replace V0 := am (Kd.ee V0.out)
      replace V1 := am (Kd.ee V1.out)
      replace VN := am (Kd.ee VN.out)
      replace k7 := am (bd k7.out)
      refine fA (n := 8) (S := fun w' => w'.cell? ⟨gA, 0, none⟩ = some (.slice Az nx.length cz) ∧ w'.cell? ⟨gA, 1, none⟩ = some (.slice Ay y.length cy)) (ds := []) (Array.replicate 8 false) (by kernel_rfl) rfl rfl ⟨(aQ BA.out 0).trans rfl, (aQ BA.out 1).trans rfl⟩ (fun ai => ?_); refine cv aK.B9 aK.vw (fun ak fz => ?_)
      generalize w6.drew = w7 at BA V0 V1 VN k7 ai ⊢
      refine pY 0 58 ak ?_
      refine tY 1 59 ak fz ai ?_
      refine pY 2 60 ak ?_
      refine tY 3 61 ak fz ai ?_
      refine pY 4 62 ak ?_
      refine pY 5 4 ak ?_
      refine pY 6 5 ak ?_
      refine pY 7 6 ak ?_
      refine dY ak ?_
      try go_wp2
      go_ret3
      exact ⟨_, _, jC, VN.out, V1.out, HB.out.trans (k7.out.mono HB.out.size)⟩
     rw [if_neg c1] at H
     have aba := iQ c1
     have abb := iR c1
     clear c1
     by_cases c2 : s > 1000
     rotate_left
     ·rw [if_neg c2] at H
      have uE : decide (1000 < s) = false := decide_eq_false c2
      clear c2
      have H' := Aside0.mk H
      clear H
      go_wp2
      go_roundg k2
      case measure => have := HK.out; omega
      case rel => exact ⟨true, nx, y, own, wrap64 (s + 1), Az, Ay, cz, cy, dM, dM, dM, H', ⟨by have := HK.out; omega⟩, VN, V1, BA, k7⟩
     rw [if_pos c2] at H
     have uE : decide (1000 < s) = true := decide_eq_true c2
     clear c2
     simp only [Option.some.injEq, Prod.mk.injEq] at H
     obtain ⟨rfl, rfl, rfl⟩ := H
     go_wp2
     replace BA := am (az BA.out)
     replace V0 := am (Kd.ee V0.out)
     replace V1 := am (Kd.ee V1.out)
     replace VN := am (Kd.ee VN.out)
     replace k7 := am (bd k7.out)
     refine fA (n := 8) (S := fun w' => w'.cell? ⟨gA, 0, none⟩ = some (.slice Az nx.length cz) ∧ w'.cell? ⟨gA, 1, none⟩ = some (.slice Ay y.length cy)) (ds := []) (Array.replicate 8 false) (by kernel_rfl) rfl rfl ⟨(aQ BA.out 0).trans rfl, (aQ BA.out 1).trans rfl⟩ (fun ai => ?_); refine cv aK.B9 aK.vw (fun ak fz => ?_)
     generalize w6.drew = w7 at BA V0 V1 VN k7 ai ⊢
     refine pY 0 58 ak ?_
     refine tY 1 59 ak fz ai ?_
     refine pY 2 60 ak ?_
     refine tY 3 61 ak fz ai ?_
     refine pY 4 62 ak ?_
     refine pY 5 4 ak ?_
     refine pY 6 5 ak ?_
     refine pY 7 6 ak ?_
     refine dY ak ?_
     try go_wp2
     go_ret3
     exact ⟨_, _, jC, VN.out, V1.out, HB.out.trans (k7.out.mono HB.out.size)⟩
    ·simp only [if_true] at H
     replace H := bZ H; obtain ⟨⟨nx, own⟩, AL, H⟩ := H; dsimp only at H
     replace H := Aside0.mk H
     (try simp only [NV])
     try go_wp2
     replace BA := am (az BA.out)
     replace V0 := am (Kd.ee V0.out)
     replace V1 := am (Kd.ee V1.out)
     replace k7 := am (bd k7.out)
     refine fA (n := 13) (S := fun w' => w'.cell? ⟨gF, 2, none⟩ = some (.int .i64 n2) ∧ w'.cell? ⟨gF, 3, none⟩ = some (.slice wo L2.length wu) ∧ w'.cell? ⟨gA, 1, none⟩ = some (.slice Ay y.length cy)) (ds := []) (Array.replicate 13 false) (by kernel_rfl) rfl rfl ⟨(aQ (bR BF.out k7.out) 2).trans rfl, (aQ (bR BF.out k7.out) 3).trans rfl, (aQ BA.out 1).trans rfl⟩ (fun ai => ?_); refine cv aK.ahF aK.YC (fun ak fz => ?_)
     generalize wr.drew = w4 at BA V0 V1 k7 ai ⊢
     refine pY 0 38 ak ?_
     refine pY 1 39 ak ?_
     refine tY 2 40 ak fz ai ?_
     refine pY 3 41 ak ?_
     refine pY 4 42 ak ?_
     refine tY 5 43 ak fz ai ?_
     refine pY 6 44 ak ?_
     refine oY 7 45 ak (fun K hK => ?_)
     refine gY Tryz.func147 #[.agg #[.int .i64 n2, .slice wo L2.length wu], .slice Ay y.length cy, .int .i64 d] ?_
     with_reducible refine (aN.calls k2 n2 _ _ L2 _ _ y d nx own _ ?aT ?aU ?ao ?ar AL.out).mono ?_
     (case aT => exact Kd.bh N2.out k7.out)
     (case aU => exact Po.out)
     (case ao => exact (Kd.bN V1.out).2.2)
     (case ar => exact (Kd.bN V1.out).2.1)
     rintro e w5 ⟨v_, rfl, ho, hb⟩
     obtain ⟨Az, cz, ez⟩ := Kd.lh ho
     subst ez
     refine ⟨_, rfl, ?_⟩
     replace V0 := am (Kd.cn V0.out hb)
     replace V1 := am (Kd.cn V1.out hb)
     replace BA := am (bR BA.out hb)
     have VN := am (Kd.mi ho (base' := w.heap.size) (aC (HB.out.trans (k7.out.mono HB.out.size))))
     replace k7 := am (k7.out.trans (hb.mono k7.out.size))
     clear hb ho
     refine hK.out _ _ ⟨(aQ (bR BF.out k7.out) 2).trans rfl, (aQ (bR BF.out k7.out) 3).trans rfl, (aQ BA.out 1).trans rfl⟩ (fun ai => ?_)
     clear hK K
     refine nY 45 ?_
     refine pY 8 37 ak ?_
     refine pY 9 46 ak ?_
     refine pY 10 47 ak ?_
     refine pY 11 12 ak ?_
     refine pY 12 13 ak ?_
     refine dY ak ?_
     have Ck := cG BA.out
     have Cl := cR BA.out
     have aa_ := aH BA.out 0
     have aa' := aH BA.out 1
     go_upto_region 10 with (fail)
     clear Ck Cl aa_ aa'
     replace V0 := am (NW (j := 1) (v := .slice Az nx.length cz) V0.out BA.out)
     replace V1 := am (NW (j := 1) (v := .slice Az nx.length cz) V1.out BA.out)
     replace VN := am (NW (j := 1) (v := .slice Az nx.length cz) VN.out BA.out)
     replace BA := am (dS (cs' := #[.slice Ax x.length cx, .slice Az nx.length cz]) BA.out 1 (.slice Az nx.length cz) rfl)
     replace k7 := am (dj (g := gA) (j := 1) (v := .slice Az nx.length cz) k7.out GA.out)
     generalize (w5.setCell ⟨gA, 1, none⟩ (.slice Az nx.length cz)) = w6 at V0 V1 VN BA k7 ⊢
     replace H := H.out
     by_cases c1 : own = a1
     ·rw [if_pos c1] at H
      have aba := il c1
      have abb := im c1
      clear c1
      simp only [Option.some.injEq, Prod.mk.injEq] at H
      obtain ⟨rfl, rfl, rfl⟩ := H
      go_wp2
      replace BA := am (az BA.out)
      replace V0 := am (Kd.ee V0.out)
      replace V1 := am (Kd.ee V1.out)
      replace VN := am (Kd.ee VN.out)
      replace k7 := am (bd k7.out)
      refine fA (n := 8) (S := fun w' => w'.cell? ⟨gA, 0, none⟩ = some (.slice Ax x.length cx) ∧ w'.cell? ⟨gA, 1, none⟩ = some (.slice Az nx.length cz)) (ds := []) (Array.replicate 8 false) (by kernel_rfl) rfl rfl ⟨(aQ BA.out 0).trans rfl, (aQ BA.out 1).trans rfl⟩ (fun ai => ?_); refine cv aK.B9 aK.vw (fun ak fz => ?_)
      generalize w6.drew = w7 at BA V0 V1 VN k7 ai ⊢
      refine pY 0 58 ak ?_
      refine tY 1 59 ak fz ai ?_
      refine pY 2 60 ak ?_
      refine tY 3 61 ak fz ai ?_
      refine pY 4 62 ak ?_
      refine pY 5 4 ak ?_
      refine pY 6 5 ak ?_
      refine pY 7 6 ak ?_
      refine dY ak ?_
      try go_wp2
      go_ret3
      exact ⟨_, _, jC, V0.out, VN.out, HB.out.trans (k7.out.mono HB.out.size)⟩
     rw [if_neg c1] at H
     have aba := iQ c1
     have abb := iR c1
     clear c1
     by_cases c2 : s > 1000
     rotate_left
     ·rw [if_neg c2] at H
      have uE : decide (1000 < s) = false := decide_eq_false c2
      clear c2
      have H' := Aside0.mk H
      clear H
      go_wp2
      go_roundg k2
      case measure => have := HK.out; omega
      case rel => exact ⟨false, x, nx, own, wrap64 (s + 1), Ax, Az, cx, cz, dM, dM, dM, H', ⟨by have := HK.out; omega⟩, V0, VN, BA, k7⟩
     rw [if_pos c2] at H
     have uE : decide (1000 < s) = true := decide_eq_true c2
     clear c2
     simp only [Option.some.injEq, Prod.mk.injEq] at H
     obtain ⟨rfl, rfl, rfl⟩ := H
     go_wp2
     replace BA := am (az BA.out)
     replace V0 := am (Kd.ee V0.out)
     replace V1 := am (Kd.ee V1.out)
     replace VN := am (Kd.ee VN.out)
     replace k7 := am (bd k7.out)
     refine fA (n := 8) (S := fun w' => w'.cell? ⟨gA, 0, none⟩ = some (.slice Ax x.length cx) ∧ w'.cell? ⟨gA, 1, none⟩ = some (.slice Az nx.length cz)) (ds := []) (Array.replicate 8 false) (by kernel_rfl) rfl rfl ⟨(aQ BA.out 0).trans rfl, (aQ BA.out 1).trans rfl⟩ (fun ai => ?_); refine cv aK.B9 aK.vw (fun ak fz => ?_)
     generalize w6.drew = w7 at BA V0 V1 VN k7 ai ⊢
     refine pY 0 58 ak ?_
     refine tY 1 59 ak fz ai ?_
     refine pY 2 60 ak ?_
     refine tY 3 61 ak fz ai ?_
     refine pY 4 62 ak ?_
     refine pY 5 4 ak ?_
     refine pY 6 5 ak ?_
     refine pY 7 6 ak ?_
     refine dY ak ?_
     try go_wp2
     go_ret3
     exact ⟨_, _, jC, V0.out, VN.out, HB.out.trans (k7.out.mono HB.out.size)⟩
end Go.Proofs.YtggiicplcglalaaGreat.All
end
section
namespace Go.Proofs.YtggiicplcglalaaGreat.All
open Go.RowKit YtggiicplcglalaaGreatW.PrintWords YtggiicplcglalaaGreatW.PrintLast YtggiicplcglalaaGreatW.PrintMore
attribute [local go_sem] max2_int min2_int max_two min_two max_three min_three max_four min_four
set_option linter.unusedVariables false
set_option linter.unusedSimpArgs false
set_option maxHeartbeats 8000000
set_option maxRecDepth 100000
def dQ.f (k : Nat) (aD : List (List Int)) (aG : List (List Int)) (a1 : Int) : Option (Int × Bool) := (bn.f k aD aG a1).bind fun Pp => (if Pp = true then ((aK.f k aD aG a1).bind fun Pq => (some (Pq.2.2, true))) else (some (0, false)))
theorem dQ.mono : ∀ a0 a1 a2 k, bB (dQ.f k a0 a1 a2) (dQ.f (k + 1) a0 a1 a2) := by
 intro a0 a1 a2 k
 unfold dQ.f
 repeat' first
   | (with_reducible exact aK.mono ..)
   | (with_reducible exact bn.mono ..)
   | (with_reducible exact bB.refl _)
   | (with_reducible exact bB.none _)
   | (with_reducible refine bB.ite ?_ ?_)
   | (with_reducible refine bB.bind ?_ (fun _ => ?_))
theorem dQ.calls (k : Nat) (ay : Option Addr) (ap : Nat) (aD : List (List Int)) (ae : Option Addr) (a8 : Nat) (aG : List (List Int)) (a1 : Int) (r1 : Int) (r2 : Bool) (w : World) (db : Kd.C (Kd.slice 3 (Kd.int .i64)) w ay aD.length aD) (dc : aD.length ≤ ap) (dH : Kd.C (Kd.slice 3 (Kd.int .i64)) w ae aG.length aG) (dI : aG.length ≤ a8) (h : dQ.f k aD aG a1 = some (r1, r2)) :
  Calls Tryz.prog 37 #[.agg #[.slice ay aD.length ap, .slice ae aG.length a8], .int .i64 a1] w fun e w' => e = .returned (.tuple #[.int .i64 r1, .bool r2]) ∧ Below w.heap.size w w' := by
 have rD := Tryz.underlying28
 have bl := Aside0.mk db
 have bz := Aside0.mk dc
 clear db dc
 have bx := Aside0.mk dH
 have cE := Aside0.mk dI
 clear dH dI
 have HB := Aside0.mk (Below.refl w.heap.size w)
 have H : ((bn.f k aD aG a1).bind fun Pp => (if Pp = true then ((aK.f k aD aG a1).bind fun Pq => (some (Pq.2.2, true))) else (some (0, false)))) = some (r1, r2) := h
 clear h
 replace H := bZ H; obtain ⟨Pp, A3, H⟩ := H
 by_cases c4 : Pp = true
 rotate_left
 ·replace c4 := Bool.eq_false_iff.mpr c4
  subst c4
  replace H := sZ H
  simp only [Option.some.injEq, Prod.mk.injEq] at H
  obtain ⟨rfl, rfl⟩ := H
  go_enter Tryz.func37, Tryz.ntmps37
  go_wp2_with (first | ((with_reducible refine ah (N := 2) rfl ?_); refine bE 2 #[.slice ay aD.length ap, .slice ae aG.length a8] 28 ?_; intro ahJ hg tu bO hb; have ky := am (bO); have Pr := gW HB hg; have ahK := Pr; replace HB := bS HB hb; clear hb bO hg; have tv := cG ky.out; have tw := cR ky.out; have tx := aH ky.out 0; have tz := aH ky.out 1) | ((with_reducible refine gC 95 rfl ?_); refine gL 11 Tryz.func95 #[.agg #[.slice ay aD.length ap, .slice ae aG.length a8], .int .i64 a1] ?_; (with_reducible refine (bn.calls k _ _ aD _ _ aG a1 false _ ?aT ?aU ?ao ?ar A3.out).mono ?_); (case aT => exact cB bl HB); (case aU => exact bz.out); (case ao => exact cB bx HB); (case ar => exact cE.out); rintro e E2 ⟨rfl, hb⟩; refine ⟨_, rfl, ?_⟩; replace ky := kS ky hb; replace HB := bS HB hb; (try clear hb)))
  go_ret2
  exact ⟨jC, mb HB.out⟩
 subst c4
 replace H := sY H
 replace H := bZ H; obtain ⟨⟨apZ, ap0, ap1⟩, A5, H⟩ := H; dsimp only at H
 simp only [Option.some.injEq, Prod.mk.injEq] at H
 obtain ⟨rfl, rfl⟩ := H
 go_enter Tryz.func37, Tryz.ntmps37
 go_wp2_with (first | ((with_reducible refine ah (N := 2) rfl ?_); refine bE 2 #[.slice ay aD.length ap, .slice ae aG.length a8] 28 ?_; intro ahJ hg w6 bO hb; have ky := am (bO); have Pr := gW HB hg; have ahK := Pr; replace HB := bS HB hb; clear hb bO hg; have abc := cG ky.out; have abd := cR ky.out; have abe := aH ky.out 0; have abf := aH ky.out 1) | ((with_reducible refine gC 95 rfl ?_); refine gL 11 Tryz.func95 #[.agg #[.slice ay aD.length ap, .slice ae aG.length a8], .int .i64 a1] ?_; (with_reducible refine (bn.calls k _ _ aD _ _ aG a1 true _ ?aT ?aU ?ao ?ar A3.out).mono ?_); (case aT => exact cB bl HB); (case aU => exact bz.out); (case ao => exact cB bx HB); (case ar => exact cE.out); rintro e w8 ⟨rfl, hb⟩; refine ⟨_, rfl, ?_⟩; replace ky := kS ky hb; replace HB := bS HB hb; (try clear hb); have vx := cG ky.out; have vy := cR ky.out; have vz := aH ky.out 0; have wA := aH ky.out 1) | ((with_reducible refine gC 96 rfl ?_); refine gL 16 Tryz.func96 #[.agg #[.slice ay aD.length ap, .slice ae aG.length a8], .int .i64 a1] ?_; (with_reducible refine (aK.calls k _ _ aD _ _ aG a1 apZ ap0 ap1 _ ?aT ?aU ?ao ?ar A5.out).mono ?_); (case aT => exact cB bl HB); (case aU => exact bz.out); (case ao => exact cB bx HB); (case ar => exact cE.out); rintro e BZ ⟨v452, v455, rfl, cC, vo, hb⟩; refine ⟨_, rfl, ?_⟩; have atT := am (Kd.mi cC (aC (mb HB.out))); have atU := am (Kd.mi vo (aC (mb HB.out))); replace ky := kS ky hb; replace HB := bS HB hb; (try clear hb cC vo)))
 go_ret2
 exact ⟨jC, mb HB.out⟩
def ek.f (a0 : Int) (a1 : Int) (a2 : Int) : Option (Bool) := if a0 ≥ a1 then (some (decide (a0 ≤ a2))) else (some false)
theorem ek.calls (a0 : Int) (a1 : Int) (a2 : Int) (r : Bool) (w : World) (h : ek.f a0 a1 a2 = some r) :
  Calls Tryz.prog 103 #[.int .i64 a0, .int .i64 a1, .int .i64 a2] w fun e w' => e = .returned (.bool r) ∧ bM w w' := by
 have H : (if a0 ≥ a1 then (some (decide (a0 ≤ a2))) else (some false)) = some r := h
 clear h
 by_cases c4 : a0 ≥ a1
 ·rw [if_pos c4] at H
  have iI : decide (a1 ≤ a0) = true := decide_eq_true c4
  clear c4
  obtain rfl := Option.some.inj H
  go_enter Tryz.func103, Tryz.ntmps103
  go_wp2
  go_ret
  exact ⟨mL, mM⟩
 rw [if_neg c4] at H
 have iI : decide (a1 ≤ a0) = false := decide_eq_false c4
 clear c4
 obtain rfl := Option.some.inj H
 go_enter Tryz.func103, Tryz.ntmps103
 go_wp2
 go_ret
 exact ⟨mL, mM⟩
def cQ.l0 : Nat → Int → Int → List Int → Int → Int → Option (Bool)
 | 0, _, _, _, _, _ => none
 | k + 1, x1, x2, x9, iM, jd => if jd < iM then (if 0 ≤ jd then (if jd < (x9.length : Int) then ((ek.f (rd x9 jd) x1 x2).bind fun abg => (if abg = true then (cQ.l0 k x1 x2 x9 iM (wrap64 (jd + 1))) else (some false))) else (none)) else (none)) else (some true)
def cQ.f (k : Nat) (l0 : List Int) (a1 : Int) (a2 : Int) : Option (Bool) := cQ.l0 k a1 a2 l0 (l0.length : Int) 0
theorem cQ.bG : ∀ k, (∀ y0 y1 y2 y3 y4, bB (cQ.l0 k y0 y1 y2 y3 y4) (cQ.l0 (k + 1) y0 y1 y2 y3 y4))
 | 0 => fun _ _ _ _ _ r h => by simp [cQ.l0] at h
 | k + 1 => by
  have eQ := cQ.bG k
  ·intro y0 y1 y2 y3 y4
   unfold cQ.l0
   repeat' first
   | (with_reducible exact eQ ..)
   | (with_reducible exact bB.refl _)
   | (with_reducible exact bB.none _)
   | (with_reducible refine bB.ite ?_ ?_)
   | (with_reducible refine bB.bind ?_ (fun _ => ?_))
theorem cQ.mono : ∀ a0 a1 a2 k, bB (cQ.f k a0 a1 a2) (cQ.f (k + 1) a0 a1 a2) := by
 intro a0 a1 a2 k
 have eQ := cQ.bG k
 unfold cQ.f
 repeat' first
   | (with_reducible exact eQ ..)
   | (with_reducible exact bB.refl _)
   | (with_reducible exact bB.none _)
   | (with_reducible refine bB.ite ?_ ?_)
   | (with_reducible refine bB.bind ?_ (fun _ => ?_))
theorem cQ.calls (k : Nat) (A0 : Option Addr) (c0 : Nat) (l0 : List Int) (a1 : Int) (a2 : Int) (r : Bool) (w : World) (gD : Kd.C (Kd.int .i64) w A0 l0.length l0) (hJ : l0.length ≤ c0) (h : cQ.f k l0 a1 a2 = some r) :
  Calls Tryz.prog 154 #[.slice A0 l0.length c0, .int .i64 a1, .int .i64 a2] w fun e w' => e = .returned (.bool r) ∧ bM w w' := by
 have jt := Aside0.mk gD
 have wj := Aside0.mk hJ
 clear gD hJ
 have H : (cQ.l0 k a1 a2 l0 (l0.length : Int) 0) = some r := h
 clear h
 have H' := Aside0.mk H
 clear H
 go_enter Tryz.func154, Tryz.ntmps154
 go_wp2
 go_loopg [11] k (fun kq v11 w' => ∃ (bj : Int), v11 = .int .i64 bj ∧ Aside0 (cQ.l0 kq a1 a2 l0 (l0.length : Int) bj = some r) ∧ Aside0 (kq ≤ k) ∧ bM w w')
 case atStart => exact ⟨(0), dM, H', ⟨Nat.le_refl _⟩, by repeat (first | exact bM.refl _ | apply bM.step)⟩
 case round =>
  clear H'
  obtain ⟨bj, rfl, HA, dP, ⟨m1, rfl⟩⟩ := hrel
  cases gk with
  | zero => exact absurd HA.out (by simp [cQ.l0])
  | succ k1 =>
   have H := HA.out
   clear HA
   simp only [cQ.l0] at H
   by_cases c4 : bj < (l0.length : Int)
   rotate_left
   ·rw [if_neg c4] at H
    have iI := decide_eq_false c4
    clear c4
    obtain rfl := Option.some.inj H
    go_wp2
    go_ret
    exact ⟨mL, mM⟩
   rw [if_pos c4] at H
   have iI := decide_eq_true c4
   clear c4
   replace H := fW H; obtain ⟨jR, H⟩ := H
   replace H := fW H; obtain ⟨hU, H⟩ := H
   replace H := bZ H; obtain ⟨abg, A7, H⟩ := H
   by_cases c8 : abg = true
   rotate_left
   ·replace c8 := Bool.eq_false_iff.mpr c8
    subst c8
    replace H := sZ H
    obtain rfl := Option.some.inj H
    have Hw : 0 ≤ (bj : Int) := bX
    have Hx : bj < (l0.length : Int) := bX
    obtain ⟨ahL, abh, U2⟩ := Kd.bi jt.out bj Hw Hx
    cases abh
    replace Hw := eq_true Hw
    replace Hx := eq_true Hx
    go_wp2_with (first | ((with_reducible refine gC 103 rfl ?_); refine gL 18 Tryz.func103 #[.int .i64 (rd l0 bj), .int .i64 a1, .int .i64 a2] ?_; (with_reducible refine (ek.calls (rd l0 bj) a1 a2 false _ A7.out).mono ?_); rintro e w' ⟨rfl, ⟨nd, rfl⟩⟩; refine ⟨_, rfl, ?_⟩))
    go_ret
    exact ⟨mL, mM⟩
   subst c8
   replace H := sY H
   have H' := Aside0.mk H
   clear H
   have Hw : 0 ≤ (bj : Int) := bX
   have Hx : bj < (l0.length : Int) := bX
   obtain ⟨ahL, abh, U2⟩ := Kd.bi jt.out bj Hw Hx
   cases abh
   replace Hw := eq_true Hw
   replace Hx := eq_true Hx
   go_wp2_with (first | ((with_reducible refine gC 103 rfl ?_); refine gL 18 Tryz.func103 #[.int .i64 (rd l0 bj), .int .i64 a1, .int .i64 a2] ?_; (with_reducible refine (ek.calls (rd l0 bj) a1 a2 true _ A7.out).mono ?_); rintro e w' ⟨rfl, ⟨nd, rfl⟩⟩; refine ⟨_, rfl, ?_⟩))
   go_roundg k1
   case measure => have := dP.out; omega
   case rel => exact ⟨(wrap64 (bj + 1)), dM, H', ⟨by have := dP.out; omega⟩, by repeat (first | exact bM.refl _ | apply bM.step)⟩
mutual
def bI.j0 : Nat → List (List Int) → Bool → Option (Bool)
 | 0, _, _ => none
 | k + 1, x0, rB => if rB = true then (some false) else (bI.l0 k x0 x0 (x0.length : Int) 0)
def bI.l0 : Nat → List (List Int) → List (List Int) → Int → Int → Option (Bool)
 | 0, _, _, _, _ => none
 | k + 1, x0, qq, tc, xe => if xe < tc then (if 0 ≤ xe then (if xe < (qq.length : Int) then (if 0 < (x0.length : Int) then (if ((aJ qq xe).length : Int) = ((aJ x0 0).length : Int) then ((cQ.f k (aJ qq xe) (-9) 9).bind fun abi => (if abi = true then (bI.l0 k x0 qq tc (wrap64 (xe + 1))) else (some false))) else (some false)) else (none)) else (none)) else (none)) else (some true)
end
def bI.f (k : Nat) (l0 : List (List Int)) : Option (Bool) := (ek.f (l0.length : Int) 1 3).bind fun Ps => (if Ps = true then (if 0 < (l0.length : Int) then ((ek.f ((aJ l0 0).length : Int) 1 3).bind fun N4 => (bI.j0 k l0 (!N4))) else (none)) else (bI.j0 k l0 true))
theorem bI.bG : ∀ k, (∀ y0 y1, bB (bI.j0 k y0 y1) (bI.j0 (k + 1) y0 y1)) ∧ (∀ y0 y1 y2 y3, bB (bI.l0 k y0 y1 y2 y3) (bI.l0 (k + 1) y0 y1 y2 y3))
 | 0 => ⟨fun _ _ r h => by simp [bI.j0] at h, fun _ _ _ _ r h => by simp [bI.l0] at h⟩
 | k + 1 => by
  obtain ⟨eQ, kP⟩ := bI.bG k
  refine ⟨?_, ?_⟩ <;> intros <;> (first | unfold bI.j0 | unfold bI.l0)
  all_goals repeat' first
  | (with_reducible exact eQ ..)
  | (with_reducible exact kP ..)
  | (with_reducible exact cQ.mono ..)
  | (with_reducible exact bB.refl _)
  | (with_reducible exact bB.none _)
  | (with_reducible refine bB.ite ?_ ?_)
  | (with_reducible refine bB.bind ?_ (fun _ => ?_))
theorem bI.mono : ∀ a0 k, bB (bI.f k a0) (bI.f (k + 1) a0) := by
 intro a0 k
 obtain ⟨eQ, kP⟩ := bI.bG k
 unfold bI.f
 repeat' first
   | (with_reducible exact eQ ..)
   | (with_reducible exact kP ..)
   | (with_reducible exact cQ.mono ..)
   | (with_reducible exact bB.refl _)
   | (with_reducible exact bB.none _)
   | (with_reducible refine bB.ite ?_ ?_)
   | (with_reducible refine bB.bind ?_ (fun _ => ?_))
theorem bI.calls (k : Nat) (A0 : Option Addr) (c0 : Nat) (l0 : List (List Int)) (r : Bool) (w : World) (gD : Kd.C (Kd.slice 3 (Kd.int .i64)) w A0 l0.length l0) (hJ : l0.length ≤ c0) (h : bI.f k l0 = some r) :
  Calls Tryz.prog 108 #[.slice A0 l0.length c0] w fun e w' => e = .returned (.bool r) ∧ bM w w' := by
 have jt := Aside0.mk gD
 have wj := Aside0.mk hJ
 clear gD hJ
 have H : ((ek.f (l0.length : Int) 1 3).bind fun Ps => (if Ps = true then (if 0 < (l0.length : Int) then ((ek.f ((aJ l0 0).length : Int) 1 3).bind fun N4 => (bI.j0 k l0 (!N4))) else (none)) else (bI.j0 k l0 true))) = some r := h
 clear h
 have T_ := Aside0.mk H
 clear H
 go_enter Tryz.func108, Tryz.ntmps108
 go_upto_region 1 with (fail)
 go_cut [16] (fun v16 wc => ∃ (kq : Nat) (K9 : Bool), v16 = .bool K9 ∧ Aside0 (bI.j0 kq l0 K9 = some r) ∧ Aside0 (kq ≤ k) ∧ bM w wc)
 case first =>
  have H := T_.out
  clear T_
  replace H := bZ H; obtain ⟨Ps, A3, H⟩ := H
  by_cases c4 : Ps = true
  rotate_left
  ·replace c4 := Bool.eq_false_iff.mpr c4
   subst c4
   replace H := sZ H
   have H' := Aside0.mk H
   clear H
   go_wp2_with (first | ((with_reducible refine gC 103 rfl ?_); refine gL 7 Tryz.func103 #[.int .i64 (l0.length : Int), .int .i64 1, .int .i64 3] ?_; (with_reducible refine (ek.calls (l0.length : Int) 1 3 false _ A3.out).mono ?_); rintro e w' ⟨rfl, ⟨nd, rfl⟩⟩; refine ⟨_, rfl, ?_⟩))
   go_meet
   case rel => exact ⟨_, (true), dM, H', ⟨by first | omega | exact Nat.le_refl _⟩, by repeat (first | exact bM.refl _ | apply bM.step)⟩
  subst c4
  replace H := sY H
  replace H := oo H; obtain ⟨c5, H⟩ := H
  have jR := decide_eq_true c5
  have Au : decide (0 < l0.length) = true := decide_eq_true (by omega)
  clear c5
  (first | rw [jR] | (simp only [gn, oG]; rw [jR]) | skip)
  replace H := bZ H; obtain ⟨N4, A6, H⟩ := H
  have H' := Aside0.mk H
  clear H
  go_wp2_with (first | ((with_reducible refine gC 103 rfl ?_); refine gL 7 Tryz.func103 #[.int .i64 (l0.length : Int), .int .i64 1, .int .i64 3] ?_; (with_reducible refine (ek.calls (l0.length : Int) 1 3 true _ A3.out).mono ?_); rintro e w' ⟨rfl, ⟨nd, rfl⟩⟩; refine ⟨_, rfl, ?_⟩; have abj : 0 ≤ (0 : Int) := (by omega); have abk : 0 < (l0.length : Int) := bX; obtain ⟨atV, ap2, ap3, ap4, K_, Ka, Kb⟩ := eO jt.out 0 abj abk; cases ap4; have atW : (0 < l0.length) = True := eq_true (by omega); (try rw [show ((0 : Int)).toNat = 0 from rfl] at K_); (try rw [Addr.add_zero'] at K_); have an_ := Aside0.mk Kb; have an' := Aside0.mk Ka; clear Kb Ka; replace abj := eq_true abj; replace abk := eq_true abk) | (go_at_call 103; (with_reducible refine (ek.calls ((aJ l0 0).length : Int) 1 3 N4 _ A6.out).mono ?_); rintro e w' ⟨rfl, ⟨nd, rfl⟩⟩))
  go_meet
  case rel => exact ⟨_, (!N4), dM, H', ⟨by first | omega | exact Nat.le_refl _⟩, by repeat (first | exact bM.refl _ | apply bM.step)⟩
 case rest =>
  clear T_
  obtain ⟨kq, K9, rfl, HA, HJ1, ⟨mc1, rfl⟩⟩ := hcut
  cases kq with
  | zero => exact absurd HA.out (by simp [bI.j0])
  | succ kj1 =>
   have H := HA.out
   clear HA
   simp only [bI.j0] at H
   by_cases c7 : K9 = true
   ·subst c7
    replace H := sY H
    obtain rfl := Option.some.inj H
    go_wp2
    go_ret
    exact ⟨mL, mM⟩
   replace c7 := Bool.eq_false_iff.mpr c7
   subst c7
   replace H := sZ H
   have H' := Aside0.mk H
   clear H
   go_wp2
   go_loopg [19] kj1 (fun kq v19 w' => ∃ (kz : Int), v19 = .int .i64 kz ∧ Aside0 (bI.l0 kq l0 l0 (l0.length : Int) kz = some r) ∧ Aside0 (kq ≤ kj1) ∧ bM w w')
   case atStart => exact ⟨(0), dM, H', ⟨Nat.le_refl _⟩, by repeat (first | exact bM.refl _ | apply bM.step)⟩
   case round =>
    clear H'
    obtain ⟨kz, rfl, HA, ft, ⟨m2, rfl⟩⟩ := hrel
    cases gk with
    | zero => exact absurd HA.out (by simp [bI.l0])
    | succ k2 =>
     have H := HA.out
     clear HA
     simp only [bI.l0] at H
     by_cases c8 : kz < (l0.length : Int)
     rotate_left
     ·rw [if_neg c8] at H
      have oz := decide_eq_false c8
      clear c8
      obtain rfl := Option.some.inj H
      go_wp2
      go_ret
      exact ⟨mL, mM⟩
     rw [if_pos c8] at H
     have oz := decide_eq_true c8
     clear c8
     replace H := fW H; obtain ⟨tF, H⟩ := H
     replace H := fW H; obtain ⟨oC, H⟩ := H
     replace H := oo H; obtain ⟨nN, H⟩ := H
     have nJ := decide_eq_true nN
     have Eh : decide (0 < l0.length) = true := decide_eq_true (by omega)
     clear nN
     by_cases uF : ((aJ l0 kz).length : Int) = ((aJ l0 0).length : Int)
     rotate_left
     ·rw [if_neg uF] at H
      have uG := iQ uF
      have Pt := iR uF
      have ahM : ((aJ l0 kz).length == (aJ l0 0).length) = false := by first | simpa using uF | (simp at uF ⊢; omega)
      obtain rfl := Option.some.inj H
      have zC : 0 ≤ (kz : Int) := bX
      have zD : kz < (l0.length : Int) := bX
      obtain ⟨Ex, Pu, Pv, Pw, Ke, oH, oI⟩ := eO jt.out kz zC zD
      cases Pw
      have yI := Aside0.mk oI
      have yJ := Aside0.mk oH
      clear oI oH
      replace zC := eq_true zC
      replace zD := eq_true zD
      have zE : 0 ≤ (0 : Int) := (by omega)
      have zF : 0 < (l0.length : Int) := bX
      obtain ⟨Ey, Px, Py, Pz, oJ, oK, oL⟩ := eO jt.out 0 zE zF
      obtain rfl : Ex = Ey := (by injection Pz)
      have YD : (0 < l0.length) = True := eq_true (by omega)
      (try rw [show ((0 : Int)).toNat = 0 from rfl] at oJ)
      (try rw [Addr.add_zero'] at oJ)
      have Kf := Aside0.mk oL
      have Kg := Aside0.mk oK
      clear oL oK
      replace zE := eq_true zE
      replace zF := eq_true zF
      go_wp2
      go_ret
      exact ⟨mL, mM⟩
     rw [if_pos uF] at H
     have uG := il uF
     have Pt := im uF
     have ahM : ((aJ l0 kz).length == (aJ l0 0).length) = true := by first | simpa using uF | (simp at uF ⊢; omega)
     clear uF
     replace H := bZ H; obtain ⟨abi, U3, H⟩ := H
     by_cases rC : abi = true
     rotate_left
     ·replace rC := Bool.eq_false_iff.mpr rC
      subst rC
      replace H := sZ H
      obtain rfl := Option.some.inj H
      have zC : 0 ≤ (kz : Int) := bX
      have zD : kz < (l0.length : Int) := bX
      obtain ⟨Ex, Pu, Pv, Pw, Ke, oH, oI⟩ := eO jt.out kz zC zD
      cases Pw
      have yI := Aside0.mk oI
      have yJ := Aside0.mk oH
      clear oI oH
      replace zC := eq_true zC
      replace zD := eq_true zD
      have zE : 0 ≤ (0 : Int) := (by omega)
      have zF : 0 < (l0.length : Int) := bX
      obtain ⟨Ey, Px, Py, Pz, oJ, oK, oL⟩ := eO jt.out 0 zE zF
      obtain rfl : Ex = Ey := (by injection Pz)
      have YD : (0 < l0.length) = True := eq_true (by omega)
      (try rw [show ((0 : Int)).toNat = 0 from rfl] at oJ)
      (try rw [Addr.add_zero'] at oJ)
      have Kf := Aside0.mk oL
      have Kg := Aside0.mk oK
      clear oL oK
      replace zE := eq_true zE
      replace zF := eq_true zF
      go_wp2_with (first | (go_at_call 154; (with_reducible refine (cQ.calls k2 _ _ (aJ l0 kz) (-9) 9 false _ ?aT ?aU U3.out).mono ?_); (case aT => exact fy yI.out); (case aU => exact yJ.out); rintro e w' ⟨rfl, ⟨nd, rfl⟩⟩))
      go_ret
      exact ⟨mL, mM⟩
     subst rC
     replace H := sY H
     have H' := Aside0.mk H
     clear H
     have zC : 0 ≤ (kz : Int) := bX
     have zD : kz < (l0.length : Int) := bX
     obtain ⟨Ex, Pu, Pv, Pw, Ke, oH, oI⟩ := eO jt.out kz zC zD
     cases Pw
     have yI := Aside0.mk oI
     have yJ := Aside0.mk oH
     clear oI oH
     replace zC := eq_true zC
     replace zD := eq_true zD
     have zE : 0 ≤ (0 : Int) := (by omega)
     have zF : 0 < (l0.length : Int) := bX
     obtain ⟨Ey, Px, Py, Pz, oJ, oK, oL⟩ := eO jt.out 0 zE zF
     obtain rfl : Ex = Ey := (by injection Pz)
     have YD : (0 < l0.length) = True := eq_true (by omega)
     (try rw [show ((0 : Int)).toNat = 0 from rfl] at oJ)
     (try rw [Addr.add_zero'] at oJ)
     have Kf := Aside0.mk oL
     have Kg := Aside0.mk oK
     clear oL oK
     replace zE := eq_true zE
     replace zF := eq_true zF
     go_wp2_with (first | (go_at_call 154; (with_reducible refine (cQ.calls k2 _ _ (aJ l0 kz) (-9) 9 true _ ?aT ?aU U3.out).mono ?_); (case aT => exact fy yI.out); (case aU => exact yJ.out); rintro e w' ⟨rfl, ⟨nd, rfl⟩⟩))
     go_roundg k2
     case measure => have := HJ1.out; have := ft.out; omega
     case rel => exact ⟨(wrap64 (kz + 1)), dM, H', ⟨by have := HJ1.out; have := ft.out; omega⟩, by repeat (first | exact bM.refl _ | apply bM.step)⟩
end Go.Proofs.YtggiicplcglalaaGreat.All
end
