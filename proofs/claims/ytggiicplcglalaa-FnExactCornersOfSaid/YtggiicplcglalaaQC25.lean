/- Part of the proof that the law FnExactCornersOf answers true for all arguments. -/
import Derived.Test.YtggiicplcglalaaQC24
section
namespace Go.Proofs.Ytggiicplcglalaa.Own
open Go.RowKit Go.Proofs.Ytggiicplcglalaa.All Go.Proofs.Ytggiicplcglalaa.Eqs Go.Proofs.YtggiicplcglalaaW.PrintWords Go.Proofs.YtggiicplcglalaaW.PrintLast
set_option linter.unusedVariables false
set_option maxHeartbeats 8000000
set_option maxRecDepth 100000
theorem store_two {W w' : World} {g : Nat} {t : TypeId} {x y u v : Value} (hb : W.heap[g]? = some (.cells #[x, y] t (0, 0))) (h : w' = (W.setCell ⟨g, 0, none⟩ u).setCell ⟨g, 1, none⟩ v) :
  w'.heap[g]? = some (.cells #[u, v] t (0, 0)) ∧ Kept W w' (fun k => k = g) ∧ w' = (W.setCell ⟨g, 0, none⟩ u).setCell ⟨g, 1, none⟩ v := by
 refine ⟨?_, ?_, h⟩
 ·subst h
  exact blk_put (cs := #[u, y]) (blk_put (cs := #[x, y]) hb 0 u rfl) 1 v rfl
 ·subst h
  exact Kept.setCell (S := fun k => k = g) (Kept.setCell (S := fun k => k = g) (Kept.refl W _) (p := ⟨g, 0, none⟩) (.inl (show g = g from rfl)) u) (p := ⟨g, 1, none⟩) (.inl (show g = g from rfl)) v
theorem store_below {w W w' : World} {g : Nat} {u v : Value} (h : Below w.heap.size w W) (e : w' = (W.setCell ⟨g, 0, none⟩ u).setCell ⟨g, 1, none⟩ v) (hg : w.heap.size ≤ g) : Below w.heap.size w w' := by
 subst e
 exact below_set (below_set h hg) hg
theorem store_one {W w' : World} {g : Nat} {t : TypeId} {cs cs' : Array Value} {j : Nat} {u : Value} (hb : W.heap[g]? = some (.cells cs t (0, 0))) (h : w' = W.setCell ⟨g, j, none⟩ u) (e : cs.setIfInBounds j u = cs') :
  w'.heap[g]? = some (.cells cs' t (0, 0)) ∧ Kept W w' (fun k => k = g) ∧ w' = W.setCell ⟨g, j, none⟩ u := by
 refine ⟨?_, ?_, h⟩
 ·subst h
  exact blk_put hb j u e
 ·subst h
  exact Kept.setCell (S := fun k => k = g) (Kept.refl W _) (p := ⟨g, j, none⟩) (.inl (show g = g from rfl)) u
theorem store_below1 {w W w' : World} {g j : Nat} {u : Value} (h : Below w.heap.size w W) (e : w' = W.setCell ⟨g, j, none⟩ u) (hg : w.heap.size ≤ g) : Below w.heap.size w w' := by
 subst e
 exact below_set h hg
theorem toGame_own (k : Nat) (A0 : Option Addr) (c0 : Nat) (l0 : List (List Int)) (A1 : Option Addr) (c1 : Nat) (l1 : List (List Int)) (w : World) (hr0 : Kd.C dI w A0 l0.length l0) (hc0 : l0.length ≤ c0) (hr1 : Kd.C dI w A1 l1.length l1) (hc1 : l1.length ≤ c1) (hs0 : Small l0) (hs1 : Small l1) (hk : 3000000 < k) :
  Calls Try.prog 8 #[.agg #[.slice A0 l0.length c0, .slice A1 l1.length c1]] w fun e w' => ∃ (v0 v1 : Value) (mid : Nat), e = .returned (.agg #[v0, v1]) ∧ w.heap.size ≤ mid ∧ mid ≤ w'.heap.size ∧ OS w' w.heap.size mid v0 l0 ∧ OS w' mid w'.heap.size v1 l1 ∧ Below w.heap.size w w' := by
 have hu30 := Try.underlying24
 have hu33 := Try.underlying28
 have HR0 := Aside0.mk hr0
 have HC0 := Aside0.mk hc0
 have HR1 := Aside0.mk hr1
 have HC1 := Aside0.mk hc1
 have I0 := Aside0.mk (toIntSS_is l0 hs0 k (by omega))
 have I1 := Aside0.mk (toIntSS_is l1 hs1 k (by omega))
 clear hr0 hc0 hr1 hc1
 have HB := Aside0.mk (Below.refl w.heap.size w)
 go_enter Try.func8, Try.ntmps8
 go_wp2_with (first
  | ((with_reducible refine gate_dst (N := 1) rfl ?_); refine bE 1 #[.slice A0 l0.length c0, .slice A1 l1.length c1] 24 ?_; intro g1 hg w1 hbox hb; skip; replace HB := Aside0.mk (below_step HB.out hb); have sw1 := Aside0.mk (show w.heap.size ≤ w1.heap.size from hb.size); have BK1 := Aside0.mk hbox; have ag1 := Aside0.mk (show g1 = w.heap.size from hg); have lg1 := Aside0.mk (show g1 < w1.heap.size from blk_lt hbox); clear hg hb hbox; have hp_0 : w1.cell? ⟨g1, 0, none⟩ = some (.slice A0 l0.length c0) := (blk_cell BK1.out 0).trans rfl; have hpf_0 := blk_frozen BK1.out 0; have hp_1 : w1.cell? ⟨g1, 1, none⟩ = some (.slice A1 l1.length c1) := (blk_cell BK1.out 1).trans rfl; have hpf_1 := blk_frozen BK1.out 1)
  | ((with_reducible refine gate_dst (N := 2) rfl ?_); refine bE 2 #[.slice none 0 0, .slice none 0 0] 28 ?_; intro g2 hg w2 hbox hb; replace BK1 := Aside0.mk (blk_below BK1.out hb); replace HB := Aside0.mk (below_step HB.out hb); have sw2 := Aside0.mk (show w1.heap.size ≤ w2.heap.size from hb.size); have BK2 := Aside0.mk hbox; have ag2 := Aside0.mk (show g2 = w1.heap.size from hg); have lg2 := Aside0.mk (show g2 < w2.heap.size from blk_lt hbox); clear hg hb hbox; have hq_0 : w2.cell? ⟨g1, 0, none⟩ = some (.slice A0 l0.length c0) := (blk_cell BK1.out 0).trans rfl; have hqf_0 := blk_frozen BK1.out 0; have hq_1 : w2.cell? ⟨g1, 1, none⟩ = some (.slice A1 l1.length c1) := (blk_cell BK1.out 1).trans rfl; have hqf_1 := blk_frozen BK1.out 1)
  | ((with_reducible refine gate_dst (N := 3) rfl ?_); refine bE 3 #[.slice none 0 0, .slice none 0 0] 28 ?_; intro g3 hg w3 hbox hb; replace BK1 := Aside0.mk (blk_below BK1.out hb); replace BK2 := Aside0.mk (blk_below BK2.out hb); replace HB := Aside0.mk (below_step HB.out hb); have sw3 := Aside0.mk (show w2.heap.size ≤ w3.heap.size from hb.size); have BK3 := Aside0.mk hbox; have ag3 := Aside0.mk (show g3 = w2.heap.size from hg); have lg3 := Aside0.mk (show g3 < w3.heap.size from blk_lt hbox); clear hg hb hbox; have hr_0 : w3.cell? ⟨g1, 0, none⟩ = some (.slice A0 l0.length c0) := (blk_cell BK1.out 0).trans rfl; have hrf_0 := blk_frozen BK1.out 0; have hr_1 : w3.cell? ⟨g1, 1, none⟩ = some (.slice A1 l1.length c1) := (blk_cell BK1.out 1).trans rfl; have hrf_1 := blk_frozen BK1.out 1)
  | ((with_reducible refine gC 28 rfl ?_); refine gL 6 Try.func28 #[.slice A0 l0.length c0] ?_; (with_reducible refine (laws_toIntSS.calls k _ _ l0 l0 _ ?side1 ?side2 I0.out).mono ?_); (case side1 => exact (Kd.C_below HR0.out HB.out)); (case side2 => exact HC0.out); rintro e w4 ⟨v0, rfl, ho_, hb⟩; refine ⟨_, rfl, ?_⟩; replace BK1 := Aside0.mk (blk_below BK1.out hb); replace BK2 := Aside0.mk (blk_below BK2.out hb); replace BK3 := Aside0.mk (blk_below BK3.out hb); have sw4 := Aside0.mk (show w3.heap.size ≤ w4.heap.size from hb.size); replace HB := Aside0.mk (below_step HB.out hb); have F1 := Aside0.mk (OS.of ho_); clear ho_; obtain ⟨B1, e1, q_⟩ := F1.out.slice; subst q_; clear hb; have hs_0 : w4.cell? ⟨g3, 0, none⟩ = some (.slice none 0 0) := (blk_cell BK3.out 0).trans rfl; have hsf_0 := blk_frozen BK3.out 0; have hs_1 : w4.cell? ⟨g3, 1, none⟩ = some (.slice none 0 0) := (blk_cell BK3.out 1).trans rfl; have hsf_1 := blk_frozen BK3.out 1)
  | ((with_reducible refine gate_store (t := 22) (p := 7) (v := .tmp 6) rfl ?_); refine store_event (t := 22) (p := 7) (v := .tmp 6) (w1 := w4.setCell ⟨g3, 0, none⟩ (.slice B1 l0.length e1)) ?hg ?ho ?hn ?hr ?_; (case ho => rfl); (case hg => rfl); (case hn => rfl); (case hr => first | (go_simp; done) | (go_simp; rfl)); intro w5 hw_; obtain ⟨hbk, hk, hk1⟩ := store_one BK3.out hw_ (cs' := #[.slice B1 l0.length e1, .slice none 0 0]) rfl; clear hw_; replace F1 := Aside0.mk (F1.out.kept hk (fun k h1_ h2_ => by have y1_ := h1_.1; have y2_ := h1_.2; have y3_ : k = g3 := h2_; have z0_ := sw1.out; have z1_ := sw2.out; have z2_ := sw3.out; have z3_ := sw4.out; have z4_ := lg1.out; have z5_ := lg2.out; have z6_ := lg3.out; have z7_ := ag1.out; have z8_ := ag2.out; have z9_ := ag3.out; omega)); replace BK1 := Aside0.mk (blk_kept BK1.out hk (fun h2_ => by have y_ : g1 = g3 := h2_; have z0_ := sw1.out; have z1_ := sw2.out; have z2_ := sw3.out; have z3_ := sw4.out; have z4_ := lg1.out; have z5_ := lg2.out; have z6_ := lg3.out; have z7_ := ag1.out; have z8_ := ag2.out; have z9_ := ag3.out; omega)); replace BK2 := Aside0.mk (blk_kept BK2.out hk (fun h2_ => by have y_ : g2 = g3 := h2_; have z0_ := sw1.out; have z1_ := sw2.out; have z2_ := sw3.out; have z3_ := sw4.out; have z4_ := lg1.out; have z5_ := lg2.out; have z6_ := lg3.out; have z7_ := ag1.out; have z8_ := ag2.out; have z9_ := ag3.out; omega)); have sw5 := Aside0.mk (show w4.heap.size ≤ w5.heap.size from hk.1); replace HB := Aside0.mk (store_below1 HB.out hk1 (by have z0_ := sw1.out; have z1_ := sw2.out; have z2_ := sw3.out; have z3_ := sw4.out; have z4_ := lg1.out; have z5_ := lg2.out; have z6_ := lg3.out; have z7_ := ag1.out; have z8_ := ag2.out; have z9_ := ag3.out; omega)); replace BK3 := Aside0.mk hbk; clear hk hk1 hbk; have ht_0 : w5.cell? ⟨g1, 0, none⟩ = some (.slice A0 l0.length c0) := (blk_cell BK1.out 0).trans rfl; have htf_0 := blk_frozen BK1.out 0; have ht_1 : w5.cell? ⟨g1, 1, none⟩ = some (.slice A1 l1.length c1) := (blk_cell BK1.out 1).trans rfl; have htf_1 := blk_frozen BK1.out 1)
  | ((with_reducible refine gC 28 rfl ?_); refine gL 10 Try.func28 #[.slice A1 l1.length c1] ?_; (with_reducible refine (laws_toIntSS.calls k _ _ l1 l1 _ ?side1 ?side2 I1.out).mono ?_); (case side1 => exact (Kd.C_below HR1.out HB.out)); (case side2 => exact HC1.out); rintro e w6 ⟨v1, rfl, ho_, hb⟩; refine ⟨_, rfl, ?_⟩; replace F1 := Aside0.mk (F1.out.below hb); replace BK1 := Aside0.mk (blk_below BK1.out hb); replace BK2 := Aside0.mk (blk_below BK2.out hb); replace BK3 := Aside0.mk (blk_below BK3.out hb); have sw6 := Aside0.mk (show w5.heap.size ≤ w6.heap.size from hb.size); replace HB := Aside0.mk (below_step HB.out hb); have F2 := Aside0.mk (OS.of ho_); clear ho_; obtain ⟨B2, e2, q_⟩ := F2.out.slice; subst q_; clear hb; have hu_0 : w6.cell? ⟨g3, 0, none⟩ = some (.slice B1 l0.length e1) := (blk_cell BK3.out 0).trans rfl; have huf_0 := blk_frozen BK3.out 0; have hu_1 : w6.cell? ⟨g3, 1, none⟩ = some (.slice none 0 0) := (blk_cell BK3.out 1).trans rfl; have huf_1 := blk_frozen BK3.out 1)
  | ((with_reducible refine gate_store (t := 22) (p := 11) (v := .tmp 10) rfl ?_); refine store_event (t := 22) (p := 11) (v := .tmp 10) (w1 := w6.setCell ⟨g3, 1, none⟩ (.slice B2 l1.length e2)) ?hg ?ho ?hn ?hr ?_; (case ho => rfl); (case hg => rfl); (case hn => rfl); (case hr => first | (go_simp; done) | (go_simp; rfl)); intro w7 hw_; obtain ⟨hbk, hk, hk1⟩ := store_one BK3.out hw_ (cs' := #[.slice B1 l0.length e1, .slice B2 l1.length e2]) rfl; clear hw_; replace F1 := Aside0.mk (F1.out.kept hk (fun k h1_ h2_ => by have y1_ := h1_.1; have y2_ := h1_.2; have y3_ : k = g3 := h2_; have z0_ := sw1.out; have z1_ := sw2.out; have z2_ := sw3.out; have z3_ := sw4.out; have z4_ := sw5.out; have z5_ := sw6.out; have z6_ := lg1.out; have z7_ := lg2.out; have z8_ := lg3.out; have z9_ := ag1.out; have z10_ := ag2.out; have z11_ := ag3.out; omega)); replace F2 := Aside0.mk (F2.out.kept hk (fun k h1_ h2_ => by have y1_ := h1_.1; have y2_ := h1_.2; have y3_ : k = g3 := h2_; have z0_ := sw1.out; have z1_ := sw2.out; have z2_ := sw3.out; have z3_ := sw4.out; have z4_ := sw5.out; have z5_ := sw6.out; have z6_ := lg1.out; have z7_ := lg2.out; have z8_ := lg3.out; have z9_ := ag1.out; have z10_ := ag2.out; have z11_ := ag3.out; omega)); replace BK2 := Aside0.mk (blk_kept BK2.out hk (fun h2_ => by have y_ : g2 = g3 := h2_; have z0_ := sw1.out; have z1_ := sw2.out; have z2_ := sw3.out; have z3_ := sw4.out; have z4_ := sw5.out; have z5_ := sw6.out; have z6_ := lg1.out; have z7_ := lg2.out; have z8_ := lg3.out; have z9_ := ag1.out; have z10_ := ag2.out; have z11_ := ag3.out; omega)); have sw7 := Aside0.mk (show w6.heap.size ≤ w7.heap.size from hk.1); replace HB := Aside0.mk (store_below1 HB.out hk1 (by have z0_ := sw1.out; have z1_ := sw2.out; have z2_ := sw3.out; have z3_ := sw4.out; have z4_ := sw5.out; have z5_ := sw6.out; have z6_ := lg1.out; have z7_ := lg2.out; have z8_ := lg3.out; have z9_ := ag1.out; have z10_ := ag2.out; have z11_ := ag3.out; omega)); replace BK3 := Aside0.mk hbk; clear hk hk1 hbk; have hv_0 : w7.cell? ⟨g3, 0, none⟩ = some (.slice B1 l0.length e1) := (blk_cell BK3.out 0).trans rfl; have hvf_0 := blk_frozen BK3.out 0; have hv_1 : w7.cell? ⟨g3, 1, none⟩ = some (.slice B2 l1.length e2) := (blk_cell BK3.out 1).trans rfl; have hvf_1 := blk_frozen BK3.out 1; have hx_0 : w7.cell? ⟨g2, 0, none⟩ = some (.slice none 0 0) := (blk_cell BK2.out 0).trans rfl; have hxf_0 := blk_frozen BK2.out 0; have hx_1 : w7.cell? ⟨g2, 1, none⟩ = some (.slice none 0 0) := (blk_cell BK2.out 1).trans rfl; have hxf_1 := blk_frozen BK2.out 1)
  | ((with_reducible refine gate_store (t := 28) (p := 2) (v := .tmp 12) rfl ?_); refine store_event (t := 28) (p := 2) (v := .tmp 12) (w1 := (w7.setCell ⟨g2, 0, none⟩ (.slice B1 l0.length e1)).setCell ⟨g2, 1, none⟩ (.slice B2 l1.length e2)) ?hg ?ho ?hn ?hr ?_; (case ho => rfl); (case hg => rfl); (case hn => rfl); (case hr => first | (go_simp; done) | (go_simp; rfl)); intro w8 hw_; obtain ⟨hbk, hk, hk1⟩ := store_two BK2.out hw_; clear hw_; replace F1 := Aside0.mk (F1.out.kept hk (fun k h1_ h2_ => by have y1_ := h1_.1; have y2_ := h1_.2; have y3_ : k = g2 := h2_; have z0_ := sw1.out; have z1_ := sw2.out; have z2_ := sw3.out; have z3_ := sw4.out; have z4_ := sw5.out; have z5_ := sw6.out; have z6_ := sw7.out; have z7_ := lg1.out; have z8_ := lg2.out; have z9_ := lg3.out; have z10_ := ag1.out; have z11_ := ag2.out; have z12_ := ag3.out; omega)); replace F2 := Aside0.mk (F2.out.kept hk (fun k h1_ h2_ => by have y1_ := h1_.1; have y2_ := h1_.2; have y3_ : k = g2 := h2_; have z0_ := sw1.out; have z1_ := sw2.out; have z2_ := sw3.out; have z3_ := sw4.out; have z4_ := sw5.out; have z5_ := sw6.out; have z6_ := sw7.out; have z7_ := lg1.out; have z8_ := lg2.out; have z9_ := lg3.out; have z10_ := ag1.out; have z11_ := ag2.out; have z12_ := ag3.out; omega)); have sw8 := Aside0.mk (show w7.heap.size ≤ w8.heap.size from hk.1); replace HB := Aside0.mk (store_below HB.out hk1 (by have z0_ := sw1.out; have z1_ := sw2.out; have z2_ := sw3.out; have z3_ := sw4.out; have z4_ := sw5.out; have z5_ := sw6.out; have z6_ := sw7.out; have z7_ := lg1.out; have z8_ := lg2.out; have z9_ := lg3.out; have z10_ := ag1.out; have z11_ := ag2.out; have z12_ := ag3.out; omega)); replace BK2 := Aside0.mk hbk; clear hk hk1 hbk))
 refine bodyPost_ret (results_cell_row rfl _ _ g2 28 #[.slice B1 l0.length e1, .slice B2 l1.length e2] (0, 0) _ rfl BK2.out Try.underlying28 rfl (by kernel_rfl)) rfl ?_
 refine ⟨_, _, w5.heap.size, rfl, by have z0_ := sw1.out; have z1_ := sw2.out; have z2_ := sw3.out; have z3_ := sw4.out; have z4_ := sw5.out; have z5_ := sw6.out; have z6_ := sw7.out; have z7_ := sw8.out; omega, by have z0_ := sw1.out; have z1_ := sw2.out; have z2_ := sw3.out; have z3_ := sw4.out; have z4_ := sw5.out; have z5_ := sw6.out; have z6_ := sw7.out; have z7_ := sw8.out; omega, ⟨?_, by have z0_ := sw1.out; have z1_ := sw2.out; have z2_ := sw3.out; have z3_ := sw4.out; have z4_ := sw5.out; have z5_ := sw6.out; have z6_ := sw7.out; have z7_ := sw8.out; omega⟩, ⟨?_, Nat.le_refl _⟩, HB.out⟩
 ·exact Kd.S_mono (Kd.S_lower F1.out.1 (by have z0_ := sw1.out; have z1_ := sw2.out; have z2_ := sw3.out; have z3_ := sw4.out; have z4_ := sw5.out; have z5_ := sw6.out; have z6_ := sw7.out; have z7_ := sw8.out; omega)) (fun k hk => hk.mono (by have z0_ := sw1.out; have z1_ := sw2.out; have z2_ := sw3.out; have z3_ := sw4.out; have z4_ := sw5.out; have z5_ := sw6.out; have z6_ := sw7.out; have z7_ := sw8.out; omega) (by have z0_ := sw1.out; have z1_ := sw2.out; have z2_ := sw3.out; have z3_ := sw4.out; have z4_ := sw5.out; have z5_ := sw6.out; have z6_ := sw7.out; have z7_ := sw8.out; omega))
 ·exact Kd.S_mono F2.out.1 (fun k hk => hk.mono (Nat.le_refl _) (by have z0_ := sw1.out; have z1_ := sw2.out; have z2_ := sw3.out; have z3_ := sw4.out; have z4_ := sw5.out; have z5_ := sw6.out; have z6_ := sw7.out; have z7_ := sw8.out; omega))
theorem markG (w0 w : World) (lo hi lo2 hi2 : Nat) (v v2 : Value) (ls ms : List (List Int)) (a m : Int) (hB : Below w0.heap.size w0 w) (hlo : w0.heap.size ≤ lo) (h : OS w lo hi v ls) (h2 : OS w lo2 hi2 v2 ms) (hd : hi ≤ lo2 ∧ lo2 ≤ hi2) (hs : Small ls) (hs2 : Small ms) (ha : 0 ≤ a) (ha2 : a ≤ 562949953421312) (hm : m = a + (total ls : Int) + (total ms : Int)) (hlh : lo ≤ hi) :
  Calls Try.prog 12 #[.agg #[v, v2], .int .i64 a] w fun e w' => e = .returned (.int .i64 m) ∧ OS w' lo hi v (marksS ls a) ∧ OS w' lo2 hi2 v2 (marksS ms (a + (total ls : Int))) ∧ Below w0.heap.size w0 w' ∧ Kept w w' (In lo hi2) := by
 have hu33 := Try.underlying28
 obtain ⟨b, hb⟩ : ∃ b : Int, b = a + (total ls : Int) := ⟨_, rfl⟩
 have ht := total_small hs
 have hbb : 0 ≤ b ∧ b ≤ 1125899906842624 := by omega
 have F1 := Aside0.mk h
 have F2 := Aside0.mk h2
 obtain ⟨B1, e1, rfl⟩ := h.slice
 obtain ⟨B2, e2, rfl⟩ := h2.slice
 rw [← hb] at hm ⊢
 have HM := Aside0.mk hm
 have Hb := Aside0.mk hb
 have HD := Aside0.mk hd
 have HL := Aside0.mk hlo
 have HLH := Aside0.mk hlh
 have HB := Aside0.mk hB
 have HK := Aside0.mk (Kept.refl w (In lo hi2))
 clear hm hb hd hlo hB h h2 ht hlh
 go_enter Try.func12, Try.ntmps12
 go_wp2_with (first
  | ((with_reducible refine gate_dst (N := 2) rfl ?_); refine bE 2 #[.slice B1 ls.length e1, .slice B2 ms.length e2] 28 ?_; intro g1 hg w1 hbox hb; have bz_ := F2.out.2; have by_ := F1.out.2; replace F1 := Aside0.mk (F1.out.below hb); replace F2 := Aside0.mk (F2.out.below hb); replace HK := Aside0.mk (HK.out.below hb); have lg1 := Aside0.mk (show hi2 ≤ g1 by rw [hg]; exact bz_); replace HB := Aside0.mk (HB.out.trans (hb.mono HB.out.size)); have sw1 := Aside0.mk (show w.heap.size ≤ w1.heap.size from hb.size); have BK1 := Aside0.mk hbox; clear bz_ by_ hg hb hbox; have hp_0 : w1.cell? ⟨g1, 0, none⟩ = some (.slice B1 ls.length e1) := (blk_cell BK1.out 0).trans rfl; have hpf_0 := blk_frozen BK1.out 0; have hp_1 : w1.cell? ⟨g1, 1, none⟩ = some (.slice B2 ms.length e2) := (blk_cell BK1.out 1).trans rfl; have hpf_1 := blk_frozen BK1.out 1)
  | ((with_reducible refine gC 13 rfl ?_); refine gL 8 Try.func13 #[.slice B1 ls.length e1, .int .i64 a] ?_; (with_reducible refine (markS w0 _ lo hi _ ls a b HB.out HL.out F1.out hs ha (by omega) Hb.out).mono ?_); rintro e w2 ⟨rfl, hy_, hb0_, hk⟩; refine ⟨_, rfl, ?_⟩; replace F2 := Aside0.mk (F2.out.kept hk (fun k h1_ h2_ => by have y1_ := h1_.1; have y4_ := h2_.2; have z0_ := lg1.out; have z1_ := HD.out.1; have z2_ := HD.out.2; have z3_ := HLH.out; omega)); replace F1 := Aside0.mk hy_; replace BK1 := Aside0.mk (blk_kept BK1.out hk (fun h2_ => by have y4_ := h2_.2; have z0_ := lg1.out; have z1_ := HD.out.1; have z2_ := HD.out.2; have z3_ := HLH.out; omega)); replace HK := Aside0.mk (Kept.then_ HK.out hk (fun k h2_ => .inl ⟨h2_.1, by have y4_ := h2_.2; have z0_ := lg1.out; have z1_ := HD.out.1; have z2_ := HD.out.2; have z3_ := HLH.out; omega⟩)); have sw2 := Aside0.mk (show w1.heap.size ≤ w2.heap.size from hk.1); replace HB := Aside0.mk hb0_; clear hb0_ hk hy_; have hq_0 : w2.cell? ⟨g1, 0, none⟩ = some (.slice B1 ls.length e1) := (blk_cell BK1.out 0).trans rfl; have hqf_0 := blk_frozen BK1.out 0; have hq_1 : w2.cell? ⟨g1, 1, none⟩ = some (.slice B2 ms.length e2) := (blk_cell BK1.out 1).trans rfl; have hqf_1 := blk_frozen BK1.out 1)
  | ((with_reducible refine gC 13 rfl ?_); refine gL 12 Try.func13 #[.slice B2 ms.length e2, .int .i64 b] ?_; (with_reducible refine (markS w0 _ lo2 hi2 _ ms b m HB.out (by have z4_ := HL.out; have z0_ := lg1.out; have z1_ := HD.out.1; have z2_ := HD.out.2; have z3_ := HLH.out; omega) F2.out hs2 hbb.1 hbb.2 HM.out).mono ?_); rintro e w3 ⟨rfl, hy_, hb0_, hk⟩; refine ⟨_, rfl, ?_⟩; replace F1 := Aside0.mk (F1.out.kept hk (fun k h1_ h2_ => by have y1_ := h1_.2; have y4_ := h2_.1; have z0_ := lg1.out; have z1_ := HD.out.1; have z2_ := HD.out.2; have z3_ := HLH.out; omega)); replace F2 := Aside0.mk hy_; replace HK := Aside0.mk (Kept.then_ HK.out hk (fun k h2_ => .inl ⟨by have y4_ := h2_.1; have z0_ := lg1.out; have z1_ := HD.out.1; have z2_ := HD.out.2; have z3_ := HLH.out; omega, h2_.2⟩)); clear BK1; have sw3 := Aside0.mk (show w2.heap.size ≤ w3.heap.size from hk.1); replace HB := Aside0.mk hb0_; clear hb0_ hk hy_; skip))
 go_ret
 exact ⟨rfl, F1.out, F2.out, HB.out, HK.out⟩
end Go.Proofs.Ytggiicplcglalaa.Own
end
section
namespace Go.Proofs.Ytggiicplcglalaa.Own
open Go.Proofs.Ytggiicplcglalaa.All
open Go.RowKit Go.Proofs.YtggiicplcglalaaW.PrintWords Go.Proofs.YtggiicplcglalaaW.PrintLast Go.Proofs.YtggiicplcglalaaW.PrintMore
attribute [local go_sem] max2_int min2_int max_two min_two max_three min_three max_four min_four
set_option linter.unusedVariables false
set_option linter.unusedSimpArgs false
set_option maxHeartbeats 8000000 in
set_option maxRecDepth 100000 in
theorem impl_CornersOf_own.calls (k : Nat) (A0_0 : Option Addr) (c0_0 : Nat) (l0_0 : List (List Int)) (A0_1 : Option Addr) (c0_1 : Nat) (l0_1 : List (List Int)) (a1 : Int) (r1 : List (List Int)) (r2 : Bool) (w : World) (hr0_0 : Kd.C (Kd.slice 3 (Kd.int .i64)) w A0_0 l0_0.length l0_0) (hc0_0 : l0_0.length ≤ c0_0) (hr0_1 : Kd.C (Kd.slice 3 (Kd.int .i64)) w A0_1 l0_1.length l0_1) (hc0_1 : l0_1.length ≤ c0_1) (h : impl_CornersOf.f k l0_0 l0_1 a1 = some (r1, r2)) :
  Calls Try.prog 9 #[.agg #[.slice A0_0 l0_0.length c0_0, .slice A0_1 l0_1.length c0_1], .int .i64 a1] w fun e w' => ∃ v0_ : Value, e = .returned (.tuple #[v0_, .bool r2]) ∧ Kd.S (Kd.slice 3 (Kd.int .i64)) 38 w' w.heap.size (fun k_ => (w.heap.size ≤ k_)) v0_ r1 ∧ Below w.heap.size w w' := by
 have hu28 := Try.underlying28
 have HR0_0 := Aside0.mk hr0_0
 have HC0_0 := Aside0.mk hc0_0
 clear hr0_0 hc0_0
 have HR0_1 := Aside0.mk hr0_1
 have HC0_1 := Aside0.mk hc0_1
 clear hr0_1 hc0_1
 have HB := Aside0.mk (Below.refl w.heap.size w)
 have H : ((impl_IsGame.f l0_0 l0_1).bind fun t547 => (if t547 = true then ((impl_isPlayer.f a1).bind fun t548 => (impl_CornersOf.j0 k a1 (!t548) l0_0 l0_1)) else (impl_CornersOf.j0 k a1 true l0_0 l0_1))) = some (r1, r2) := h
 clear h
 have HC3 := Aside0.mk H
 clear H
 go_enter Try.func9, Try.ntmps9
 go_upto_region 1 with (first | ((with_reducible refine gate_dst (N := 2) rfl ?_); refine bE 2 #[.slice A0_0 l0_0.length c0_0, .slice A0_1 l0_1.length c0_1] 28 ?_; intro gb546 hg w4 hbox hb; have BK546 := am (hbox); have GW546 := am ((by rw [hg]; exact (below_size (mb HB.out)) : w.heap.size ≤ gb546)); have GE546 := GW546; replace HB := am (below_step (mb HB.out) hb); clear hb hbox hg))
 (try simp only [Act.put, List.setIfInBounds_toArray, List.set_cons_zero, List.set_cons_succ])
 go_cut [13] (fun v13 wc => ∃ (kq : Nat) (x13_2 : Bool), v13 = .bool x13_2 ∧ Aside0 (impl_CornersOf.j0 kq a1 x13_2 l0_0 l0_1 = some (r1, r2)) ∧ Aside0 (kq ≤ k) ∧ Aside0 (wc.heap[gb546]? = some (.cells #[(.slice A0_0 l0_0.length c0_0), (.slice A0_1 l0_1.length c0_1)] 28 (0, 0))) ∧ Aside0 (Below w.heap.size w wc))
 case first =>
  have H := HC3.out
  clear HC3
  replace H := bindA H; obtain ⟨t547, A5, H⟩ := H
  by_cases c6 : t547 = true
  ·subst c6
   replace H := ifT H
   replace H := bindA H; obtain ⟨t548, A7, H⟩ := H
   have H' := Aside0.mk H
   clear H
   have hcz8_0 := cell0 BK546.out
   have hcz8_1 := cell1 BK546.out
   have hfz8_0 := blk_frozen BK546.out 0
   have hfz8_1 := blk_frozen BK546.out 1
   go_wp2_with (first | ((with_reducible refine gC 29 rfl ?_); refine gL 7 Try.func29 #[.agg #[.slice A0_0 l0_0.length c0_0, .slice A0_1 l0_1.length c0_1]] ?_; (with_reducible refine (impl_IsGame.calls _ _ l0_0 _ _ l0_1 true _ ?side1 ?side2 ?side3 ?side4 A5.out).mono ?_); (case side1 => exact mvC (Kd.C_below HR0_0.out HB.out)); (case side2 => exact HC0_0.out); (case side3 => exact mvC (Kd.C_below HR0_1.out HB.out)); (case side4 => exact HC0_1.out); rintro e w9 ⟨rfl, hb⟩; refine ⟨_, rfl, ?_⟩; replace BK546 := am (blk_below (mvK BK546.out) hb); replace HB := am (below_step (mb HB.out) hb); (try clear hb)) | (go_at_call 30; (with_reducible refine (impl_isPlayer.calls a1 t548 _ A7.out).mono ?_); rintro e w' ⟨rfl, ⟨nd, rfl⟩⟩))
   go_meet
   case rel => exact ⟨_, (!t548), eqF, H', ⟨by first | omega | exact Nat.le_refl _⟩, ⟨mvK BK546.out⟩, ⟨mb HB.out⟩⟩
  ·replace c6 := Bool.eq_false_iff.mpr c6
   subst c6
   replace H := ifF H
   have H' := Aside0.mk H
   clear H
   have hcz10_0 := cell0 BK546.out
   have hcz10_1 := cell1 BK546.out
   have hfz10_0 := blk_frozen BK546.out 0
   have hfz10_1 := blk_frozen BK546.out 1
   go_wp2_with (first | ((with_reducible refine gC 29 rfl ?_); refine gL 7 Try.func29 #[.agg #[.slice A0_0 l0_0.length c0_0, .slice A0_1 l0_1.length c0_1]] ?_; (with_reducible refine (impl_IsGame.calls _ _ l0_0 _ _ l0_1 false _ ?side1 ?side2 ?side3 ?side4 A5.out).mono ?_); (case side1 => exact mvC (Kd.C_below HR0_0.out HB.out)); (case side2 => exact HC0_0.out); (case side3 => exact mvC (Kd.C_below HR0_1.out HB.out)); (case side4 => exact HC0_1.out); rintro e w11 ⟨rfl, hb⟩; refine ⟨_, rfl, ?_⟩; replace BK546 := am (blk_below (mvK BK546.out) hb); replace HB := am (below_step (mb HB.out) hb); (try clear hb)))
   go_meet
   case rel => exact ⟨_, (true), eqF, H', ⟨by first | omega | exact Nat.le_refl _⟩, ⟨mvK BK546.out⟩, ⟨mb HB.out⟩⟩
 case rest =>
  clear HC3
  obtain ⟨kq, x13_2, rfl, HA, HJ2, BK546, HB⟩ := hcut
  cases kq with
  | zero => exact absurd HA.out (by simp [impl_CornersOf.j0])
  | succ kj2 =>
   have H := HA.out
   clear HA
   simp only [impl_CornersOf.j0] at H
   by_cases c12 : x13_2 = true
   ·subst c12
    replace H := ifT H
    simp only [Option.some.injEq, Prod.mk.injEq] at H
    obtain ⟨rfl, rfl⟩ := H
    go_wp2
    go_ret2
    exact ⟨_, eqE, by first | exact Kd.S_nil _ _ _ _ _ | exact Kd.N_nil _ _ _ _ _ | exact Kd.V_nil _ _ _ _ _ | exact Kd.Q_nil _ _ _ _ _ | exact Kd.R_nil _ _ _ _ _, mb HB.out⟩
   ·replace c12 := Bool.eq_false_iff.mpr c12
    subst c12
    replace H := ifF H
    replace H := bindA H; obtain ⟨⟨t549, t550⟩, A13, H⟩ := H; dsimp only at H
    replace H := bindA H; obtain ⟨t553, A14, H⟩ := H
    simp only [Option.some.injEq, Prod.mk.injEq] at H
    obtain ⟨rfl, rfl⟩ := H
    have hcz15_0 := cell0 BK546.out
    have hcz15_1 := cell1 BK546.out
    have hfz15_0 := blk_frozen BK546.out 0
    have hfz15_1 := blk_frozen BK546.out 1
    go_wp2_with (first | ((with_reducible refine gC 31 rfl ?_); refine gL 16 Try.func31 #[.agg #[.slice A0_0 l0_0.length c0_0, .slice A0_1 l0_1.length c0_1], .int .i64 a1] ?_; (with_reducible refine (impl_Game_figureOf.calls kj2 _ _ l0_0 _ _ l0_1 a1 t549 t550 _ ?side1 ?side2 ?side3 ?side4 A13.out).mono ?_); (case side1 => exact mvC (Kd.C_below HR0_0.out HB.out)); (case side2 => exact HC0_0.out); (case side3 => exact mvC (Kd.C_below HR0_1.out HB.out)); (case side4 => exact HC0_1.out); rintro e w16 ⟨v551, rfl, ho0, hb⟩; refine ⟨_, rfl, ?_⟩; have HO552 := am (Kd.N_lower (Kd.N_mono (ok' := fun k_ => (w.heap.size ≤ k_) ∧ k_ ≠ gb546) ho0 (fun k_ hk_ => ⟨(Nat.le_trans (below_size (mb HB.out)) hk_), (Kd.freshB (g := gb546) (o := .cells #[.slice A0_0 l0_0.length c0_0, .slice A0_1 l0_1.length c0_1] 28 (0, 0)) (mvK BK546.out) k_ hk_)⟩)) (below_size (mb HB.out))); replace BK546 := am (blk_below (mvK BK546.out) hb); replace HB := am (below_step (mb HB.out) hb); (try clear hb ho0); obtain ⟨Ao17, co17, eo17⟩ := Kd.N_slice HO552.out; subst eo17) | ((with_reducible refine gC 32 rfl ?_); refine gL 17 Try.func32 #[.agg #[.int .i64 t549, .slice Ao17 t550.length co17]] ?_; (with_reducible refine (impl_figure_corners.callsS kj2 t549 (fun k_ => ((w.heap.size ≤ k_) ∧ k_ ≠ gb546)) _ _ t550 t553 _ ?side1 A14.out).mono ?_); (case side1 => exact Kd.N_V (HO552.out)); rintro e w18 ⟨v554, rfl, ho0, hb⟩; refine ⟨_, rfl, ?_⟩; have HO555 := am (Kd.S_lower (Kd.S_mono ho0 (fun k_ hk_ => Nat.le_trans (below_size (mb HB.out)) hk_)) (below_size (mb HB.out))); clear HO552; replace BK546 := am (blk_below (mvK BK546.out) hb); replace HB := am (below_step (mb HB.out) hb); (try clear hb ho0)))
    go_ret2
    exact ⟨_, eqE, Kd.S_mono (mvS HO555.out) (fun _ hk => hk), mb HB.out⟩
end Go.Proofs.Ytggiicplcglalaa.Own
end
