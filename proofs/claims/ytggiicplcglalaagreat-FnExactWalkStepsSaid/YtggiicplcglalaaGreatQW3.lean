/- Part of the proof that FnExactWalkSteps answers true. -/
import Derived.Laws.StructEq
import Derived.Test.YtggiicplcglalaaGreatQW2
section
namespace Go.Proofs.YtggiicplcglalaaGreatW.PrintWords
open Go.RowKit
namespace Kd
def chunks (sz : Nat) (n : Nat) (inner : List Value) : List (List Value) := (List.range n).map fun j => (inner.drop (j * sz)).take sz
theorem fD (sz n : Nat) (inner : List Value) : (chunks sz n inner).length = n := by simp [chunks]
theorem O5 {sz n : Nat} {inner : List Value} {j : Nat} (hj : j < n) : (chunks sz n inner)[j]? = some ((inner.drop (j * sz)).take sz) := by simp [chunks, hj]
theorem nc {sz n : Nat} {inner : List Value} {j : Nat} {c : List Value} (h : (chunks sz n inner)[j]? = some c) : c = (inner.drop (j * sz)).take sz := by
 have hj : j < n := by have := (List.getElem?_eq_some_iff.1 h).1; rwa [fD] at this
 rw [O5 hj] at h
 injection h with h
 exact h.symm
theorem Gd {α : Type} {Rr : α → List Value → Prop} {sz : Nat} {xs : List α} {inner : List Value} (h : cV Rr sz xs inner) (hR : ∀ x c, Rr x c → c.length = sz ∧ ∀ u ∈ c, u.oneCell' = true) : cV (fun x cs => cs = x ∧ cs.length = sz ∧ ∀ u ∈ cs, u.oneCell' = true) sz (chunks sz xs.length inner) inner := by
 refine ⟨by rw [fD]; exact h.1, fun j p hj => ?_⟩
 have H2 : j < xs.length := by have := (List.getElem?_eq_some_iff.1 hj).1; rwa [fD] at this
 have hp := nc hj
 exact ⟨hp.symm, hR _ _ (h.2 j _ (List.getElem?_eq_getElem H2))⟩
section
variable {α : Type} {d : Kd α} {e base n cc g : Nat} {ok ok' okp S : Nat → Prop} {w w1 W W1 : World} {A : Option Addr} {u v v1 : Value} {xs : List α} {x : α} {c : List Value}
theorem ZN (h : F d W ok A n xs) (z : α) (i : Int) (h0 : 0 ≤ i) (h1 : i < n) :
  ∃ ad c, A = some ad ∧ c.length = d.sz ∧ FK d W ok (xs.getD i.toNat z) c ∧ (∀ j u, c[j]? = some u → W.cell? (ad.add (i.toNat * d.sz + j)) = some u) ∧ (0 < d.sz → ok ad.block) := by
 obtain ⟨ad, c, rfl, t_, hK, wa⟩ := wb (SD h) z i h0 h1
 have lS : 0 < d.sz → ok ad.block := by
  intro hs
  by_cases hk : ok ad.block
  ·exact hk
  ·obtain ⟨W', h2, h3⟩ := WM W ad.block
   obtain ⟨ad', c', he, arU, _, aep⟩ := wb (h W' (fun k hk' _ => h2 k (fun e => hk (e ▸ hk')))) z i h0 h1
   injection he with he
   subst he
   have h4 := aep 0 _ (List.getElem?_eq_getElem (by omega))
   rw [h3 _ (vp _ _)] at h4
   cases h4
 refine ⟨ad, c, rfl, t_, fun W' hW => ?_, wa, lS⟩
 obtain ⟨ad', c', he, arU, hK', aep⟩ := wb (h W' hW) z i h0 h1
 injection he with he
 subst he
 have hc : c = c' := by
  apply List.ext_getElem?
  intro j
  by_cases hj : j < d.sz
  ·have hb : W'.heap[ad.block]? = W.heap[ad.block]? := by
    have h5 := wa j _ (List.getElem?_eq_getElem (by omega))
    have h6 := World.block_lt_of_cell? W _ h5
    rw [vp] at h6
    exact hW _ (lS (by omega)) h6
   have h5 := wa j _ (List.getElem?_eq_getElem (by omega))
   have h6 := aep j _ (List.getElem?_eq_getElem (by omega))
   have h7 : W'.cell? (ad.add (i.toNat * d.sz + j)) = W.cell? (ad.add (i.toNat * d.sz + j)) := by simp [World.cell?, vp, hb]
   rw [h7, h5] at h6
   rw [List.getElem?_eq_getElem (by omega), List.getElem?_eq_getElem (by omega)]
   exact h6
  ·rw [List.getElem?_eq_none (by omega), List.getElem?_eq_none (by omega)]
 rw [hc]
 exact hK'
theorem aeq (h : F d W ok A n xs) : fL (fun x c => FK d W ok x c) d.sz W A n xs := by
 obtain ⟨hl, hm, hn⟩ := SD h
 refine ⟨hl, hm, fun hp => ?_⟩
 obtain ⟨ad, rfl, _⟩ := hn hp
 refine ⟨ad, rfl, fun j p hj => ?_⟩
 obtain ⟨H2, hjp⟩ := List.getElem?_eq_some_iff.1 hj
 obtain ⟨ad', c, he, t_, hK, wa, _⟩ := ZN h p (j : Int) (by omega) (by omega)
 injection he with he
 subst he
 simp only [Int.toNat_natCast] at hK wa
 rw [List.getD_eq_getElem?_getD, hj] at hK
 exact ⟨c, t_, hK, wa⟩
def N {α : Type} (d : Kd α) (e : Nat) (w : World) (base : Nat) (ok : Nat → Prop) (v : Value) (xs : List α) : Prop :=
 (∀ k, v.ownBlock = some k → ok k) ∧ ∃ rows : List (List Value), rows.length = xs.length ∧ (raw d.sz).R e w base (fun k => some k = v.ownBlock) v rows ∧ ∀ (j : Nat) (x : α) (c : List Value), xs[j]? = some x → rows[j]? = some c → FK d w (fun k => ok k ∧ some k ≠ v.ownBlock) x c
theorem CJ {sz : Nat} {rows : List (List Value)} (h : (raw sz).R e w base ok v rows) : (raw sz).R e w base (fun k => some k = v.ownBlock) v rows := jr rfl h
theorem MO {sz : Nat} {rows : List (List Value)} (h : (raw sz).R e w base ok v rows) : (raw sz).R e w base (fun _ => True) v rows := bD h (fun _ _ => trivial)
theorem R_N (h : d.R e w base ok v xs) : N d e w base ok v xs := by
 obtain ⟨h0, inner, ho, hr⟩ := h
 refine ⟨h0, chunks d.sz xs.length inner, fD _ _ _, ⟨fun k hk => hk.symm, inner, by rw [fD]; exact ho, Gd hr (fun x c hp => ⟨d.jb (d.ep hp), d.iU (d.ep hp)⟩)⟩, fun j x c hx hc => ?_⟩
 rw [nc hc]
 exact WL (hr.2 j x hx)
theorem Bd (d : Kd α) (e : Nat) (w : World) (base : Nat) (ok : Nat → Prop) : N d e w base ok (.slice none 0 0) [] := R_N (mV _ _ _ _ _)
theorem bK (h : N d e w base ok v xs) (gr : ∀ k, ok k → ok' k) : N d e w base ok' v xs := by
 obtain ⟨h0, rows, hl, hR, hf⟩ := h
 exact ⟨fun k hk => gr k (h0 k hk), rows, hl, hR, fun j x c hx hc => sM (hf j x c hx hc) (fun k hk => ⟨gr k hk.1, hk.2⟩)⟩
theorem rH (h : N d e w base ok v xs) : ∀ k, v.ownBlock = some k → k < w.heap.size := by
 obtain ⟨_, rows, _, hR, _⟩ := h
 exact iH hR
theorem gv (h : N d e w base ok v xs) : ∀ k, v.ownBlock = some k → base ≤ k := by
 obtain ⟨_, rows, _, hR, _⟩ := h
 exact bf hR
theorem dy (h : N d e w base ok v xs) : ∀ k, v.ownBlock = some k → ∃ cells, w.heap[k]? = some (.cells cells e (0, 0)) := by
 obtain ⟨_, rows, _, hR, _⟩ := h
 exact KC hR
theorem Aq (h : N d e w base ok v xs) {t : Nat} {cells : Array Value} (hb : w.heap[g]? = some (.cells cells t (0, 0))) (ht : e ≠ t) : some g ≠ v.ownBlock := by
 obtain ⟨_, rows, _, hR, _⟩ := h
 exact sW hR hb ht
theorem Dr (h : N d e w base ok v xs) : N d e w base (fun k => ok k ∧ k < w.heap.size) v xs := by
 have gS := rH h
 obtain ⟨h0, rows, hl, hR, hf⟩ := h
 exact ⟨fun k hk => ⟨h0 k hk, gS k hk⟩, rows, hl, hR, fun j x c hx hc => sM (AE (hf j x c hx hc)) (fun k hk => ⟨⟨hk.1.1, hk.2⟩, hk.1.2⟩)⟩
theorem fT {base' : Nat} (h : N d e w base ok v xs) (hb : base' ≤ base) : N d e w base' ok v xs := by
 obtain ⟨h0, rows, hl, hR, hf⟩ := h
 exact ⟨h0, rows, hl, cO hR hb, hf⟩
theorem Ds (h : N d e w base ok v xs) (hm : ∀ k, ok k → k < w.heap.size → w1.heap[k]? = w.heap[k]?) : N d e w1 base ok v xs := by
 obtain ⟨h0, rows, hl, hR, hf⟩ := h
 exact ⟨h0, rows, hl, vm hR (fun k hk gS => hm k (h0 k hk.symm) gS), fun j x c hx hc => Db (hf j x c hx hc) (fun k hk gS => hm k hk.1 gS)⟩
theorem eN (h : N d e w base ok v xs) (hb : Below w.heap.size w w1) : N d e w1 base ok v xs := Ds h (fun k _ hk => hb.block k hk)
theorem gJ (h : N d e w base ok v xs) (o : Obj) : N d e (w.alloc o) base ok v xs := eN h (eV (Below.refl _ _) o)
theorem iy (h : N d e w base ok v xs) : N d e w.drew base ok v xs := eN h (lY (Below.refl _ _))
theorem gK (h : N d e w base ok v xs) (m : Nat) : N d e (w.drewN m) base ok v xs := eN h (dN (Below.refl _ _) m)
theorem mW (h : N d e w base ok v xs) {p : Addr} (gr : ∀ k, ok k → k ≠ p.block) (u : Value) : N d e (w.setCell p u) base ok v xs := Ds h (fun k ho _ => Below.heap_setCell w p u k (gr k ho))
theorem cw (h : N d e W base ok v xs) (cP : ∀ k, u.ownBlock = some k → W.heap.size ≤ k) (hb : Below W.heap.size W w1) : N d e w1 base (fun k => ok k ∧ some k ≠ u.ownBlock) v xs :=
 bK (eN (Dr h) hb) (fun k hk => ⟨hk.1, fun he => by have := cP k he.symm; have := hk.2; omega⟩)
theorem nL (h : N d e w base ok v xs) (a : Nat) (ha : w.heap.size ≤ a) : N d e w base (fun k => ok k ∧ k ≠ a) v xs := bK (Dr h) (fun k hk => ⟨hk.1, by have := hk.2; omega⟩)
theorem Wc (h : N d e W base (fun k => ok k ∧ some k ≠ u.ownBlock) v xs) {u1 : Value} (hg : W.grownBy w1 u.ownBlock) (bk : u1.ownBlock = u.ownBlock ∨ ∃ b, u1.ownBlock = some b ∧ W.heap.size ≤ b) : N d e w1 base (fun k => ok k ∧ some k ≠ u1.ownBlock) v xs := by
 refine bK (Ds (Dr h) (fun k hk gS => hg.block k gS hk.1.2)) (fun k hk => ⟨hk.1.1, ?_⟩)
 rcases bk with bk | ⟨b, hb, hle⟩
 ·rw [bk]; exact hk.1.2
 ·rw [hb]
  intro he
  injection he with he
  have := hk.2
  omega
theorem da (h : N d e w base ok v xs) : ∃ A c, v = .slice A xs.length c := by
 obtain ⟨_, rows, hl, hR, _⟩ := h
 obtain ⟨A, c, he⟩ := cH hR
 exact ⟨A, c, by rw [he, hl]⟩
theorem cZ {n c : Nat} (h : N d e w base ok (.slice A n c) xs) : n = xs.length ∧ n ≤ c ∧ d.C w A xs.length xs := by
 obtain ⟨_, rows, hl, hR, hf⟩ := h
 obtain ⟨hn, hc, hC⟩ := aq hR
 refine ⟨by omega, hc, ?_⟩
 rw [hl] at hC
 refine ⟨rfl, hC.2.1, fun hp => ?_⟩
 obtain ⟨ad, he, mU⟩ := hC.2.2 hp
 refine ⟨ad, he, fun j p hj => ?_⟩
 have H2 : j < rows.length := by have := (List.getElem?_eq_some_iff.1 hj).1; omega
 obtain ⟨c', t_, hK, wa⟩ := mU j _ (List.getElem?_eq_getElem H2)
 have hk := qe (hf j p _ hj (List.getElem?_eq_getElem H2))
 refine ⟨c', t_, ?_, wa⟩
 rw [show c' = rows[j] from hK.1]
 exact hk
theorem Wd {n : Nat} (h : N d e w base ok (.slice A n cc) xs) : F d w ok A n xs := fun W' hW => by
 have h2 := cZ (Ds h hW)
 rw [h2.1]
 exact h2.2.2
theorem aer {n cap : Nat} (h : N d e W base ok (.slice (some ⟨g, 0, none⟩) n cap) xs) (z : α) (i : Int) (h0 : 0 ≤ i) (h1 : i < n) :
  ∃ c, c.length = d.sz ∧ FK d W (fun k => ok k ∧ k ≠ g) (xs.getD i.toNat z) c ∧ (∀ j u, c[j]? = some u → W.cell? ⟨g, i.toNat * d.sz + j, none⟩ = some u) ∧ ∀ j, W.frozen? ⟨g, i.toNat * d.sz + j, none⟩ = false := by
 obtain ⟨_, rows, hl, hR, hf⟩ := h
 have hn := (aq hR).1
 obtain ⟨c, t_, hM, wa, hfr⟩ := H7 hR [] i h0 h1
 have E_ : i.toNat < rows.length := by omega
 have alp : i.toNat < xs.length := by omega
 have hc : c = rows[i.toNat] := by
  have h2 := hM.1
  rwa [List.getD_eq_getElem?_getD, List.getElem?_eq_getElem E_] at h2
 refine ⟨c, t_, ?_, wa, hfr⟩
 rw [List.getD_eq_getElem?_getD, List.getElem?_eq_getElem alp]
 exact sM (hf _ _ _ (List.getElem?_eq_getElem alp) (by rw [hc]; exact List.getElem?_eq_getElem E_)) (fun k hk => ⟨hk.1, fun he => hk.2 (by rw [he]; simp [Value.ownBlock])⟩)
theorem KI {ad : Addr} {n cap : Nat} (h : N d e W base ok (.slice (some ad) n cap) xs) (z : α) (i : Int) (h0 : 0 ≤ i) (h1 : i < n) :
  ∃ c, c.length = d.sz ∧ FK d W (fun k => ok k ∧ some k ≠ (Value.slice (some ad) n cap).ownBlock) (xs.getD i.toNat z) c ∧ ∀ j u, c[j]? = some u → W.cell? (ad.add (i.toNat * d.sz + j)) = some u := by
 obtain ⟨g, rfl⟩ : ∃ g, ad = ⟨g, 0, none⟩ := by
  obtain ⟨_, rows, _, hR, _⟩ := h
  exact Rq hR
 obtain ⟨c, t_, hM, wa, _⟩ := aer h z i h0 h1
 refine ⟨c, t_, sM hM (fun k hk => ⟨hk.1, fun he => hk.2 (by simpa [Value.ownBlock] using he)⟩), fun j u hu => ?_⟩
 rw [PL, Nat.zero_add]
 exact wa j u hu
end
end Kd
end Go.Proofs.YtggiicplcglalaaGreatW.PrintWords
end
section
namespace Go.Proofs.YtggiicplcglalaaGreatW.PrintWords
theorem cV.one {α : Type} {R : α → List Value → Prop} {ps : List α} {cs : List Value} {p : α} {v : Value} (hp : R p [v]) (h : cV R 1 ps cs) : cV R 1 (p :: ps) (v :: cs) := by
 refine ⟨by simp [h.1], fun j q hq => ?_⟩
 cases j with
 | zero =>
  simp only [List.getElem?_cons_zero, Option.some.injEq] at hq
  subst hq
  simpa using hp
 | succ j =>
  simp only [List.getElem?_cons_succ] at hq
  have h1 := h.2 j q hq
  simpa [Nat.mul_one] using h1
theorem cV.front {α : Type} {R : α → List Value → Prop} {size : Nat} {ps : List α} {cs c all : List Value} {p : α} (hp : R p c) (hc : c.length = size) (h : cV R size ps cs) (ha : c ++ cs = all) : cV R size (p :: ps) all := by
 subst ha
 refine ⟨by rw [List.length_append, hc, h.1, List.length_cons, Nat.succ_mul, Nat.add_comm], fun j q hq => ?_⟩
 cases j with
 | zero =>
  simp only [List.getElem?_cons_zero, Option.some.injEq] at hq
  subst hq
  rw [Nat.zero_mul, List.drop_zero, List.take_append_of_le_length (by omega), List.take_of_length_le (by omega)]
  exact hp
 | succ j =>
  simp only [List.getElem?_cons_succ] at hq
  have h1 := h.2 j q hq
  rw [Nat.succ_mul, List.drop_append, List.drop_of_length_le (by rw [hc]; exact Nat.le_add_left _ _), List.nil_append, hc, Nat.add_sub_cancel]
  exact h1
theorem cV.c2 {α : Type} {R : α → List Value → Prop} {ps : List α} {cs : List Value} {p : α} {va vb : Value} (hp : R p [va, vb]) (h : cV R 2 ps cs) : cV R 2 (p :: ps) (va :: vb :: cs) := cV.front hp rfl h rfl
theorem cV.c3 {α : Type} {R : α → List Value → Prop} {ps : List α} {cs : List Value} {p : α} {va vb vc : Value} (hp : R p [va, vb, vc]) (h : cV R 3 ps cs) : cV R 3 (p :: ps) (va :: vb :: vc :: cs) := cV.front hp rfl h rfl
theorem cV.c4 {α : Type} {R : α → List Value → Prop} {ps : List α} {cs : List Value} {p : α} {va vb vc vd : Value} (hp : R p [va, vb, vc, vd]) (h : cV R 4 ps cs) : cV R 4 (p :: ps) (va :: vb :: vc :: vd :: cs) := cV.front hp rfl h rfl
theorem cV.c5 {α : Type} {R : α → List Value → Prop} {ps : List α} {cs : List Value} {p : α} {va vb vc vd ve : Value} (hp : R p [va, vb, vc, vd, ve]) (h : cV R 5 ps cs) : cV R 5 (p :: ps) (va :: vb :: vc :: vd :: ve :: cs) := cV.front hp rfl h rfl
theorem cV.c6 {α : Type} {R : α → List Value → Prop} {ps : List α} {cs : List Value} {p : α} {va vb vc vd ve vf : Value} (hp : R p [va, vb, vc, vd, ve, vf]) (h : cV R 6 ps cs) : cV R 6 (p :: ps) (va :: vb :: vc :: vd :: ve :: vf :: cs) := cV.front hp rfl h rfl
theorem cV.c7 {α : Type} {R : α → List Value → Prop} {ps : List α} {cs : List Value} {p : α} {va vb vc vd ve vf vg : Value} (hp : R p [va, vb, vc, vd, ve, vf, vg]) (h : cV R 7 ps cs) : cV R 7 (p :: ps) (va :: vb :: vc :: vd :: ve :: vf :: vg :: cs) := cV.front hp rfl h rfl
theorem cV.c8 {α : Type} {R : α → List Value → Prop} {ps : List α} {cs : List Value} {p : α} {va vb vc vd ve vf vg vh : Value} (hp : R p [va, vb, vc, vd, ve, vf, vg, vh]) (h : cV R 8 ps cs) : cV R 8 (p :: ps) (va :: vb :: vc :: vd :: ve :: vf :: vg :: vh :: cs) := cV.front hp rfl h rfl
theorem cV.c9 {α : Type} {R : α → List Value → Prop} {ps : List α} {cs : List Value} {p : α} {va vb vc vd ve vf vg vh vi : Value} (hp : R p [va, vb, vc, vd, ve, vf, vg, vh, vi]) (h : cV R 9 ps cs) : cV R 9 (p :: ps) (va :: vb :: vc :: vd :: ve :: vf :: vg :: vh :: vi :: cs) := cV.front hp rfl h rfl
theorem cV.ot {α : Type} {R : α → List Value → Prop} {ps : List α} {cs : List Value} {p : α} {va vb vc vd ve vf vg vh vi vj : Value} (hp : R p [va, vb, vc, vd, ve, vf, vg, vh, vi, vj]) (h : cV R 10 ps cs) : cV R 10 (p :: ps) (va :: vb :: vc :: vd :: ve :: vf :: vg :: vh :: vi :: vj :: cs) := cV.front hp rfl h rfl
end Go.Proofs.YtggiicplcglalaaGreatW.PrintWords
end
section
namespace Go.Proofs.YtggiicplcglalaaGreatW.PrintLast
def up (b : Nat → Bool) (i : Nat) : Nat → Bool := fun j => if j = i then true else b j
theorem jv (b : Nat → Bool) (i : Nat) : up b i i = true := by simp [up]
theorem AV {b : Nat → Bool} {i j : Nat} (h : j ≠ i) : up b i j = b j := by simp [up, h]
def Dt (n : Nat) (O : List Nat) (b : Nat → Bool) : List Bool := (List.range n).map fun j => if O.contains j then b j else true
def fw (a : Act) (b : Nat → Bool) : List (Nat × Tmp × Value) → Act
 | [] => a
 | e :: r => fw (if b e.1 = true then a.put (some e.2.1) e.2.2 else a) b r
section
variable {P : Program} {ops : Array Oper} {Q : Exit → Act → World → Prop} {md : Region.Mode} {T : Bool × List (List Nat × List Nat)} {B : List Nat} {O : List Nat} {b : Nat → Bool} {i j n : Nat}
theorem JU : (Dt n O b).length = n := by simp [Dt]
theorem yb {d : Bool} (hj : j < n) : (Dt n O b).getD j d = if O.contains j then b j else true := by
 simp [Dt, List.getD_eq_getElem?_getD, hj]
theorem aes (hi : O.contains i = true) : (Dt n O b).set i true = Dt n O (up b i) := by
 apply List.ext_getElem?
 intro j
 by_cases hj : j < n
 ·by_cases Vx : i = j
  ·subst Vx
   have hl : i < (Dt n O b).length := by rw [JU]; exact hj
   rw [List.getElem?_set_self hl]
   simp only [Dt, List.getElem?_map, List.getElem?_range hj, Option.map_some, hi, if_true, jv]
  ·rw [List.getElem?_set_ne Vx]
   simp only [Dt, List.getElem?_map, List.getElem?_range hj, Option.map_some]
   rw [AV (Ne.symm Vx)]
 ·rw [List.getElem?_eq_none (by simp [Dt]; omega), List.getElem?_eq_none (by simp [Dt]; omega)]
def tV (P : Program) (ops : Array Oper) (Q : Exit → Act → World → Prop) (B : List Nat) (O : List Nat) (I : (Nat → Bool) → Act → World → Prop) (i : Nat) : Prop :=
 ∀ b a w, I b a w → b i = false → (∀ j, (O.contains j && (B.getD i 0).testBit j) = true → b j = true) → (∀ d, (O.contains d && (B.getD d 0).testBit i) = true → b d = false) →
  ∃ oi, ops[i]? = some oi ∧ ∀ K : Act → World → Prop, Shut (∀ a' w', I (up b i) a' w' → K a' w') → if Region.wanted oi (yielded ops a.tmps) = true then Oper.wp P oi a w K Q else K (a.put oi.dst undef) w
theorem Ba {I : (Nat → Bool) → Act → World → Prop} : ∀ i ∈ ([] : List Nat), tV P ops Q B O I i := fun _ h => by cases h
theorem dx {I : (Nat → Bool) → Act → World → Prop} {rs : List Nat} (h : tV P ops Q B O I i) (hs : ∀ j ∈ rs, tV P ops Q B O I j) : ∀ j ∈ i :: rs, tV P ops Q B O I j := fun j hj => by
 rcases List.mem_cons.1 hj with rfl | hj
 ·exact h
 ·exact hs j hj
def nf (T : List (List Nat × List Nat)) (O : List Nat) : Bool :=
 (List.range T.length).all (fun d => match T[d]? with
  | some r => (O.contains d || r.1.all fun n => !O.contains n) && r.1.all fun n => decide (n < d)
  | none => false) && O.all (fun i => decide (i < T.length)) && decide O.Nodup
theorem ld {T : List (List Nat × List Nat)} (h : nf T O = true) {d : Nat} {r : List Nat × List Nat} (hr : T[d]? = some r) : (O.contains d = false → ∀ n ∈ r.1, O.contains n = false) ∧ ∀ n ∈ r.1, n < d := by
 simp only [nf, Bool.and_eq_true] at h
 have h1 := List.all_eq_true.1 h.1.1 d (List.mem_range.2 (List.getElem?_eq_some_iff.1 hr).1)
 rw [hr] at h1
 simp only [Bool.and_eq_true, Bool.or_eq_true, List.all_eq_true, decide_eq_true_eq] at h1
 refine ⟨fun hd n hn => ?_, h1.2⟩
 rcases h1.1 with h2 | h2
 ·rw [hd] at h2; cases h2
 ·simpa using h2 n hn
theorem CK {T : List (List Nat × List Nat)} (h : nf T O = true) {i : Nat} (hi : i ∈ O) : i < T.length := by
 simp only [nf, Bool.and_eq_true] at h
 simpa using List.all_eq_true.1 h.1.2 i hi
theorem Du {T : List (List Nat × List Nat)} (h : nf T O = true) : O.Nodup := by
 simp only [nf, Bool.and_eq_true] at h
 exact of_decide_eq_true h.2
def Sd (T : List (List Nat × List Nat)) (O : List Nat) (b : Nat → Bool) : Prop := ∀ d r, T[d]? = some r → O.contains d = true → b d = true → ∀ n ∈ r.1, O.contains n = true → b n = true
theorem Ge {T : List (List Nat × List Nat)} (hw : fG T B = true) (hk : nf T O = true) : ∀ (m d : Nat), d ≤ m → d < T.length → O.contains d = false → ∀ j, (B.getD d 0).testBit j = true → O.contains j = false := by
 intro m
 induction m with
 | zero =>
  intro d hd hl hO j hj
  have hd0 : d = 0 := by omega
  subst hd0
  have hr : T[0]? = some T[0] := List.getElem?_eq_getElem hl
  have h1 := List.all_eq_true.1 hw 0 (List.mem_range.2 hl)
  rw [hr] at h1
  simp only [beq_iff_eq] at h1
  have h2 : (Oz B 0 T[0].1).testBit j = true := by rw [← h1, Nat.testBit_or, hj, Bool.true_or]
  obtain ⟨n, hn, h3⟩ := qc h2
  have := (ld hk hr).2 n hn
  omega
 | succ m ih =>
  intro d hd hl hO j hj
  have hr : T[d]? = some T[d] := List.getElem?_eq_getElem hl
  have h1 := List.all_eq_true.1 hw d (List.mem_range.2 hl)
  rw [hr] at h1
  simp only [beq_iff_eq] at h1
  have h2 : (Oz B d T[d].1).testBit j = true := by rw [← h1, Nat.testBit_or, hj, Bool.true_or]
  obtain ⟨n, hn, h3⟩ := qc h2
  have Td := (ld hk hr).1 hO n hn
  rcases h3 with rfl | ⟨h4, h5⟩
  ·exact Td
  ·exact ih n (by omega) (by omega) Td j h5
theorem xP {T : List (List Nat × List Nat)} (hw : fG T B = true) (hk : nf T O = true) (hc : Sd T O b) : ∀ (m d : Nat), d ≤ m → d < T.length → O.contains d = true → b d = true → ∀ j, O.contains j = true → (B.getD d 0).testBit j = true → b j = true := by
 intro m
 induction m with
 | zero =>
  intro d hd hl hO hb j hjO hj
  have hd0 : d = 0 := by omega
  subst hd0
  have hr : T[0]? = some T[0] := List.getElem?_eq_getElem hl
  have h1 := List.all_eq_true.1 hw 0 (List.mem_range.2 hl)
  rw [hr] at h1
  simp only [beq_iff_eq] at h1
  have h2 : (Oz B 0 T[0].1).testBit j = true := by rw [← h1, Nat.testBit_or, hj, Bool.true_or]
  obtain ⟨n, hn, h3⟩ := qc h2
  have := (ld hk hr).2 n hn
  omega
 | succ m ih =>
  intro d hd hl hO hb j hjO hj
  have hr : T[d]? = some T[d] := List.getElem?_eq_getElem hl
  have h1 := List.all_eq_true.1 hw d (List.mem_range.2 hl)
  rw [hr] at h1
  simp only [beq_iff_eq] at h1
  have h2 : (Oz B d T[d].1).testBit j = true := by rw [← h1, Nat.testBit_or, hj, Bool.true_or]
  obtain ⟨n, hn, h3⟩ := qc h2
  rcases h3 with rfl | ⟨h4, h5⟩
  ·exact hc d _ hr hO hb n hn hjO
  ·cases Td : O.contains n with
   | true => exact ih n (by omega) (by omega) Td (hc d _ hr hO hb n hn Td) j hjO h5
   | false =>
    have := Ge hw hk n n (Nat.le_refl _) (by omega) Td j h5
    rw [hjO] at this
    cases this
theorem Gf : ∀ {O : List Nat}, O.Nodup → i ∈ O → b i = false → (O.filter fun j => !up b i j).length + 1 = (O.filter fun j => !b j).length
 | [], _, hi, _ => by cases hi
 | x :: r, hn, hi, hb => by
  rw [List.nodup_cons] at hn
  rcases List.mem_cons.1 hi with rfl | hi
  ·have h1 : (r.filter fun j => !up b i j) = r.filter fun j => !b j := by
    refine List.filter_congr (fun j hj => ?_)
    rw [AV (fun e => hn.1 (by rw [← e]; exact hj))]
   rw [List.filter_cons, List.filter_cons]
   simp [jv, hb, h1]
  ·have hxi : x ≠ i := fun e => hn.1 (e ▸ hi)
   have h1 := Gf hn.2 hi hb
   rw [List.filter_cons, List.filter_cons, AV hxi]
   cases hbx : b x
   ·simp only [Bool.not_false, if_true, List.length_cons]
    omega
   ·simpa using h1
theorem We (hT : fh md ops = T) (hw : fG T.2 B = true) (hk : nf T.2 O = true) (I : (Nat → Bool) → Act → World → Prop) (hs : ∀ i ∈ O, tV P ops Q B O I i)
  (n9 : ∀ b a w, (∀ j, O.contains j = true → b j = true) → I b a w → Q .normal a w) :
  ∀ (m : Nat) (b : Nat → Bool) (a : Act) (w : World), (O.filter fun j => !b j).length = m → Sd T.2 O b → I b a w → bb P md ops Q (fun _ => True) [] m (Dt T.2.length O b).toArray a w := by
 subst hT
 have AW : ∀ {b : Nat → Bool} {i : Nat}, i ∈ Region.ready md ops (Dt (fh md ops).2.length O b).toArray → i < (fh md ops).2.length ∧ O.contains i = true ∧ b i = false ∧ ∀ r, (fh md ops).2[i]? = some r → ∀ n ∈ r.1, n < (fh md ops).2.length → O.contains n = true → b n = true := by
  intro b i hi
  rw [pQ] at hi
  unfold od at hi
  rw [List.mem_filter, List.mem_range] at hi
  obtain ⟨hl, h1⟩ := hi
  unfold ln at h1
  rw [Bool.and_eq_true, yb hl] at h1
  obtain ⟨h2, h3⟩ := h1
  have h4 : O.contains i = true := by
   cases h : O.contains i with
   | true => rfl
   | false => rw [h] at h2; simp at h2
  rw [h4] at h2
  refine ⟨hl, h4, by simpa using h2, fun r hr n hn WE hO => ?_⟩
  rw [hr] at h3
  simp only [List.all_eq_true] at h3
  have h5 := h3 n hn
  rw [yb WE, hO] at h5
  simpa using h5
 intro m
 induction m with
 | zero =>
  intro b a w hm hc hI
  have hX : ∀ j, O.contains j = true → b j = true := by
   intro j hj
   cases hb : b j with
   | true => rfl
   | false =>
    have : j ∈ O.filter fun j => !b j := List.mem_filter.2 ⟨List.contains_iff_mem.1 hj, by simp [hb]⟩
    rw [List.eq_nil_of_length_eq_zero hm] at this
    cases this
  refine ⟨?_, n9 b a w hX hI⟩
  refine List.eq_nil_iff_forall_not_mem.2 (fun i hi => ?_)
  obtain ⟨_, h1, h2, _⟩ := AW hi
  rw [hX i h1] at h2
  cases h2
 | succ m ih =>
  intro b a w hm hc hI
  refine ⟨fun hr => ?_, fun i hi => ?_⟩
  ·exfalso
   have hex : ∃ i, O.contains i = true ∧ b i = false := by
    cases hf : O.filter (fun j => !b j) with
    | nil => rw [hf] at hm; simp at hm
    | cons x r =>
     have hx : x ∈ O.filter (fun j => !b j) := by rw [hf]; exact List.mem_cons_self
     rw [List.mem_filter] at hx
     exact ⟨x, List.contains_iff_mem.2 hx.1, by simpa using hx.2⟩
   have Ix : ∀ k, (∃ i, i ≤ k ∧ O.contains i = true ∧ b i = false) → ∃ i, O.contains i = true ∧ b i = false ∧ ∀ j, j < i → O.contains j = true → b j = true := by
    intro k
    induction k with
    | zero =>
     rintro ⟨i, hi, h1, h2⟩
     exact ⟨i, h1, h2, fun j hj => by omega⟩
    | succ k ihk =>
     rintro ⟨i, hi, h1, h2⟩
     by_cases Wf : ∃ j, j ≤ k ∧ O.contains j = true ∧ b j = false
     ·exact ihk Wf
     ·refine ⟨i, h1, h2, fun j hj hO => ?_⟩
      cases hb : b j with
      | true => rfl
      | false => exact absurd ⟨j, by omega, hO, hb⟩ Wf
   obtain ⟨i0, h1, h2⟩ := hex
   obtain ⟨i, hO, hb, Wf⟩ := Ix i0 ⟨i0, Nat.le_refl _, h1, h2⟩
   have hl := CK hk (List.contains_iff_mem.1 hO)
   have lS : i ∈ Region.ready md ops (Dt (fh md ops).2.length O b).toArray := by
    rw [pQ]
    unfold od
    rw [List.mem_filter, List.mem_range]
    refine ⟨hl, ?_⟩
    unfold ln
    rw [yb hl, hO, hb]
    have Ai : (fh md ops).2[i]? = some (fh md ops).2[i] := List.getElem?_eq_getElem hl
    rw [Ai]
    simp only [if_true, Bool.not_false, Bool.true_and, List.all_eq_true]
    intro n hn
    have hni := (ld hk Ai).2 n hn
    rw [yb (by omega)]
    cases hOn : O.contains n with
    | true => simpa using Wf n hni hOn
    | false => simp
   rw [hr] at lS
   cases lS
  ·obtain ⟨hl, hO, hb, Se⟩ := AW hi
   have kW : ∀ j, (O.contains j && (B.getD i 0).testBit j) = true → b j = true := by
    intro j hj
    rw [Bool.and_eq_true] at hj
    have Ai : (fh md ops).2[i]? = some (fh md ops).2[i] := List.getElem?_eq_getElem hl
    have h1 := List.all_eq_true.1 hw i (List.mem_range.2 hl)
    rw [Ai] at h1
    simp only [beq_iff_eq] at h1
    have h2 : (Oz B i (fh md ops).2[i].1).testBit j = true := by rw [← h1, Nat.testBit_or, hj.2, Bool.true_or]
    obtain ⟨n, hn, h3⟩ := qc h2
    have hni := (ld hk Ai).2 n hn
    rcases h3 with rfl | ⟨h4, h5⟩
    ·exact Se _ Ai n hn (by omega) hj.1
    ·cases Td : O.contains n with
     | true => exact xP hw hk hc n n (Nat.le_refl _) (by omega) Td (Se _ Ai n hn (by omega) Td) j hj.1 h5
     | false =>
      have := Ge hw hk n n (Nat.le_refl _) (by omega) Td j h5
      rw [hj.1] at this
      cases this
   have ju : ∀ d, (O.contains d && (B.getD d 0).testBit i) = true → b d = false := by
    intro d hd
    rw [Bool.and_eq_true] at hd
    cases ZB : b d with
    | false => rfl
    | true =>
     have O6 := CK hk (List.contains_iff_mem.1 hd.1)
     have := xP hw hk hc d d (Nat.le_refl _) O6 hd.1 ZB i hO hd.2
     rw [hb] at this
     cases this
   obtain ⟨oi, hoi, hK⟩ := hs i (List.contains_iff_mem.1 hO) b a w hI hb kW ju
   refine wpOp_step hoi (fun K' hK' => hK K' (fun a' w' hI' => hK' a' w' ⟨fun _ _ => trivial, ?_⟩))
   have arV : (Dt (fh md ops).2.length O b).toArray.setIfInBounds i true = (Dt (fh md ops).2.length O (up b i)).toArray := by
    apply Array.ext'
    rw [Array.toList_setIfInBounds]
    exact aes hO
   rw [arV]
   refine ih (up b i) a' w' ?_ ?_ hI'
   ·have := Gf (Du hk) (List.contains_iff_mem.1 hO) hb
    omega
   ·intro d r hr hOd ZB n hn hOn
    by_cases hni : n = i
    ·rw [hni, jv]
    ·rw [AV hni]
     by_cases hdi : d = i
     ·subst hdi
      exact Se r hr n hn (by have := (ld hk hr).2 n hn; omega) hOn
     ·rw [AV hdi] at ZB
      exact hc d r hr hOd ZB n hn hOn
theorem kX {b : Nat → Bool} {t : Tmp} : ∀ {L : List (Nat × Tmp × Value)} {a : Act}, (L.all fun e => !(e.2.1 == t)) = true → (fw a b L).tmps[t]? = a.tmps[t]?
 | [], _, _ => rfl
 | e :: r, a, h => by
  rw [List.all_cons, Bool.and_eq_true] at h
  have he : e.2.1 ≠ t := by simpa using h.1
  unfold fw
  by_cases hb : b e.1 = true
  ·rw [if_pos hb, kX h.2]
   simp [Act.put, Array.getElem?_setIfInBounds_ne he]
  ·rw [if_neg hb]
   exact kX h.2
theorem eZ {b : Nat → Bool} {e : Nat × Tmp × Value} : ∀ {L : List (Nat × Tmp × Value)} {a : Act} (k : Nat), L[k]? = some e → ((L.drop (k + 1)).all fun x => !(x.2.1 == e.2.1)) = true → b e.1 = true → Nat.ble (e.2.1 + 1) a.tmps.size = true → (fw a b L).tmps[e.2.1]? = some e.2.2
 | [], _, _, h, _, _, _ => by cases h
 | x :: r, a, 0, h, hd, hb, ht => by
  simp only [List.getElem?_cons_zero, Option.some.injEq] at h
  subst h
  unfold fw
  rw [if_pos hb, kX (by simpa using hd)]
  have ht2 : x.2.1 < a.tmps.size := Nat.le_of_ble_eq_true ht
  simp [Act.put, ht2]
 | x :: r, a, k + 1, h, hd, hb, ht => by
  unfold fw
  refine eZ k (by simpa using h) (by simpa using hd) hb ?_
  by_cases hx : b x.1 = true
  ·rw [if_pos hx]
   simpa [Act.put] using ht
  ·rw [if_neg hx]
   exact ht
theorem put_comm {a : Act} {s t : Tmp} {u v : Value} (h : s ≠ t) : (a.put (some s) u).put (some t) v = (a.put (some t) v).put (some s) u := by
 simp only [Act.put]
 rw [Array.setIfInBounds_comm _ _ h]
theorem tW {b : Nat → Bool} {t : Tmp} {v : Value} : ∀ {L : List (Nat × Tmp × Value)} {a : Act}, (L.all fun e => !(e.2.1 == t)) = true → (fw a b L).put (some t) v = fw (a.put (some t) v) b L
 | [], _, _ => rfl
 | e :: r, a, h => by
  rw [List.all_cons, Bool.and_eq_true] at h
  have he : e.2.1 ≠ t := by simpa using h.1
  unfold fw
  by_cases hb : b e.1 = true
  ·rw [if_pos hb, if_pos hb, tW h.2, put_comm he]
  ·rw [if_neg hb, if_neg hb]
   exact tW h.2
theorem rc {b : Nat → Bool} {i : Nat} : ∀ {L : List (Nat × Tmp × Value)} {a : Act}, (L.all fun e => !(e.1 == i)) = true → fw a (up b i) L = fw a b L
 | [], _, _ => rfl
 | e :: r, a, h => by
  rw [List.all_cons, Bool.and_eq_true] at h
  have he : e.1 ≠ i := by simpa using h.1
  unfold fw
  rw [AV he]
  exact rc h.2
theorem CM {b : Nat → Bool} {i : Nat} {t : Tmp} {v0 v : Value} : ∀ {L1 L2 : List (Nat × Tmp × Value)} {a : Act}, b i = false → ((L1 ++ L2).all fun e => !(e.1 == i) && !(e.2.1 == t)) = true →
  (fw a b (L1 ++ (i, t, v0) :: L2)).put (some t) v = fw a (up b i) (L1 ++ (i, t, v) :: L2)
 | [], L2, a, hb, h => by
  simp only [List.nil_append] at h ⊢
  have h1 : (L2.all fun e => !(e.1 == i)) = true := List.all_eq_true.2 (fun e he => by have := List.all_eq_true.1 h e he; simp only [Bool.and_eq_true] at this; exact this.1)
  have h2 : (L2.all fun e => !(e.2.1 == t)) = true := List.all_eq_true.2 (fun e he => by have := List.all_eq_true.1 h e he; simp only [Bool.and_eq_true] at this; exact this.2)
  unfold fw
  rw [if_neg (by rw [hb]; decide), if_pos (jv b i), tW h2, rc h1]
 | e :: r, L2, a, hb, h => by
  simp only [List.cons_append, List.all_cons, Bool.and_eq_true] at h
  have he : e.1 ≠ i := by simpa using h.1.1
  simp only [List.cons_append]
  unfold fw
  rw [AV he]
  exact CM hb h.2
theorem eR {b : Nat → Bool} {i : Nat} {t : Tmp} {v0 v : Value} {a : Act} {L L' : List (Nat × Tmp × Value)} (k : Nat) (hb : b i = false) (hL : L[k]? = some (i, t, v0)) (hL' : L.set k (i, t, v) = L') (hd : ((L.take k ++ L.drop (k + 1)).all fun e => !(e.1 == i) && !(e.2.1 == t)) = true) :
  (fw a b L).put (some t) v = fw a (up b i) L' := by
 have hk := (List.getElem?_eq_some_iff.1 hL).1
 have h1 : L = L.take k ++ (i, t, v0) :: L.drop (k + 1) := by
  have h2 : L[k] = (i, t, v0) := (List.getElem?_eq_some_iff.1 hL).2
  rw [← h2, List.getElem_cons_drop, List.take_append_drop]
 have h3 : L' = L.take k ++ (i, t, v) :: L.drop (k + 1) := by rw [← hL', List.set_eq_take_append_cons_drop, if_pos hk]
 rw [h3]
 conv => lhs; rw [h1]
 exact CM hb hd
theorem wv {b : Nat → Bool} {i : Nat} {L : List (Nat × Tmp × Value)} {a : Act} {v : Value} (h : (L.all fun e => !(e.1 == i)) = true) : (fw a b L).put none v = fw a (up b i) L := (rc h).symm
theorem arW {l : Array Bool} {dF : Nat} {a : Act} {w : World} (O : List Nat) (I : (Nat → Bool) → Act → World → Prop) (hT : fh md ops = T) (hw : fG T.2 B = true) (hk : nf T.2 O = true)
  (hl : (Dt T.2.length O (fun _ => false) == l.toList && O.length == dF) = true) (h0 : I (fun _ => false) a w) (hs : ∀ i ∈ O, tV P ops Q B O I i)
  (n9 : ∀ b a w, (∀ j, O.contains j = true → b j = true) → I b a w → Q .normal a w) : bb P md ops Q (fun _ => True) [] dF l a w := by
 rw [Bool.and_eq_true, beq_iff_eq, beq_iff_eq] at hl
 have h1 := We hT hw hk I hs n9 dF (fun _ => false) a w (by rw [← hl.2]; simp) (fun d r _ _ hb => by cases hb) h0
 have h2 : (Dt T.2.length O (fun _ => false)).toArray = l := by apply Array.ext'; exact hl.1
 rw [h2] at h1
 exact h1
theorem Pf {l : Array Bool} {dF : Nat} {a : Act} {w : World} (O : List Nat) (I : Act → (Nat → Bool) → Act → World → Prop) (hT : fh md ops = T) (hw : fG T.2 B = true) (hk : nf T.2 O = true)
  (hl : (Dt T.2.length O (fun _ => false) == l.toList && O.length == dF) = true) (h0 : I a (fun _ => false) a w) (hs : ∀ i ∈ O, tV P ops Q B O (I a) i)
  (n9 : ∀ b a' w, (∀ j, O.contains j = true → b j = true) → I a b a' w → Q .normal a' w) : bb P md ops Q (fun _ => True) [] dF l a w := arW O (I a) hT hw hk hl h0 hs n9
end
end Go.Proofs.YtggiicplcglalaaGreatW.PrintLast
end
section
namespace Go.Proofs.YtggiicplcglalaaGreatW.PrintWords
open Go.RowKit
end Go.Proofs.YtggiicplcglalaaGreatW.PrintWords
namespace Go.Proofs.YtggiicplcglalaaGreatW.PrintLast
section
variable {ops : Array Oper} {a : Act} {o og : Oper} {g : Nat} {t : Tmp} {u : Bool}
theorem oF {v : Value} (h : a.tmps[t]? = some v) : a.eval (.tmp t) = v := by simp [Act.eval, h]
end
end Go.Proofs.YtggiicplcglalaaGreatW.PrintLast
end
section
namespace Go.Proofs.YtggiicplcglalaaGreatW.PrintWords
open Go.RowKit
section
variable {P : Program} {ops : Array Oper} {rest : List Oper} {o : Oper} {a : Act} {Q : Exit → Act → World → Prop} {W : World}
theorem ga (hw : Region.wanted o (yielded ops a.tmps) = true) (h : wpList P ops Q ({ o with guard := none } :: rest) a W) : wpList P ops Q (o :: rest) a W := by
 have h1 : Region.wanted { o with guard := none } (yielded ops a.tmps) = true := rfl
 unfold wpList at h ⊢
 rw [if_pos h1] at h
 rw [if_pos hw]
 exact h
end
end Go.Proofs.YtggiicplcglalaaGreatW.PrintWords
end
section
namespace Go.Proofs.YtggiicplcglalaaGreatW.PrintWords
open Go.RowKit
namespace Kd
section
variable {α : Type} {d : Kd α} {e base n cap g : Nat} {ok ok' okp : Nat → Prop} {w w1 W : World} {v v1 : Value} {xs ys : List α}
theorem AX {rows news : List (List Value)} (h0 : ∀ k, v.ownBlock = some k → ok k) (hl : rows.length = xs.length) (hf : ∀ (j : Nat) (x : α) (c : List Value), xs[j]? = some x → rows[j]? = some c → FK d W (fun k => ok k ∧ some k ≠ v.ownBlock) x c)
  (Po : news.length = ys.length) (hf2 : ∀ (j : Nat) (x : α) (c : List Value), ys[j]? = some x → news[j]? = some c → FK d W okp x c) (lv : ∀ k, okp k → ok k ∧ some k ≠ v.ownBlock) (eH : ∀ k, W.heap.size ≤ k → ok k)
  (hR : (raw d.sz).R e w1 base (fun _ => True) v1 (rows ++ news)) (hg : W.grownBy w1 v.ownBlock) (bk : v1.ownBlock = v.ownBlock ∨ ∃ b, v1.ownBlock = some b ∧ W.heap.size ≤ b) : N d e w1 base ok v1 (xs ++ ys) := by
 have fv : ∀ k, some k ≠ v.ownBlock → k < W.heap.size → some k ≠ v1.ownBlock := by
  intro k hk gS
  rcases bk with bk | ⟨b, hb, hle⟩
  ·rw [bk]; exact hk
  ·rw [hb]
   intro he
   injection he with he
   omega
 have step : ∀ {x : α} {c : List Value} {o : Nat → Prop}, FK d W o x c → (∀ k, o k → ok k ∧ some k ≠ v.ownBlock) → FK d w1 (fun k => ok k ∧ some k ≠ v1.ownBlock) x c := by
  intro x c o hq ho
  exact sM (Db (AE hq) (fun k hk gS => hg.block k gS (ho k hk.1).2)) (fun k hk => ⟨(ho k hk.1).1, fv k (ho k hk.1).2 hk.2⟩)
 refine ⟨fun k hk => ?_, rows ++ news, by rw [List.length_append, List.length_append, hl, Po], CJ hR, fun j x c hx hc => ?_⟩
 ·rcases bk with bk | ⟨b, hb, hle⟩
  ·exact h0 k (bk ▸ hk)
  ·rw [hb] at hk
   injection hk with hk
   exact eH k (by omega)
 ·rcases Nat.lt_or_ge j xs.length with gS | Xo
  ·rw [List.getElem?_append_left gS] at hx
   rw [List.getElem?_append_left (by omega)] at hc
   exact step (hf j x c hx hc) (fun _ hk => hk)
  ·rw [List.getElem?_append_right Xo] at hx
   rw [List.getElem?_append_right (by omega), hl] at hc
   exact step (hf2 _ x c hx hc) lv
theorem aet {x : α} {c : List Value} (h : FK d W ok x c) : c = c ∧ c.length = d.sz ∧ ∀ u ∈ c, u.oneCell' = true := ⟨rfl, d.jb (qe h), d.iU (qe h)⟩
theorem aeu {rows : List (List Value)} (hR : (raw d.sz).R e w1 base (fun k => k = W.heap.size) v1 rows) (hg : W.grownBy w1 none) (bk : ∃ b, v1.ownBlock = some b ∧ W.heap.size ≤ b) (hl : rows.length = xs.length) (hf : ∀ (j : Nat) (x : α) (c : List Value), xs[j]? = some x → rows[j]? = some c → FK d W okp x c)
  (gr : ∀ k, okp k → ok k) (eH : ok W.heap.size) : N d e w1 base ok v1 xs := by
 obtain ⟨b, hb, hle⟩ := bk
 refine ⟨fun k hk => by rw [hR.1 k hk]; exact eH, rows, hl, CJ hR, fun j x c hx hc => ?_⟩
 refine sM (Db (AE (hf j x c hx hc)) (fun k hk gS => hg.block k gS (by simp))) (fun k hk => ⟨gr k hk.1, fun he => ?_⟩)
 rw [hb] at he
 injection he with he
 have := hk.2
 omega
theorem O7 {Rr : α → List Value → Prop} {sz m : Nat} {A : Option Addr} (h : fL Rr sz W A m ys) (hR : ∀ x c, Rr x c → c.length = sz ∧ ∀ u ∈ c, u.oneCell' = true) :
  ∃ news : List (List Value), news.length = ys.length ∧ fL (fun x cs => cs = x ∧ cs.length = sz ∧ ∀ u ∈ cs, u.oneCell' = true) sz W A m news ∧ ∀ (j : Nat) (x : α) (c : List Value), ys[j]? = some x → news[j]? = some c → Rr x c := by
 rcases Nat.eq_zero_or_pos m with h0 | hp
 ·have hy : ys = [] := List.eq_nil_of_length_eq_zero (h.1.trans h0)
  subst hy
  exact ⟨[], rfl, ⟨h0 ▸ rfl, h.2.1, fun hp => by omega⟩, fun j x c hx => by simp at hx⟩
 ·obtain ⟨ad, rfl, _⟩ := h.2.2 hp
  obtain ⟨inner, hr, hc⟩ := fL.H6 h
  refine ⟨chunks sz ys.length inner, fD _ _ _, ⟨by rw [fD]; exact h.1, h.2.1, fun _ => ⟨ad, rfl, fun j p hj => ?_⟩⟩, fun j x c hx wa => ?_⟩
  ·have H2 : j < ys.length := by have := (List.getElem?_eq_some_iff.1 hj).1; rwa [fD] at this
   have hpe := nc hj
   have hq := hR _ _ (hr.2 j _ (List.getElem?_eq_getElem H2))
   rw [← hpe] at hq
   refine ⟨p, hq.1, ⟨rfl, hq⟩, fun i u hu => ?_⟩
   have hu2 : inner[j * sz + i]? = some u := by
    rw [hpe, List.getElem?_take] at hu
    split at hu
    ·rw [List.getElem?_drop] at hu
     exact hu
    ·cases hu
   exact hc _ u hu2
  ·rw [nc wa]
   exact hr.2 j x hx
end
section
variable {P : Program} {ops : Array Oper} {rest : List Oper} {o : Oper} {a : Act} {Q : Exit → Act → World → Prop} {Kc : Act → World → Prop} {α : Type}
theorem iX (d : Kd α) {w0 W : World} (base : Nat) (sU : o.guard = none) (s x : Operand) (t e : TypeId) (z : Value) (bytes : Nat)
  (ho : o.op = .call { callee := .builtin .append, args := #[s, x], argTypes := #[t, t] })
  (ht : P.underlying t = some (.slice e)) (gT : (P.info? e).map (fun i => (i.zero, i.size, i.bytes)) = some (some z, d.sz, bytes)) (hz : z.cells.size = d.sz) (nE : 0 < d.sz) (sV : 0 < bytes)
  (v : Value) (xs : List α) (p : α) (cs : List Value) (ok okp : Nat → Prop) (hs : a.eval s = v) (hx : a.eval x = .slice (some ⟨W.heap.size, 0, none⟩) 1 1) (hp : FK d W okp p cs) (lv : ∀ k, okp k → ok k ∧ some k ≠ v.ownBlock) (eH : ∀ k, W.heap.size ≤ k → ok k)
  (HO : N d e W base ok v xs) (HB : Below base w0 W) (cP : base ≤ W.heap.size) (hl : (xs.length + 1) * bytes ≤ 140737488355328)
  (h : ∀ v1 w1, N d e w1 base ok v1 (xs ++ [p]) → Below base w0 w1 → W.grownBy w1 v.ownBlock → (v1.ownBlock = v.ownBlock ∨ ∃ b, v1.ownBlock = some b ∧ W.heap.size ≤ b) → wpList P ops Q rest (a.put o.dst v1) w1) :
  wpList P ops Q (o :: rest) a (W.alloc (.cells cs.toArray e)) := by
 obtain ⟨h0, rows, PA, hR, hf⟩ := HO
 refine fV (raw d.sz) base sU s x t e z bytes ho ht gT hz nE sV v rows cs cs (fun _ => True) (fun _ => False) hs hx (aet hp) (fun _ hk => hk.elim) (fun _ _ => trivial) (MO hR) HB cP (by rw [PA]; exact hl) ?_
 intro v1 w1 hr hb hg bk
 exact h v1 w1 (AX h0 PA hf (ys := [p]) (news := [cs]) rfl (fun j y c hy hc => by
  rcases j with _ | j
  ·simp only [List.getElem?_cons_zero, Option.some.injEq] at hy hc
   rw [← hy, ← hc]; exact hp
  ·simp at hy) lv eH hr hg bk) hb hg bk
theorem kK (d : Kd α) {w0 W : World} (base : Nat) (sU : o.guard = none) (s x : Operand) (t e : TypeId) (z : Value) (bytes : Nat)
  (ho : o.op = .call { callee := .builtin .append, args := #[s, x], argTypes := #[t, t] })
  (ht : P.underlying t = some (.slice e)) (gT : (P.info? e).map (fun i => (i.zero, i.size, i.bytes)) = some (some z, d.sz, bytes)) (hz : z.cells.size = d.sz) (nE : 0 < d.sz) (sV : 0 < bytes)
  (v : Value) (xs ys : List α) (A : Option Addr) (m c : Nat) (ok okp : Nat → Prop) (hs : a.eval s = v) (hx : a.eval x = .slice A m c)
  (HO : N d e W base ok v xs) (HR : F d W okp A m ys) (lv : ∀ k, okp k → ok k ∧ some k ≠ v.ownBlock) (eH : ∀ k, W.heap.size ≤ k → ok k)
  (HB : Below base w0 W) (cP : base ≤ W.heap.size) (hl : (xs.length + m) * bytes ≤ 140737488355328)
  (h : ∀ v1 w1, N d e w1 base ok v1 (xs ++ ys) → Below base w0 w1 → W.grownBy w1 v.ownBlock → (v1.ownBlock = v.ownBlock ∨ ∃ b, v1.ownBlock = some b ∧ W.heap.size ≤ b) → wpList P ops Q rest (a.put o.dst v1) w1) :
  wpList P ops Q (o :: rest) a W := by
 obtain ⟨h0, rows, PA, hR, hf⟩ := HO
 obtain ⟨news, WE, hnr, hnf⟩ := O7 (aeq HR) (fun y c hk => ⟨d.jb (qe hk), d.iU (qe hk)⟩)
 refine gO (raw d.sz) base sU s x t e z bytes ho ht gT hz nE sV v rows news A m c (fun _ => True) (fun _ => False) hs hx (MO hR) hnr (fun _ _ hk => hk) (fun _ hk => hk.elim) (fun _ _ => trivial) HB cP (by rw [PA]; exact hl) ?_
 intro v1 w1 hr hb hg bk
 exact h v1 w1 (AX h0 PA hf WE hnf lv eH hr hg bk) hb hg bk
theorem nK (d : Kd α) {w0 W : World} (base e : Nat) (sU : o.guard = none) {N' : Tmp} (_hd : o.dst = some N') {xs : List α} {inner : List Value} {ok okp : Nat → Prop}
  (jP : (execOp a.eval o).run P W = .ok (.value (.slice (some ⟨W.heap.size, 0, none⟩) xs.length xs.length)) (W.alloc (.cells inner.toArray e)))
  (An : cV (FK d W okp) d.sz xs inner) (gr : ∀ k, okp k → ok k) (eH : ok W.heap.size) (HB : Below base w0 W) (cP : base ≤ W.heap.size) (hm : xs.length ≤ 9223372036854775807)
  (h : ∀ v1 w1, N d e w1 base ok v1 xs → Below base w0 w1 → W.grownBy w1 none → (∃ b, v1.ownBlock = some b ∧ W.heap.size ≤ b) → wpList P ops Q rest (a.put o.dst v1) w1) :
  wpList P ops Q (o :: rest) a W := by
 refine ov (raw d.sz) base e sU _hd (xs := chunks d.sz xs.length inner) (inner := inner) (ok := fun k => k = W.heap.size) (okp := fun _ => False) (by rw [fD]; exact jP) (Gd An (fun y c hk => ⟨d.jb (qe hk), d.iU (qe hk)⟩)) (fun _ hk => hk.elim) rfl HB cP (by rw [fD]; exact hm) ?_
 intro v1 w1 hr hb hg bk
 exact h v1 w1 (aeu hr hg bk (fD _ _ _) (fun j y c hy hc => by rw [nc hc]; exact An.2 j y hy) gr eH) hb hg bk
end
end Kd
end Go.Proofs.YtggiicplcglalaaGreatW.PrintWords
end
section
namespace Go.Proofs.YtggiicplcglalaaGreatW.PrintMore
open Go.RowKit YtggiicplcglalaaGreatW.PrintWords
theorem max2_int (k k' : IntKind) (x y : Int) : Builtin.max2 (.int k x) (.int k' y) = pure (.int k (if x < y then y else x)) := by simp only [Builtin.max2, gt_iff_lt]
theorem min2_int (k k' : IntKind) (x y : Int) : Builtin.min2 (.int k x) (.int k' y) = pure (.int k (if y < x then y else x)) := by simp only [Builtin.min2]
theorem max_two (Sf : Array TypeId) (ty : TypeId) (a b : Value) : Builtin.max_ Sf ty #[a, b] = (Builtin.max2 a b >>= fun s => pure s) := by simp only [Builtin.max_, List.foldlM_cons, List.foldlM_nil]
theorem min_two (Sf : Array TypeId) (ty : TypeId) (a b : Value) : Builtin.min_ Sf ty #[a, b] = (Builtin.min2 a b >>= fun s => pure s) := by simp only [Builtin.min_, List.foldlM_cons, List.foldlM_nil]
theorem max_three (Sf : Array TypeId) (ty : TypeId) (a b c : Value) : Builtin.max_ Sf ty #[a, b, c] = (Builtin.max2 a b >>= fun s => Builtin.max2 s c >>= fun s => pure s) := by simp only [Builtin.max_, List.foldlM_cons, List.foldlM_nil]
theorem min_three (Sf : Array TypeId) (ty : TypeId) (a b c : Value) : Builtin.min_ Sf ty #[a, b, c] = (Builtin.min2 a b >>= fun s => Builtin.min2 s c >>= fun s => pure s) := by simp only [Builtin.min_, List.foldlM_cons, List.foldlM_nil]
theorem max_four (Sf : Array TypeId) (ty : TypeId) (a b c d : Value) : Builtin.max_ Sf ty #[a, b, c, d] = (Builtin.max2 a b >>= fun s => Builtin.max2 s c >>= fun s => Builtin.max2 s d >>= fun s => pure s) := by simp only [Builtin.max_, List.foldlM_cons, List.foldlM_nil]
theorem min_four (Sf : Array TypeId) (ty : TypeId) (a b c d : Value) : Builtin.min_ Sf ty #[a, b, c, d] = (Builtin.min2 a b >>= fun s => Builtin.min2 s c >>= fun s => Builtin.min2 s d >>= fun s => pure s) := by simp only [Builtin.min_, List.foldlM_cons, List.foldlM_nil]
end Go.Proofs.YtggiicplcglalaaGreatW.PrintMore
namespace Go.Proofs.YtggiicplcglalaaGreatW.PrintWords
open Go.RowKit
section
variable {P : Program} {ops : Array Oper} {rest : List Oper} {o : Oper} {a : Act} {Q : Exit → Act → World → Prop} {W : World}
theorem ZO {f : FuncId} {as : Array Operand} {ts : Array TypeId} (_ho : o.op = .call { callee := .value (.func f), args := as, argTypes := ts }) (h : wpList P ops Q (o :: rest) a W) : wpList P ops Q (o :: rest) a W := h
theorem bC {b : Builtin} {xs : Array Operand} {ts : Array TypeId} (_ho : o.op = .call { callee := .builtin b, args := xs, argTypes := ts }) (h : wpList P ops Q (o :: rest) a W) : wpList P ops Q (o :: rest) a W := h
end
def mx (a b : Int) : Int := if a < b then b else a
def shl (k : IntKind) (x y : Int) : Int := k.wrap (x * 2 ^ min y.toNat k.bits)
def shr (k : IntKind) (x y : Int) : Int := x / 2 ^ min y.toNat k.bits
theorem Nd {k : IntKind} {x y j : Int} (h : shl k x y = j) (hy : y ≤ k.bits) : k.wrap (x * 2 ^ y.toNat) = j := by rw [← h]; unfold shl; rw [Nat.min_eq_left (by omega)]
theorem Nf {k : IntKind} {x y j : Int} (h : shr k x y = j) (hy : y ≤ k.bits) : x / 2 ^ y.toNat = j := by rw [← h]; unfold shr; rw [Nat.min_eq_left (by omega)]
namespace Kd
section
variable {α : Type} {d : Kd α} {e base : Nat} {ok : Nat → Prop} {W w1 : World} {v : Value} {xs : List α}
theorem Ew (h : d.R e W base ok v xs) (hE : d.E = []) {row : Option Nat} (hg : W.grownBy w1 row) (fv : ∀ k, row = some k → some k ≠ v.ownBlock) : d.R e w1 base ok v xs :=
 bD (Tk (jr hE h) hg (fun k hk e_ => fv k e_.symm hk)) (fun k hk => h.1 k hk.symm)
end
section
variable {α : Type} {d : Kd α} {e base b b' g N : Nat} {ok ok1 : Nat → Prop} {W W2 w1 : World} {u v : Value} {xs ys : List α} {S : Nat → Prop}
theorem DM (h : d.R e W base ok v xs) (hk : Kept W W2 S) (fv : ∀ k, ok k → ¬ S k) : d.R e W2 base (fun k => ok k ∧ (¬ S k ∧ k < W.heap.size)) v xs :=
 Hv (bD (jX h) (fun k hk => ⟨hk.1, fv k hk.1, hk.2.2.1⟩)) hk (fun _ hk => hk.2.1)
theorem Wg (h : Kd.S d e W base ok v xs) (hk : Kept W W2 S) (fv : ∀ k, ok k → ¬ S k) : Kd.S d e W2 base (fun k => ok k ∧ (¬ S k ∧ k < W.heap.size)) v xs :=
 adV (cJ (sL h) (fun k hk => ⟨hk.1, fv k hk.1, hk.2.2.1⟩)) hk (fun _ hk => hk.2.1)
end
end Kd
end Go.Proofs.YtggiicplcglalaaGreatW.PrintWords
namespace Go.Proofs.YtggiicplcglalaaGreatW.PrintWords
open Go.RowKit
namespace Kd
def V {α : Type} (d : Kd α) (_e : Nat) (W : World) (_base : Nat) (ok : Nat → Prop) (v : Value) (xs : List α) : Prop := ∃ A c, v = .slice A xs.length c ∧ xs.length ≤ c ∧ F d W ok A xs.length xs
section
variable {α β : Type} {d : Kd α} {e base base' n m c g N' lo hi : Nat} {ok ok' S : Nat → Prop} {w W w1 : World} {A : Option Addr} {ad : Addr} {u v v1 : Value} {xs : List α}
theorem re (h : V d e W base ok v xs) (hF : ∀ A, F d W ok A xs.length xs → F d w1 ok' A xs.length xs) : V d e w1 base' ok' v xs := by
 obtain ⟨A, c, hv, hl, hf⟩ := h
 exact ⟨A, c, hv, hl, hF A hf⟩
theorem jo (hl : xs.length ≤ c) (hf : F d W ok A xs.length xs) : V d e W base ok (.slice A xs.length c) xs := ⟨A, c, rfl, hl, hf⟩
theorem lh (h : V d e W base ok v xs) : ∃ A c, v = .slice A xs.length c := by
 obtain ⟨A, c, hv, _⟩ := h
 exact ⟨A, c, hv⟩
theorem FP (h : V d e W base ok (.slice A n c) xs) : n = xs.length ∧ n ≤ c ∧ F d W ok A xs.length xs := by
 obtain ⟨A', c', hv, hl, hf⟩ := h
 injection hv with ha hn hc
 subst ha; subst hc
 exact ⟨hn, by rw [hn]; exact hl, hf⟩
theorem bN (h : V d e W base ok (.slice A n c) xs) : n = xs.length ∧ n ≤ c ∧ d.C W A xs.length xs := ⟨(FP h).1, (FP h).2.1, SD (FP h).2.2⟩
theorem PS (h : V d e W base ok (.slice A n c) xs) : F d W ok A n xs := by
 obtain ⟨hn, _, hf⟩ := FP h
 rw [hn]
 exact hf
theorem zI (d : Kd α) (e : Nat) (W : World) (base : Nat) (ok : Nat → Prop) : V d e W base ok (.slice none 0 0) [] := ⟨none, 0, rfl, Nat.le_refl _, akP d W ok⟩
theorem R_V (h : d.R e W base ok v xs) : V d e W base' ok v xs := by
 obtain ⟨A, c, rfl⟩ := cH h
 exact ⟨A, c, rfl, (aq h).2.1, R_F h⟩
theorem S_V (h : Kd.S d e W base ok v xs) : V d e W base' ok v xs := R_V (Rp h)
theorem PU (h : N d e W base ok v xs) : V d e W base' ok v xs := by
 obtain ⟨A, c, rfl⟩ := da h
 exact ⟨A, c, rfl, (cZ h).2.1, Wd h⟩
theorem af (h : V d e W base ok v xs) (gr : ∀ k, ok k → ok' k) : V d e W base ok' v xs := re h (fun _ hf => rN hf gr)
theorem K8 (h : V d e W base ok v xs) : V d e W base (fun k => ok k ∧ k < W.heap.size) v xs := re h (fun _ hf => Da hf)
theorem mi (h : V d e W base ok v xs) (_ : base' ≤ base) : V d e W base' ok v xs := h
theorem cn (h : V d e W base ok v xs) (hb : Below W.heap.size W w1) : V d e w1 base ok v xs := re h (fun _ hf => mh hf hb)
theorem iz (h : V d e W base ok v xs) (o : Obj) : V d e (W.alloc o) base ok v xs := re h (fun _ hf => WI hf o)
theorem ee (h : V d e W base ok v xs) : V d e W.drew base ok v xs := re h (fun _ hf => adW hf)
theorem jA (h : V d e W base ok v xs) (m : Nat) : V d e (W.drewN m) base ok v xs := re h (fun _ hf => WJ hf m)
theorem oD (h : V d e W base ok v xs) {p : Addr} (gr : ∀ k, ok k → k ≠ p.block) (u : Value) : V d e (W.setCell p u) base ok v xs := re h (fun _ hf => akO hf gr u)
theorem Pg (h : V d e W base ok v xs) (hk : Kept W w1 S) (gr : ∀ k, ok k → ¬ S k) : V d e w1 base ok v xs := re h (fun _ hf => adX hf hk gr)
theorem Wh (h : V d e W base (fun k => ok k ∧ some k ≠ u.ownBlock) v xs) (hg : W.grownBy w1 u.ownBlock) (bk : v1.ownBlock = u.ownBlock ∨ ∃ b, v1.ownBlock = some b ∧ W.heap.size ≤ b) : V d e w1 base (fun k => ok k ∧ some k ≠ v1.ownBlock) v xs := re h (fun _ hf => WK hf hg bk)
theorem bH (h : V d e W base (fun k => ok k ∧ some k ≠ v.ownBlock) u xs) (hg : W.grownBy w1 v.ownBlock) (bk : v1.ownBlock = v.ownBlock ∨ ∃ b, v1.ownBlock = some b ∧ W.heap.size ≤ b) : V d e w1 base (fun k => ok k ∧ some k ≠ v1.ownBlock) u xs := Wh h hg bk
theorem dJ (h : N d e W base (fun k => ok k ∧ some k ≠ v.ownBlock) u xs) (hg : W.grownBy w1 v.ownBlock) (bk : v1.ownBlock = v.ownBlock ∨ ∃ b, v1.ownBlock = some b ∧ W.heap.size ≤ b) : N d e w1 base (fun k => ok k ∧ some k ≠ v1.ownBlock) u xs := Wc h hg bk
theorem cY (h : V d e W base ok v xs) (cP : ∀ k, u.ownBlock = some k → W.heap.size ≤ k) (hb : Below W.heap.size W w1) : V d e w1 base (fun k => ok k ∧ some k ≠ u.ownBlock) v xs := re h (fun _ hf => SE hf cP hb)
theorem lx (h : V d e W base ok v xs) (a : Nat) (ha : W.heap.size ≤ a) : V d e W base (fun k => ok k ∧ k ≠ a) v xs := re h (fun _ hf => SF hf a ha)
theorem ly (h : V d e W base ok (.slice (some ad) n c) xs) (z : α) (i : Int) (h0 : 0 ≤ i) (h1 : i < n) :
  ∃ cs, cs.length = d.sz ∧ FK d W ok (xs.getD i.toNat z) cs ∧ ∀ j u, cs[j]? = some u → W.cell? (ad.add (i.toNat * d.sz + j)) = some u := by
 obtain ⟨ad', cs, he, t_, hK, wa, _⟩ := ZN (PS h) z i h0 h1
 injection he with he
 subst he
 exact ⟨cs, t_, hK, wa⟩
theorem QV (h : F d W ok A xs.length xs) (hm : m ≤ xs.length) : F d W ok A (xs.take m).length (xs.take m) := ZH h (fun _ hC => po hC hm)
theorem YY (h : F d W ok A xs.length xs) (hm : m ≤ xs.length) (hc : xs.length ≤ c) : F d W ok (if c = m then A else A.map (·.add (m * d.sz))) (xs.drop m).length (xs.drop m) := ZH h (fun _ hC => tD hC hm hc)
theorem dG {l : List α} {cs : List Value} (h : FK (Kd.slice e d) W ok l cs) : ∃ A c, cs = [.slice A l.length c] ∧ l.length ≤ c ∧ F d W ok A l.length l := by
 obtain ⟨A, c, rfl, hl, _⟩ := qe h
 refine ⟨A, c, rfl, hl, fun W' hW => ?_⟩
 obtain ⟨A', c', he, _, g'⟩ := h W' hW
 injection he with he _
 injection he with ha _ _
 rw [ha]
 exact g'
theorem fP {l : List α} (hl : l.length ≤ c) (hf : F d W ok A l.length l) : FK (Kd.slice e d) W ok l [.slice A l.length c] := fun W' hW => ⟨A, c, rfl, hl, hf W' hW⟩
theorem jQ {M : Nat → Prop} (h : d.R e w1 W.heap.size ok v xs) (hle : w.heap.size ≤ W.heap.size) (hM : ∀ k, w.heap.size ≤ k → M k) : d.R e w1 W.heap.size (fun k => M k ∧ ok k) v xs := bD (jX h) (fun k hk => ⟨hM k (Nat.le_trans hle hk.2.1), hk.1⟩)
theorem PO {M : Nat → Prop} (h : Kd.S d e w1 W.heap.size ok v xs) (hle : w.heap.size ≤ W.heap.size) (hM : ∀ k, w.heap.size ≤ k → M k) : Kd.S d e w1 W.heap.size (fun k => M k ∧ ok k) v xs := cJ (sL h) (fun k hk => ⟨hM k (Nat.le_trans hle hk.2.1), hk.1⟩)
end
end Kd
end Go.Proofs.YtggiicplcglalaaGreatW.PrintWords
end
