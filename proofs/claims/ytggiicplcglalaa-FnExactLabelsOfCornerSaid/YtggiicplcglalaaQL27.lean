/- Part of the proof that the law FnExactLabelsOfCorner answers true for all arguments. -/
import Derived.Test.YtggiicplcglalaaQL26
section
namespace Go.Proofs.Ytggiicplcglalaa.Own
open Go.RowKit Go.Proofs.Ytggiicplcglalaa.All Go.Proofs.Ytggiicplcglalaa.Eqs Go.Proofs.YtggiicplcglalaaW.PrintWords Go.Proofs.YtggiicplcglalaaW.PrintLast
set_option linter.unusedVariables false
def In (lo hi k : Nat) : Prop := lo ≤ k ∧ k < hi
abbrev dI : Kd (List Int) := Kd.slice 3 (Kd.int .i64)
def OI (w : World) (lo hi : Nat) (v : Value) (l : List Int) : Prop := Kd.R (Kd.int .i64) 3 w lo (In lo hi) v l ∧ hi ≤ w.heap.size
def OS (w : World) (lo hi : Nat) (v : Value) (ls : List (List Int)) : Prop := Kd.S dI 38 w lo (In lo hi) v ls ∧ hi ≤ w.heap.size
def OR (w : World) (lo hi : Nat) (v : Value) (ls : List (List Int)) : Prop := Kd.R dI 38 w lo (In lo hi) v ls ∧ hi ≤ w.heap.size
def OV (w : World) (lo hi : Nat) (v : Value) (l : List Int) : Prop := Kd.V (Kd.int .i64) 3 w lo (In lo hi) v l ∧ hi ≤ w.heap.size
section
variable {w w' : World} {lo hi n c : Nat} {v : Value} {A : Option Addr} {P S : Nat → Prop} {l : List Int} {ls : List (List Int)}
theorem OI.of (h : Kd.R (Kd.int .i64) 3 w' w.heap.size P v l) : OI w' w.heap.size w'.heap.size v l := ⟨Kd.R_mono (Kd.R_bound h) (fun k hk => ⟨hk.2.1, hk.2.2.1⟩), Nat.le_refl _⟩
theorem OS.of (h : Kd.S dI 38 w' w.heap.size P v ls) : OS w' w.heap.size w'.heap.size v ls := ⟨Kd.S_mono (Kd.S_bound h) (fun k hk => ⟨hk.2.1, hk.2.2.1⟩), Nat.le_refl _⟩
theorem OI.kept (h : OI w lo hi v l) (hk : Kept w w' S) (hn : ∀ k, In lo hi k → ¬ S k) : OI w' lo hi v l := ⟨Kd.R_kept h.1 hk hn, Nat.le_trans h.2 hk.1⟩
theorem OS.kept (h : OS w lo hi v ls) (hk : Kept w w' S) (hn : ∀ k, In lo hi k → ¬ S k) : OS w' lo hi v ls := ⟨Kd.S_kept h.1 hk hn, Nat.le_trans h.2 hk.1⟩
theorem OI.below (h : OI w lo hi v l) (hb : Below w.heap.size w w') : OI w' lo hi v l := ⟨Kd.R_below h.1 hb, Nat.le_trans h.2 hb.size⟩
theorem OS.below (h : OS w lo hi v ls) (hb : Below w.heap.size w w') : OS w' lo hi v ls := ⟨Kd.S_below h.1 hb, Nat.le_trans h.2 hb.size⟩
theorem OI.slice (h : OI w lo hi v l) : ∃ A c, v = .slice A l.length c := Kd.R_slice h.1
theorem OS.slice (h : OS w lo hi v ls) : ∃ A c, v = .slice A ls.length c := Kd.S_slice h.1
theorem OR.slice (h : OR w lo hi v ls) : ∃ A c, v = .slice A ls.length c := Kd.R_slice h.1
theorem OI.reads (h : OI w lo hi (.slice A n c) l) : n = l.length ∧ n ≤ c ∧ Kd.C (Kd.int .i64) w A l.length l := Kd.R_reads' h.1
theorem OS.reads (h : OS w lo hi (.slice A n c) ls) : n = ls.length ∧ n ≤ c ∧ Kd.C dI w A ls.length ls := Kd.S_reads' h.1
theorem OV.slice (h : OV w lo hi v l) : ∃ A c, v = .slice A l.length c := Kd.V_slice h.1
theorem In.mono {lo' hi' k : Nat} (h : In lo hi k) (h1 : lo' ≤ lo) (h2 : hi ≤ hi') : In lo' hi' k := ⟨Nat.le_trans h1 h.1, Nat.lt_of_lt_of_le h.2 h2⟩
end
theorem markP (w0 w : World) (base : Nat) (P : Nat → Prop) (v : Value) (l : List Int) (a : Int) (hB : Below w0.heap.size w0 w) (hlo : w0.heap.size ≤ base) (h : Kd.R (Kd.int .i64) 3 w base P v l) (hl : l.length ≤ 1048576) (ha : 0 ≤ a) (ha2 : a < 1152921504606846976) :
  Calls Try.prog 21 #[v, .int .i64 a] w fun e w' => e = .returned (.int .i64 (a + (l.length : Int))) ∧ Kd.R (Kd.int .i64) 3 w' base P v (marks l.length a) ∧ Below w0.heap.size w0 w' ∧ Kept w w' P := by
 refine (laws_markIntS.calls (l.length + 1) P v l a (a + (l.length : Int)) (marks l.length a) w0 w hB (Kd.R_lower h hlo) (markIntS_is l (by omega) a ha ha2 (l.length + 1) (by omega))).mono ?_
 rintro e w' ⟨rfl, hr, hb, hk⟩
 refine ⟨rfl, Kd.R_reok rfl (Kd.R_raise (b := w0.heap.size) (b' := base) (fun _ _ _ _ hm => hm) hr (Kd.R_base h)) (fun k e => h.1 k e), hb, hk⟩
theorem markI (w0 w : World) (lo hi : Nat) (v : Value) (l : List Int) (a : Int) (hB : Below w0.heap.size w0 w) (hlo : w0.heap.size ≤ lo) (h : OI w lo hi v l) (hl : l.length ≤ 1048576) (ha : 0 ≤ a) (ha2 : a < 1152921504606846976) :
  Calls Try.prog 21 #[v, .int .i64 a] w fun e w' => e = .returned (.int .i64 (a + (l.length : Int))) ∧ OI w' lo hi v (marks l.length a) ∧ Below w0.heap.size w0 w' ∧ Kept w w' (In lo hi) := by
 refine (markP w0 w lo (In lo hi) v l a hB hlo h.1 hl ha ha2).mono ?_
 rintro e w' ⟨rfl, hr, hb, hk⟩
 exact ⟨rfl, ⟨hr, Nat.le_trans h.2 hk.1⟩, hb, hk⟩
theorem markIm (w0 w : World) (lo hi : Nat) (v : Value) (l : List Int) (a m : Int) (hB : Below w0.heap.size w0 w) (hlo : w0.heap.size ≤ lo) (h : OI w lo hi v l) (hl : l.length ≤ 1048576) (ha : 0 ≤ a) (ha2 : a ≤ 1125899906842624) (hm : m = a + (l.length : Int)) :
  Calls Try.prog 21 #[v, .int .i64 a] w fun e w' => e = .returned (.int .i64 m) ∧ OI w' lo hi v (marks l.length a) ∧ Below w0.heap.size w0 w' ∧ Kept w w' (In lo hi) := by
 subst hm
 exact markI w0 w lo hi v l a hB hlo h hl ha (by omega)
def total : List (List Int) → Nat
 | [] => 0
 | l :: ls => l.length + total ls
def marksS : List (List Int) → Int → List (List Int)
 | [], _ => []
 | l :: ls, a => marks l.length a :: marksS ls (a + (l.length : Int))
theorem marksS_length : ∀ ls a, (marksS ls a).length = ls.length
 | [], _ => rfl
 | l :: ls, a => by simp [marksS, marksS_length ls]
theorem total_append : ∀ xs ys, total (xs ++ ys) = total xs + total ys
 | [], ys => by simp [total]
 | x :: xs, ys => by simp [total, total_append xs ys]; omega
theorem marksS_snoc : ∀ (xs : List (List Int)) (l : List Int) (a : Int), marksS (xs ++ [l]) a = marksS xs a ++ [marks l.length (a + (total xs : Int))]
 | [], l, a => by simp [marksS, total]
 | x :: xs, l, a => by
  simp only [List.cons_append, marksS, marksS_snoc xs l, total]
  rw [show a + (x.length : Int) + (total xs : Int) = a + ((x.length + total xs : Nat) : Int) by omega]
theorem total_le (ls : List (List Int)) (h : ∀ l ∈ ls, l.length ≤ 1048576) : total ls ≤ ls.length * 1048576 := by
 induction ls with
 | nil => simp [total]
 | cons l ls ih =>
  have h1 := ih (fun x hx => h x (by simp [hx]))
  have h2 := h l (by simp)
  simp only [total, List.length_cons, Nat.add_mul]; omega
theorem total_small {ls : List (List Int)} (h : Small ls) : total ls ≤ 1099511627776 := by
 have h1 := total_le ls h.2
 have h2 : ls.length * 1048576 ≤ 1048576 * 1048576 := Nat.mul_le_mul_right _ h.1
 omega
theorem total_take (ls : List (List Int)) (i : Nat) (hi : i < ls.length) : total (ls.take (i + 1)) = total (ls.take i) + (ls.getD i []).length := by
 rw [List.take_succ_eq_append_getElem hi, total_append]
 simp [total, List.getD, List.getElem?_eq_getElem hi]
theorem total_take_le (ls : List (List Int)) (i : Nat) : total (ls.take i) ≤ total ls := by
 have := total_append (ls.take i) (ls.drop i)
 rw [List.take_append_drop] at this
 omega
theorem marksS_step (ls : List (List Int)) (a : Int) (i : Nat) (hi : i < ls.length) : (marksS (ls.take i) a ++ ls.drop i).set i (marks (ls.getD i []).length (a + (total (ls.take i) : Int))) = marksS (ls.take (i + 1)) a ++ ls.drop (i + 1) := by
 have hl : (marksS (ls.take i) a).length = i := by rw [marksS_length]; simp; omega
 rw [List.set_append_right _ _ (by omega), hl, Nat.sub_self, List.drop_eq_getElem_cons hi, List.set_cons_zero, List.take_succ_eq_append_getElem hi, marksS_snoc, List.append_assoc]
 simp [List.getD, List.getElem?_eq_getElem hi]
theorem marksS_at (ls : List (List Int)) (a : Int) (i : Nat) (hi : i < ls.length) : (marksS (ls.take i) a ++ ls.drop i).getD i [] = ls.getD i [] := by
 have hl : (marksS (ls.take i) a).length = i := by rw [marksS_length]; simp; omega
 simp only [List.getD]
 rw [List.getElem?_append_right (by omega), hl, Nat.sub_self, List.getElem?_drop, Nat.add_zero]
theorem heldI (k : Nat) (w : World) (lo hi : Nat) (A : Option Addr) (n c : Nat) (a m : Int) (h : OI w lo hi (.slice A n c) (marks n a)) (hn : n ≤ 1048576) (ha : 0 ≤ a) (ha2 : a < 1152921504606846976) (hm : m = a + (n : Int)) (hk : 3000000 < k) :
  Calls Try.prog 22 #[.slice A n c, .int .i64 a] w fun e w' => e = .returned (.int .i64 m) ∧ Below w.heap.size w w' := by
 subst hm
 have hr := h.reads
 have := laws_heldIntS.calls k A c (marks n a) a (a + (n : Int)) w hr.2.2 (by rw [← hr.1]; exact hr.2.1) (heldIntS_marks n (by omega) a ha ha2 k (by omega))
 rw [marks_length] at this
 refine this.mono ?_
 rintro e w' ⟨rfl, hd⟩
 refine ⟨rfl, ?_⟩
 obtain ⟨q, rfl⟩ := hd
 exact pw_below_drewN (Below.refl _ _) _
end Go.Proofs.Ytggiicplcglalaa.Own
end
section
namespace Go.Proofs.Ytggiicplcglalaa.Own
open Go.RowKit Go.Proofs.Ytggiicplcglalaa.All Go.Proofs.Ytggiicplcglalaa.Eqs Go.Proofs.YtggiicplcglalaaW.PrintWords Go.Proofs.YtggiicplcglalaaW.PrintLast
set_option maxHeartbeats 4000000 in
set_option maxRecDepth 100000 in
theorem markS (w0 w : World) (lo hi : Nat) (v : Value) (ls : List (List Int)) (a m : Int) (hB : Below w0.heap.size w0 w) (hlo : w0.heap.size ≤ lo) (h : OS w lo hi v ls) (hs : Small ls) (ha : 0 ≤ a) (ha2 : a ≤ 1125899906842624) (hm : m = a + (total ls : Int)) :
  Calls Try.prog 13 #[v, .int .i64 a] w fun e w' => e = .returned (.int .i64 m) ∧ OS w' lo hi v (marksS ls a) ∧ Below w0.heap.size w0 w' ∧ Kept w w' (In lo hi) := by
 obtain ⟨A, c, rfl⟩ := h.slice
 have HM := Aside0.mk hm
 have HS := Aside0.mk hs
 have HO0 := Aside0.mk h
 have HB0 := Aside0.mk hB
 have HL := Aside0.mk hlo
 have hl := hs.1
 have HT := Aside0.mk (total_small hs)
 clear hm hs h hB hlo
 go_enter Try.func13, Try.ntmps13
 go_wp2
 go_loopg [1, 5] ls.length (fun gg v1 v5 wr => ∃ (i : Nat) (b : Int), v5 = .int .i64 i ∧ v1 = .int .i64 b ∧ Aside0 (b = a + (total (ls.take i) : Int)) ∧ Aside0 (i + gg = ls.length) ∧ Aside0 (OS wr lo hi (.slice A ls.length c) (marksS (ls.take i) a ++ ls.drop i)) ∧ Aside0 (Below w0.heap.size w0 wr) ∧ Aside0 (Kept w wr (In lo hi)))
 case atStart => exact ⟨0, a, rfl, rfl, ⟨by simp [total]⟩, ⟨by omega⟩, ⟨by simpa [marksS] using HO0.out⟩, HB0, ⟨Kept.refl _ _⟩⟩
 case round =>
  obtain ⟨i, b, rfl, rfl, Hb, HG, HO, HB, HK⟩ := hrel
  by_cases hlt : i < ls.length
  ·have hltz : (i : Int) < (ls.length : Int) := by omega
   have hlen : (marksS (ls.take i) a ++ ls.drop i).length = ls.length := by simp [marksS_length]; omega
   have hto := total_take_le ls i
   have hx : (ls.getD i []).length ≤ 1048576 := HS.out.2 _ (getD_mem hlt)
   have hbb : 0 ≤ b ∧ b < 1152921504606846976 := by have := Hb.out; have := HT.out; omega
   obtain ⟨g, cap, eo, hg1, hg2, hg3⟩ := Kd.S_form HO.out.1 (by omega)
   rw [hlen] at eo
   cases eo
   obtain ⟨oki, cs, hcl, hM, hcc, hfr, hoki, hH⟩ := Kd.S_elem HO.out.1 [] (i : Int) (by omega) (by omega)
   rw [show ((i : Int)).toNat = i from rfl, marksS_at ls a i hlt] at hM
   obtain ⟨ve, rfl, hR⟩ := hM
   have hcell := hcc 0 _ rfl
   rw [show (Kd.slice 3 (Kd.int .i64)).sz = 1 from rfl, show ((i : Int)).toNat = i from rfl, Nat.mul_one, Nat.add_zero] at hcell
   obtain ⟨Ae, ce, rfl⟩ := Kd.R_slice hR
   have HC := Aside0.mk (markP w0 wr lo oki (.slice Ae (ls.getD i []).length ce) (ls.getD i []) b HB.out HL.out hR hx hbb.1 hbb.2)
   have HH := Aside0.mk hH
   have HK1 := Aside0.mk hoki
   have HX := Aside0.mk hlen
   have HHI := Aside0.mk HO.out.2
   have HT1 := Aside0.mk (total_take ls i hlt)
   clear hg3 hcl hcc hfr hH hR hoki hlen hto hg1 hg2
   have HSET := Aside0.mk (marksS_step ls a i hlt)
   generalize hy : ls.getD i [] = y at HC HSET HT1 hx hcell HH
   clear hy
   go_wp2_with (go_at_call 21; refine HC.out.mono ?_; rintro e w' ⟨rfl, hr, hb, hk⟩; have HR := Aside0.mk hr; have HB2 := Aside0.mk hb; have HKk := Aside0.mk hk; clear hr hb hk)
   go_roundg (ls.length - (i + 1))
   case measure => have := HG.out; omega
   case rel => exact ⟨i + 1, b + (y.length : Int), by go_num, rfl, ⟨by have := Hb.out; have := HT1.out; omega⟩, ⟨by omega⟩, ⟨by
     have h1 := Kd.H_kept HH.out HKk.out (fun _ _ hn => hn)
     have h2 := Kd.H_back h1 (x' := marks y.length b) (okp := oki) ⟨_, rfl, HR.out⟩ (fun _ h => h)
     rw [show ((i : Int)).toNat = i from rfl, Hb.out, HSET.out] at h2
     exact ⟨h2, Nat.le_trans HHI.out HKk.out.1⟩⟩, HB2, ⟨Kept.then_ HK.out HKk.out (fun k h => .inl (HK1.out k h).1)⟩⟩
  ·have hltz : ¬ (i : Int) < (ls.length : Int) := by omega
   have : i = ls.length := by have := HG.out; omega
   subst this
   go_wp2
   go_ret
   refine ⟨?_, ?_, HB.out, HK.out⟩
   ·rw [HM.out, Hb.out, List.take_of_length_le (Nat.le_refl _)]; rfl
   ·have := HO.out
    rwa [List.take_of_length_le (Nat.le_refl _), List.drop_of_length_le (Nat.le_refl _), List.append_nil] at this
end Go.Proofs.Ytggiicplcglalaa.Own
end
section
namespace Go.Proofs.Ytggiicplcglalaa.Eqs
open Go.RowKit Go.Proofs.Ytggiicplcglalaa.All Go.Proofs.YtggiicplcglalaaW.PrintWords Go.Proofs.YtggiicplcglalaaW.PrintLast
theorem szg_l0 (ls : List (List Int)) (hm : ∀ l ∈ ls, l.length ≤ maxLen) (hl : ls.length ≤ maxLen) (d : Nat) : ∀ (k i : Nat) (left : Int), i + d = ls.length → d < k → 0 ≤ left → left ≤ 1048576 →
  ∃ r, laws_szIntSS.l0 k ls left i = some r ∧ r ≤ 1048576 ∧ (0 ≤ r → ∀ j, i ≤ j → j < ls.length → (ls.getD j []).length ≤ 1048576) := by
 induction d with
 | zero =>
  intro k i left hi hk h0 h1
  obtain ⟨k, rfl⟩ : ∃ m, k = m + 1 := ⟨k - 1, by omega⟩
  simp only [laws_szIntSS.l0]
  rw [if_neg (by omega)]
  exact ⟨left, rfl, h1, fun _ j h2 h3 => by omega⟩
 | succ d ih =>
  intro k i left hi hk h0 h1
  obtain ⟨k, rfl⟩ : ∃ m, k = m + 1 := ⟨k - 1, by omega⟩
  simp only [laws_szIntSS.l0]
  unfold maxLen at hm hl
  have e1 : ((i : Int) < (ls.length : Int)) = True := eq_true (by omega)
  have e2 : ((0 : Int) ≤ (i : Int)) = True := eq_true (by omega)
  have e3 : wrap64 ((i : Int) + 1) = ((i + 1 : Nat) : Int) := wrap_id (by omega) (by omega)
  simp only [e1, e2, e3, if_true]
  have hx := hm _ (getD_mem (ls := ls) (i := i) (by omega))
  rw [show rd_L1 ls (i : Int) = ls.getD i [] from rfl]
  unfold laws_szIntS.f
  have e4 : wrap64 (left - ((ls.getD i []).length : Int)) = left - ((ls.getD i []).length : Int) := wrap_id (by omega) (by omega)
  rw [e4]
  by_cases h : left - ((ls.getD i []).length : Int) < 0
  ·rw [if_pos h]
   exact ⟨-1, rfl, by omega, fun h => by omega⟩
  ·rw [if_neg h]
   simp only [Option.bind_some]
   rw [if_neg h]
   obtain ⟨r, hr, hb, hj⟩ := ih k (i + 1) (left - ((ls.getD i []).length : Int)) (by omega) (by omega) (by omega) (by omega)
   refine ⟨r, hr, hb, fun h0 j h2 h3 => ?_⟩
   by_cases e : j = i
   ·subst e; omega
   ·exact hj h0 j (by omega) h3
theorem szAny (ls : List (List Int)) (hl : ls.length ≤ maxLen) (hm : ∀ l ∈ ls, l.length ≤ maxLen) (left : Int) (h0 : 0 ≤ left) (h1 : left ≤ 1048576) : ∃ r, r ≤ 1048576 ∧ (0 ≤ r → Small ls) ∧ ∀ k, 1048577 < k → laws_szIntSS.f k ls left = some r := by
 have hl' := hl
 unfold maxLen at hl'
 have hw : wrap64 (left - (ls.length : Int)) = left - (ls.length : Int) := wrap_id (by omega) (by omega)
 by_cases h : left - (ls.length : Int) < 0
 ·refine ⟨-1, by omega, fun h => by omega, fun k _ => ?_⟩
  unfold laws_szIntSS.f
  rw [hw, if_pos h]
 ·obtain ⟨r, hr, hb, hj⟩ := szg_l0 ls hm hl ls.length 1048578 0 (left - (ls.length : Int)) (by omega) (by omega) (by omega) (by omega)
  have key : laws_szIntSS.f 1048578 ls left = some r := by
   unfold laws_szIntSS.f
   rw [hw, if_neg h]
   exact hr
  refine ⟨r, hb, fun h0 => ⟨by omega, fun l hl' => ?_⟩, fun k hk => at_rounds (laws_szIntSS.mono ls left) (show 1048578 ≤ k by omega) key⟩
  obtain ⟨j, hj', rfl⟩ := List.mem_iff_getElem.1 hl'
  have := hj h0 j (Nat.zero_le _) hj'
  simpa [List.getD, List.getElem?_eq_getElem hj'] using this
theorem szGame_is (a b : List (List Int)) (ha : a.length ≤ maxLen) (hb : b.length ≤ maxLen) (hma : ∀ l ∈ a, l.length ≤ maxLen) (hmb : ∀ l ∈ b, l.length ≤ maxLen) : ∃ r, (0 ≤ r → Small a ∧ Small b) ∧ ∀ k, 1048577 < k → laws_szGame.f k a b 1048576 = some r := by
 obtain ⟨r, h1, h2, h3⟩ := szAny a ha hma 1048576 (by omega) (by omega)
 by_cases h : r < 0
 ·refine ⟨-1, fun h => by omega, fun k hk => ?_⟩
  unfold laws_szGame.f
  rw [h3 k hk, Option.bind_some, if_pos h]
 ·obtain ⟨r', h1', h2', h3'⟩ := szAny b hb hmb r (by omega) h1
  by_cases h' : r' < 0
  ·refine ⟨-1, fun h => by omega, fun k hk => ?_⟩
   unfold laws_szGame.f
   rw [h3 k hk, Option.bind_some, if_neg h, h3' k hk, Option.bind_some, if_pos h']
  ·refine ⟨r', fun _ => ⟨h2 (by omega), h2' (by omega)⟩, fun k hk => ?_⟩
   unfold laws_szGame.f
   rw [h3 k hk, Option.bind_some, if_neg h, h3' k hk, Option.bind_some, if_neg h']
theorem eqGame_same (a b : List (List Int)) (ha : Small a) (hb : Small b) (k : Nat) (hk : 2097155 < k) : laws_eqGame.f k a b a b = some true := by
 unfold laws_eqGame.f
 rw [eqIntSS_same a ha k hk, Option.bind_some, if_pos rfl, eqIntSS_same b hb k hk, Option.bind_some, if_pos rfl]
end Go.Proofs.Ytggiicplcglalaa.Eqs
end
section
namespace Go.Proofs.Ytggiicplcglalaa.Own
open Go.RowKit Go.Proofs.Ytggiicplcglalaa.All Go.Proofs.Ytggiicplcglalaa.Eqs Go.Proofs.YtggiicplcglalaaW.PrintWords Go.Proofs.YtggiicplcglalaaW.PrintLast
set_option linter.unusedVariables false
set_option maxHeartbeats 8000000
set_option maxRecDepth 100000
theorem store_two {W w' : World} {g : Nat} {t : TypeId} {x y u v : Value} (hb : W.heap[g]? = some (.cells #[x, y] t (0, 0))) (h : w' = (W.setCell ⟨g, 0, none⟩ u).setCell ⟨g, 1, none⟩ v) :
  w'.heap[g]? = some (.cells #[u, v] t (0, 0)) ∧ Kept W w' (fun k => k = g) ∧ w' = (W.setCell ⟨g, 0, none⟩ u).setCell ⟨g, 1, none⟩ v := by
 refine ⟨?_, ?_, h⟩
 ·subst h
  exact blk_put (cs := #[u, y]) (blk_put (cs := #[x, y]) hb 0 u rfl) 1 v rfl
 ·subst h
  exact Kept.setCell (S := fun k => k = g) (Kept.setCell (S := fun k => k = g) (Kept.refl W _) (p := ⟨g, 0, none⟩) (.inl (show g = g from rfl)) u) (p := ⟨g, 1, none⟩) (.inl (show g = g from rfl)) v
theorem store_below {w W w' : World} {g : Nat} {u v : Value} (h : Below w.heap.size w W) (e : w' = (W.setCell ⟨g, 0, none⟩ u).setCell ⟨g, 1, none⟩ v) (hg : w.heap.size ≤ g) : Below w.heap.size w w' := by
 subst e
 exact below_set (below_set h hg) hg
theorem store_one {W w' : World} {g : Nat} {t : TypeId} {cs cs' : Array Value} {j : Nat} {u : Value} (hb : W.heap[g]? = some (.cells cs t (0, 0))) (h : w' = W.setCell ⟨g, j, none⟩ u) (e : cs.setIfInBounds j u = cs') :
  w'.heap[g]? = some (.cells cs' t (0, 0)) ∧ Kept W w' (fun k => k = g) ∧ w' = W.setCell ⟨g, j, none⟩ u := by
 refine ⟨?_, ?_, h⟩
 ·subst h
  exact blk_put hb j u e
 ·subst h
  exact Kept.setCell (S := fun k => k = g) (Kept.refl W _) (p := ⟨g, j, none⟩) (.inl (show g = g from rfl)) u
theorem store_below1 {w W w' : World} {g j : Nat} {u : Value} (h : Below w.heap.size w W) (e : w' = W.setCell ⟨g, j, none⟩ u) (hg : w.heap.size ≤ g) : Below w.heap.size w w' := by
 subst e
 exact below_set h hg
theorem toGame_own (k : Nat) (A0 : Option Addr) (c0 : Nat) (l0 : List (List Int)) (A1 : Option Addr) (c1 : Nat) (l1 : List (List Int)) (w : World) (hr0 : Kd.C dI w A0 l0.length l0) (hc0 : l0.length ≤ c0) (hr1 : Kd.C dI w A1 l1.length l1) (hc1 : l1.length ≤ c1) (hs0 : Small l0) (hs1 : Small l1) (hk : 3000000 < k) :
  Calls Try.prog 8 #[.agg #[.slice A0 l0.length c0, .slice A1 l1.length c1]] w fun e w' => ∃ (v0 v1 : Value) (mid : Nat), e = .returned (.agg #[v0, v1]) ∧ w.heap.size ≤ mid ∧ mid ≤ w'.heap.size ∧ OS w' w.heap.size mid v0 l0 ∧ OS w' mid w'.heap.size v1 l1 ∧ Below w.heap.size w w' := by
 have hu30 := Try.underlying24
 have hu33 := Try.underlying28
 have HR0 := Aside0.mk hr0
 have HC0 := Aside0.mk hc0
 have HR1 := Aside0.mk hr1
 have HC1 := Aside0.mk hc1
 have I0 := Aside0.mk (toIntSS_is l0 hs0 k (by omega))
 have I1 := Aside0.mk (toIntSS_is l1 hs1 k (by omega))
 clear hr0 hc0 hr1 hc1
 have HB := Aside0.mk (Below.refl w.heap.size w)
 go_enter Try.func8, Try.ntmps8
 go_wp2_with (first
  | ((with_reducible refine gate_dst (N := 1) rfl ?_); refine bE 1 #[.slice A0 l0.length c0, .slice A1 l1.length c1] 24 ?_; intro g1 hg w1 hbox hb; skip; replace HB := Aside0.mk (below_step HB.out hb); have sw1 := Aside0.mk (show w.heap.size ≤ w1.heap.size from hb.size); have BK1 := Aside0.mk hbox; have ag1 := Aside0.mk (show g1 = w.heap.size from hg); have lg1 := Aside0.mk (show g1 < w1.heap.size from blk_lt hbox); clear hg hb hbox; have hp_0 : w1.cell? ⟨g1, 0, none⟩ = some (.slice A0 l0.length c0) := (blk_cell BK1.out 0).trans rfl; have hpf_0 := blk_frozen BK1.out 0; have hp_1 : w1.cell? ⟨g1, 1, none⟩ = some (.slice A1 l1.length c1) := (blk_cell BK1.out 1).trans rfl; have hpf_1 := blk_frozen BK1.out 1)
  | ((with_reducible refine gate_dst (N := 2) rfl ?_); refine bE 2 #[.slice none 0 0, .slice none 0 0] 28 ?_; intro g2 hg w2 hbox hb; replace BK1 := Aside0.mk (blk_below BK1.out hb); replace HB := Aside0.mk (below_step HB.out hb); have sw2 := Aside0.mk (show w1.heap.size ≤ w2.heap.size from hb.size); have BK2 := Aside0.mk hbox; have ag2 := Aside0.mk (show g2 = w1.heap.size from hg); have lg2 := Aside0.mk (show g2 < w2.heap.size from blk_lt hbox); clear hg hb hbox; have hq_0 : w2.cell? ⟨g1, 0, none⟩ = some (.slice A0 l0.length c0) := (blk_cell BK1.out 0).trans rfl; have hqf_0 := blk_frozen BK1.out 0; have hq_1 : w2.cell? ⟨g1, 1, none⟩ = some (.slice A1 l1.length c1) := (blk_cell BK1.out 1).trans rfl; have hqf_1 := blk_frozen BK1.out 1)
  | ((with_reducible refine gate_dst (N := 3) rfl ?_); refine bE 3 #[.slice none 0 0, .slice none 0 0] 28 ?_; intro g3 hg w3 hbox hb; replace BK1 := Aside0.mk (blk_below BK1.out hb); replace BK2 := Aside0.mk (blk_below BK2.out hb); replace HB := Aside0.mk (below_step HB.out hb); have sw3 := Aside0.mk (show w2.heap.size ≤ w3.heap.size from hb.size); have BK3 := Aside0.mk hbox; have ag3 := Aside0.mk (show g3 = w2.heap.size from hg); have lg3 := Aside0.mk (show g3 < w3.heap.size from blk_lt hbox); clear hg hb hbox; have hr_0 : w3.cell? ⟨g1, 0, none⟩ = some (.slice A0 l0.length c0) := (blk_cell BK1.out 0).trans rfl; have hrf_0 := blk_frozen BK1.out 0; have hr_1 : w3.cell? ⟨g1, 1, none⟩ = some (.slice A1 l1.length c1) := (blk_cell BK1.out 1).trans rfl; have hrf_1 := blk_frozen BK1.out 1)
  | ((with_reducible refine gC 28 rfl ?_); refine gL 6 Try.func28 #[.slice A0 l0.length c0] ?_; (with_reducible refine (laws_toIntSS.calls k _ _ l0 l0 _ ?side1 ?side2 I0.out).mono ?_); (case side1 => exact (Kd.C_below HR0.out HB.out)); (case side2 => exact HC0.out); rintro e w4 ⟨v0, rfl, ho_, hb⟩; refine ⟨_, rfl, ?_⟩; replace BK1 := Aside0.mk (blk_below BK1.out hb); replace BK2 := Aside0.mk (blk_below BK2.out hb); replace BK3 := Aside0.mk (blk_below BK3.out hb); have sw4 := Aside0.mk (show w3.heap.size ≤ w4.heap.size from hb.size); replace HB := Aside0.mk (below_step HB.out hb); have F1 := Aside0.mk (OS.of ho_); clear ho_; obtain ⟨B1, e1, q_⟩ := F1.out.slice; subst q_; clear hb; have hs_0 : w4.cell? ⟨g3, 0, none⟩ = some (.slice none 0 0) := (blk_cell BK3.out 0).trans rfl; have hsf_0 := blk_frozen BK3.out 0; have hs_1 : w4.cell? ⟨g3, 1, none⟩ = some (.slice none 0 0) := (blk_cell BK3.out 1).trans rfl; have hsf_1 := blk_frozen BK3.out 1)
  | ((with_reducible refine gate_store (t := 22) (p := 7) (v := .tmp 6) rfl ?_); refine store_event (t := 22) (p := 7) (v := .tmp 6) (w1 := w4.setCell ⟨g3, 0, none⟩ (.slice B1 l0.length e1)) ?hg ?ho ?hn ?hr ?_; (case ho => rfl); (case hg => rfl); (case hn => rfl); (case hr => first | (go_simp; done) | (go_simp; rfl)); intro w5 hw_; obtain ⟨hbk, hk, hk1⟩ := store_one BK3.out hw_ (cs' := #[.slice B1 l0.length e1, .slice none 0 0]) rfl; clear hw_; replace F1 := Aside0.mk (F1.out.kept hk (fun k h1_ h2_ => by have y1_ := h1_.1; have y2_ := h1_.2; have y3_ : k = g3 := h2_; have z0_ := sw1.out; have z1_ := sw2.out; have z2_ := sw3.out; have z3_ := sw4.out; have z4_ := lg1.out; have z5_ := lg2.out; have z6_ := lg3.out; have z7_ := ag1.out; have z8_ := ag2.out; have z9_ := ag3.out; omega)); replace BK1 := Aside0.mk (blk_kept BK1.out hk (fun h2_ => by have y_ : g1 = g3 := h2_; have z0_ := sw1.out; have z1_ := sw2.out; have z2_ := sw3.out; have z3_ := sw4.out; have z4_ := lg1.out; have z5_ := lg2.out; have z6_ := lg3.out; have z7_ := ag1.out; have z8_ := ag2.out; have z9_ := ag3.out; omega)); replace BK2 := Aside0.mk (blk_kept BK2.out hk (fun h2_ => by have y_ : g2 = g3 := h2_; have z0_ := sw1.out; have z1_ := sw2.out; have z2_ := sw3.out; have z3_ := sw4.out; have z4_ := lg1.out; have z5_ := lg2.out; have z6_ := lg3.out; have z7_ := ag1.out; have z8_ := ag2.out; have z9_ := ag3.out; omega)); have sw5 := Aside0.mk (show w4.heap.size ≤ w5.heap.size from hk.1); replace HB := Aside0.mk (store_below1 HB.out hk1 (by have z0_ := sw1.out; have z1_ := sw2.out; have z2_ := sw3.out; have z3_ := sw4.out; have z4_ := lg1.out; have z5_ := lg2.out; have z6_ := lg3.out; have z7_ := ag1.out; have z8_ := ag2.out; have z9_ := ag3.out; omega)); replace BK3 := Aside0.mk hbk; clear hk hk1 hbk; have ht_0 : w5.cell? ⟨g1, 0, none⟩ = some (.slice A0 l0.length c0) := (blk_cell BK1.out 0).trans rfl; have htf_0 := blk_frozen BK1.out 0; have ht_1 : w5.cell? ⟨g1, 1, none⟩ = some (.slice A1 l1.length c1) := (blk_cell BK1.out 1).trans rfl; have htf_1 := blk_frozen BK1.out 1)
  | ((with_reducible refine gC 28 rfl ?_); refine gL 10 Try.func28 #[.slice A1 l1.length c1] ?_; (with_reducible refine (laws_toIntSS.calls k _ _ l1 l1 _ ?side1 ?side2 I1.out).mono ?_); (case side1 => exact (Kd.C_below HR1.out HB.out)); (case side2 => exact HC1.out); rintro e w6 ⟨v1, rfl, ho_, hb⟩; refine ⟨_, rfl, ?_⟩; replace F1 := Aside0.mk (F1.out.below hb); replace BK1 := Aside0.mk (blk_below BK1.out hb); replace BK2 := Aside0.mk (blk_below BK2.out hb); replace BK3 := Aside0.mk (blk_below BK3.out hb); have sw6 := Aside0.mk (show w5.heap.size ≤ w6.heap.size from hb.size); replace HB := Aside0.mk (below_step HB.out hb); have F2 := Aside0.mk (OS.of ho_); clear ho_; obtain ⟨B2, e2, q_⟩ := F2.out.slice; subst q_; clear hb; have hu_0 : w6.cell? ⟨g3, 0, none⟩ = some (.slice B1 l0.length e1) := (blk_cell BK3.out 0).trans rfl; have huf_0 := blk_frozen BK3.out 0; have hu_1 : w6.cell? ⟨g3, 1, none⟩ = some (.slice none 0 0) := (blk_cell BK3.out 1).trans rfl; have huf_1 := blk_frozen BK3.out 1)
  | ((with_reducible refine gate_store (t := 22) (p := 11) (v := .tmp 10) rfl ?_); refine store_event (t := 22) (p := 11) (v := .tmp 10) (w1 := w6.setCell ⟨g3, 1, none⟩ (.slice B2 l1.length e2)) ?hg ?ho ?hn ?hr ?_; (case ho => rfl); (case hg => rfl); (case hn => rfl); (case hr => first | (go_simp; done) | (go_simp; rfl)); intro w7 hw_; obtain ⟨hbk, hk, hk1⟩ := store_one BK3.out hw_ (cs' := #[.slice B1 l0.length e1, .slice B2 l1.length e2]) rfl; clear hw_; replace F1 := Aside0.mk (F1.out.kept hk (fun k h1_ h2_ => by have y1_ := h1_.1; have y2_ := h1_.2; have y3_ : k = g3 := h2_; have z0_ := sw1.out; have z1_ := sw2.out; have z2_ := sw3.out; have z3_ := sw4.out; have z4_ := sw5.out; have z5_ := sw6.out; have z6_ := lg1.out; have z7_ := lg2.out; have z8_ := lg3.out; have z9_ := ag1.out; have z10_ := ag2.out; have z11_ := ag3.out; omega)); replace F2 := Aside0.mk (F2.out.kept hk (fun k h1_ h2_ => by have y1_ := h1_.1; have y2_ := h1_.2; have y3_ : k = g3 := h2_; have z0_ := sw1.out; have z1_ := sw2.out; have z2_ := sw3.out; have z3_ := sw4.out; have z4_ := sw5.out; have z5_ := sw6.out; have z6_ := lg1.out; have z7_ := lg2.out; have z8_ := lg3.out; have z9_ := ag1.out; have z10_ := ag2.out; have z11_ := ag3.out; omega)); replace BK2 := Aside0.mk (blk_kept BK2.out hk (fun h2_ => by have y_ : g2 = g3 := h2_; have z0_ := sw1.out; have z1_ := sw2.out; have z2_ := sw3.out; have z3_ := sw4.out; have z4_ := sw5.out; have z5_ := sw6.out; have z6_ := lg1.out; have z7_ := lg2.out; have z8_ := lg3.out; have z9_ := ag1.out; have z10_ := ag2.out; have z11_ := ag3.out; omega)); have sw7 := Aside0.mk (show w6.heap.size ≤ w7.heap.size from hk.1); replace HB := Aside0.mk (store_below1 HB.out hk1 (by have z0_ := sw1.out; have z1_ := sw2.out; have z2_ := sw3.out; have z3_ := sw4.out; have z4_ := sw5.out; have z5_ := sw6.out; have z6_ := lg1.out; have z7_ := lg2.out; have z8_ := lg3.out; have z9_ := ag1.out; have z10_ := ag2.out; have z11_ := ag3.out; omega)); replace BK3 := Aside0.mk hbk; clear hk hk1 hbk; have hv_0 : w7.cell? ⟨g3, 0, none⟩ = some (.slice B1 l0.length e1) := (blk_cell BK3.out 0).trans rfl; have hvf_0 := blk_frozen BK3.out 0; have hv_1 : w7.cell? ⟨g3, 1, none⟩ = some (.slice B2 l1.length e2) := (blk_cell BK3.out 1).trans rfl; have hvf_1 := blk_frozen BK3.out 1; have hx_0 : w7.cell? ⟨g2, 0, none⟩ = some (.slice none 0 0) := (blk_cell BK2.out 0).trans rfl; have hxf_0 := blk_frozen BK2.out 0; have hx_1 : w7.cell? ⟨g2, 1, none⟩ = some (.slice none 0 0) := (blk_cell BK2.out 1).trans rfl; have hxf_1 := blk_frozen BK2.out 1)
  | ((with_reducible refine gate_store (t := 28) (p := 2) (v := .tmp 12) rfl ?_); refine store_event (t := 28) (p := 2) (v := .tmp 12) (w1 := (w7.setCell ⟨g2, 0, none⟩ (.slice B1 l0.length e1)).setCell ⟨g2, 1, none⟩ (.slice B2 l1.length e2)) ?hg ?ho ?hn ?hr ?_; (case ho => rfl); (case hg => rfl); (case hn => rfl); (case hr => first | (go_simp; done) | (go_simp; rfl)); intro w8 hw_; obtain ⟨hbk, hk, hk1⟩ := store_two BK2.out hw_; clear hw_; replace F1 := Aside0.mk (F1.out.kept hk (fun k h1_ h2_ => by have y1_ := h1_.1; have y2_ := h1_.2; have y3_ : k = g2 := h2_; have z0_ := sw1.out; have z1_ := sw2.out; have z2_ := sw3.out; have z3_ := sw4.out; have z4_ := sw5.out; have z5_ := sw6.out; have z6_ := sw7.out; have z7_ := lg1.out; have z8_ := lg2.out; have z9_ := lg3.out; have z10_ := ag1.out; have z11_ := ag2.out; have z12_ := ag3.out; omega)); replace F2 := Aside0.mk (F2.out.kept hk (fun k h1_ h2_ => by have y1_ := h1_.1; have y2_ := h1_.2; have y3_ : k = g2 := h2_; have z0_ := sw1.out; have z1_ := sw2.out; have z2_ := sw3.out; have z3_ := sw4.out; have z4_ := sw5.out; have z5_ := sw6.out; have z6_ := sw7.out; have z7_ := lg1.out; have z8_ := lg2.out; have z9_ := lg3.out; have z10_ := ag1.out; have z11_ := ag2.out; have z12_ := ag3.out; omega)); have sw8 := Aside0.mk (show w7.heap.size ≤ w8.heap.size from hk.1); replace HB := Aside0.mk (store_below HB.out hk1 (by have z0_ := sw1.out; have z1_ := sw2.out; have z2_ := sw3.out; have z3_ := sw4.out; have z4_ := sw5.out; have z5_ := sw6.out; have z6_ := sw7.out; have z7_ := lg1.out; have z8_ := lg2.out; have z9_ := lg3.out; have z10_ := ag1.out; have z11_ := ag2.out; have z12_ := ag3.out; omega)); replace BK2 := Aside0.mk hbk; clear hk hk1 hbk))
 refine bodyPost_ret (results_cell_row rfl _ _ g2 28 #[.slice B1 l0.length e1, .slice B2 l1.length e2] (0, 0) _ rfl BK2.out Try.underlying28 rfl (by kernel_rfl)) rfl ?_
 refine ⟨_, _, w5.heap.size, rfl, by have z0_ := sw1.out; have z1_ := sw2.out; have z2_ := sw3.out; have z3_ := sw4.out; have z4_ := sw5.out; have z5_ := sw6.out; have z6_ := sw7.out; have z7_ := sw8.out; omega, by have z0_ := sw1.out; have z1_ := sw2.out; have z2_ := sw3.out; have z3_ := sw4.out; have z4_ := sw5.out; have z5_ := sw6.out; have z6_ := sw7.out; have z7_ := sw8.out; omega, ⟨?_, by have z0_ := sw1.out; have z1_ := sw2.out; have z2_ := sw3.out; have z3_ := sw4.out; have z4_ := sw5.out; have z5_ := sw6.out; have z6_ := sw7.out; have z7_ := sw8.out; omega⟩, ⟨?_, Nat.le_refl _⟩, HB.out⟩
 ·exact Kd.S_mono (Kd.S_lower F1.out.1 (by have z0_ := sw1.out; have z1_ := sw2.out; have z2_ := sw3.out; have z3_ := sw4.out; have z4_ := sw5.out; have z5_ := sw6.out; have z6_ := sw7.out; have z7_ := sw8.out; omega)) (fun k hk => hk.mono (by have z0_ := sw1.out; have z1_ := sw2.out; have z2_ := sw3.out; have z3_ := sw4.out; have z4_ := sw5.out; have z5_ := sw6.out; have z6_ := sw7.out; have z7_ := sw8.out; omega) (by have z0_ := sw1.out; have z1_ := sw2.out; have z2_ := sw3.out; have z3_ := sw4.out; have z4_ := sw5.out; have z5_ := sw6.out; have z6_ := sw7.out; have z7_ := sw8.out; omega))
 ·exact Kd.S_mono F2.out.1 (fun k hk => hk.mono (Nat.le_refl _) (by have z0_ := sw1.out; have z1_ := sw2.out; have z2_ := sw3.out; have z3_ := sw4.out; have z4_ := sw5.out; have z5_ := sw6.out; have z6_ := sw7.out; have z7_ := sw8.out; omega))
theorem markG (w0 w : World) (lo hi lo2 hi2 : Nat) (v v2 : Value) (ls ms : List (List Int)) (a m : Int) (hB : Below w0.heap.size w0 w) (hlo : w0.heap.size ≤ lo) (h : OS w lo hi v ls) (h2 : OS w lo2 hi2 v2 ms) (hd : hi ≤ lo2 ∧ lo2 ≤ hi2) (hs : Small ls) (hs2 : Small ms) (ha : 0 ≤ a) (ha2 : a ≤ 562949953421312) (hm : m = a + (total ls : Int) + (total ms : Int)) (hlh : lo ≤ hi) :
  Calls Try.prog 12 #[.agg #[v, v2], .int .i64 a] w fun e w' => e = .returned (.int .i64 m) ∧ OS w' lo hi v (marksS ls a) ∧ OS w' lo2 hi2 v2 (marksS ms (a + (total ls : Int))) ∧ Below w0.heap.size w0 w' ∧ Kept w w' (In lo hi2) := by
 have hu33 := Try.underlying28
 obtain ⟨b, hb⟩ : ∃ b : Int, b = a + (total ls : Int) := ⟨_, rfl⟩
 have ht := total_small hs
 have hbb : 0 ≤ b ∧ b ≤ 1125899906842624 := by omega
 have F1 := Aside0.mk h
 have F2 := Aside0.mk h2
 obtain ⟨B1, e1, rfl⟩ := h.slice
 obtain ⟨B2, e2, rfl⟩ := h2.slice
 rw [← hb] at hm ⊢
 have HM := Aside0.mk hm
 have Hb := Aside0.mk hb
 have HD := Aside0.mk hd
 have HL := Aside0.mk hlo
 have HLH := Aside0.mk hlh
 have HB := Aside0.mk hB
 have HK := Aside0.mk (Kept.refl w (In lo hi2))
 clear hm hb hd hlo hB h h2 ht hlh
 go_enter Try.func12, Try.ntmps12
 go_wp2_with (first
  | ((with_reducible refine gate_dst (N := 2) rfl ?_); refine bE 2 #[.slice B1 ls.length e1, .slice B2 ms.length e2] 28 ?_; intro g1 hg w1 hbox hb; have bz_ := F2.out.2; have by_ := F1.out.2; replace F1 := Aside0.mk (F1.out.below hb); replace F2 := Aside0.mk (F2.out.below hb); replace HK := Aside0.mk (HK.out.below hb); have lg1 := Aside0.mk (show hi2 ≤ g1 by rw [hg]; exact bz_); replace HB := Aside0.mk (HB.out.trans (hb.mono HB.out.size)); have sw1 := Aside0.mk (show w.heap.size ≤ w1.heap.size from hb.size); have BK1 := Aside0.mk hbox; clear bz_ by_ hg hb hbox; have hp_0 : w1.cell? ⟨g1, 0, none⟩ = some (.slice B1 ls.length e1) := (blk_cell BK1.out 0).trans rfl; have hpf_0 := blk_frozen BK1.out 0; have hp_1 : w1.cell? ⟨g1, 1, none⟩ = some (.slice B2 ms.length e2) := (blk_cell BK1.out 1).trans rfl; have hpf_1 := blk_frozen BK1.out 1)
  | ((with_reducible refine gC 13 rfl ?_); refine gL 8 Try.func13 #[.slice B1 ls.length e1, .int .i64 a] ?_; (with_reducible refine (markS w0 _ lo hi _ ls a b HB.out HL.out F1.out hs ha (by omega) Hb.out).mono ?_); rintro e w2 ⟨rfl, hy_, hb0_, hk⟩; refine ⟨_, rfl, ?_⟩; replace F2 := Aside0.mk (F2.out.kept hk (fun k h1_ h2_ => by have y1_ := h1_.1; have y4_ := h2_.2; have z0_ := lg1.out; have z1_ := HD.out.1; have z2_ := HD.out.2; have z3_ := HLH.out; omega)); replace F1 := Aside0.mk hy_; replace BK1 := Aside0.mk (blk_kept BK1.out hk (fun h2_ => by have y4_ := h2_.2; have z0_ := lg1.out; have z1_ := HD.out.1; have z2_ := HD.out.2; have z3_ := HLH.out; omega)); replace HK := Aside0.mk (Kept.then_ HK.out hk (fun k h2_ => .inl ⟨h2_.1, by have y4_ := h2_.2; have z0_ := lg1.out; have z1_ := HD.out.1; have z2_ := HD.out.2; have z3_ := HLH.out; omega⟩)); have sw2 := Aside0.mk (show w1.heap.size ≤ w2.heap.size from hk.1); replace HB := Aside0.mk hb0_; clear hb0_ hk hy_; have hq_0 : w2.cell? ⟨g1, 0, none⟩ = some (.slice B1 ls.length e1) := (blk_cell BK1.out 0).trans rfl; have hqf_0 := blk_frozen BK1.out 0; have hq_1 : w2.cell? ⟨g1, 1, none⟩ = some (.slice B2 ms.length e2) := (blk_cell BK1.out 1).trans rfl; have hqf_1 := blk_frozen BK1.out 1)
  | ((with_reducible refine gC 13 rfl ?_); refine gL 12 Try.func13 #[.slice B2 ms.length e2, .int .i64 b] ?_; (with_reducible refine (markS w0 _ lo2 hi2 _ ms b m HB.out (by have z4_ := HL.out; have z0_ := lg1.out; have z1_ := HD.out.1; have z2_ := HD.out.2; have z3_ := HLH.out; omega) F2.out hs2 hbb.1 hbb.2 HM.out).mono ?_); rintro e w3 ⟨rfl, hy_, hb0_, hk⟩; refine ⟨_, rfl, ?_⟩; replace F1 := Aside0.mk (F1.out.kept hk (fun k h1_ h2_ => by have y1_ := h1_.2; have y4_ := h2_.1; have z0_ := lg1.out; have z1_ := HD.out.1; have z2_ := HD.out.2; have z3_ := HLH.out; omega)); replace F2 := Aside0.mk hy_; replace HK := Aside0.mk (Kept.then_ HK.out hk (fun k h2_ => .inl ⟨by have y4_ := h2_.1; have z0_ := lg1.out; have z1_ := HD.out.1; have z2_ := HD.out.2; have z3_ := HLH.out; omega, h2_.2⟩)); clear BK1; have sw3 := Aside0.mk (show w2.heap.size ≤ w3.heap.size from hk.1); replace HB := Aside0.mk hb0_; clear hb0_ hk hy_; skip))
 go_ret
 exact ⟨rfl, F1.out, F2.out, HB.out, HK.out⟩
end Go.Proofs.Ytggiicplcglalaa.Own
end
