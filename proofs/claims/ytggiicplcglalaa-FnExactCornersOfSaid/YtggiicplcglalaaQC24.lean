/- Part of the proof that the law FnExactCornersOf answers true for all arguments. -/
import Derived.Test.YtggiicplcglalaaQC23
section
namespace Go.Proofs.Ytggiicplcglalaa.Eqs
open Go.RowKit Go.Proofs.Ytggiicplcglalaa.All Go.Proofs.YtggiicplcglalaaW.PrintWords Go.Proofs.YtggiicplcglalaaW.PrintLast
def marks : Nat → Int → List Int
 | 0, _ => []
 | n + 1, c => c :: marks n (c + 1)
theorem marks_length : ∀ n c, (marks n c).length = n
 | 0, _ => rfl
 | n + 1, c => by simp [marks, marks_length n]
theorem marks_get : ∀ n c i, i < n → (marks n c).getD i 0 = c + i
 | 0, _, _, h => absurd h (Nat.not_lt_zero _)
 | n + 1, c, 0, _ => by simp [marks]
 | n + 1, c, i + 1, h => by
  have := marks_get n (c + 1) i (by omega)
  simp only [marks, List.getD_cons_succ]
  rw [this]; omega
theorem marks_snoc : ∀ n c, marks n c ++ [c + n] = marks (n + 1) c
 | 0, c => by simp [marks]
 | n + 1, c => by
  have := marks_snoc n (c + 1)
  simp only [marks, List.cons_append] at this ⊢
  rw [← this]
  congr 3; omega
theorem mark_step (l : List Int) (c : Int) (i : Nat) (hi : i < l.length) : (marks i c ++ l.drop i).set i (c + i) = marks (i + 1) c ++ l.drop (i + 1) := by
 rw [List.set_append_right _ _ (by rw [marks_length]; omega), marks_length, Nat.sub_self, List.drop_eq_getElem_cons hi, List.set_cons_zero, ← marks_snoc, List.append_assoc]
 rfl
theorem markIntS_l0 (l : List Int) (hl : l.length < 1152921504606846976) (c : Int) (hc0 : 0 ≤ c) (hc : c < 1152921504606846976) (d : Nat) : ∀ (k : Nat) (i : Nat), i ≤ l.length → l.length - i = d → d < k →
  laws_markIntS.l0 k (marks i c ++ l.drop i) (c + i) i = some (c + l.length, marks l.length c) := by
 induction d with
 | zero =>
  intro k i h1 hd hk
  obtain ⟨k, rfl⟩ : ∃ m, k = m + 1 := ⟨k - 1, by omega⟩
  obtain rfl : i = l.length := by omega
  simp only [laws_markIntS.l0]
  rw [if_neg (by simp [marks_length])]
  simp
 | succ d ih =>
  intro k i h1 hd hk
  obtain ⟨k, rfl⟩ : ∃ m, k = m + 1 := ⟨k - 1, by omega⟩
  simp only [laws_markIntS.l0]
  rw [if_pos (by simp [marks_length]; omega), if_pos (by omega), wrap_id (by omega) (by omega), wrap_id (by omega) (by omega), show ((i : Int)).toNat = i from rfl, mark_step l c i (by omega)]
  have := ih k (i + 1) (by omega) (by omega) (by omega)
  rw [show ((i : Int) + 1) = ((i + 1 : Nat) : Int) from rfl, show c + (i : Int) + 1 = c + ((i + 1 : Nat) : Int) by omega]
  exact this
theorem markIntS_is (l : List Int) (hl : l.length < 1152921504606846976) (c : Int) (hc0 : 0 ≤ c) (hc : c < 1152921504606846976) (k : Nat) (hk : l.length < k) : laws_markIntS.f k l c = some (c + l.length, marks l.length c) := by
 unfold laws_markIntS.f
 have := markIntS_l0 l hl c hc0 hc l.length k 0 (by omega) (by omega) hk
 simpa [marks] using this
theorem heldIntS_l0 (n : Nat) (hl : n < 1152921504606846976) (c : Int) (hc0 : 0 ≤ c) (hc : c < 1152921504606846976) (d : Nat) : ∀ (k : Nat) (i : Nat), i ≤ n → n - i = d → d < k →
  laws_heldIntS.l0 k (marks n c) (c + i) i = some (c + n) := by
 induction d with
 | zero =>
  intro k i h1 hd hk
  obtain ⟨k, rfl⟩ : ∃ m, k = m + 1 := ⟨k - 1, by omega⟩
  obtain rfl : i = n := by omega
  simp only [laws_heldIntS.l0]
  rw [if_neg (by simp [marks_length])]
 | succ d ih =>
  intro k i h1 hd hk
  obtain ⟨k, rfl⟩ : ∃ m, k = m + 1 := ⟨k - 1, by omega⟩
  simp only [laws_heldIntS.l0]
  rw [if_pos (by rw [marks_length]; omega), if_pos (by omega), if_pos (by show (marks n c).getD i 0 = _; exact marks_get n c i (by omega)), wrap_id (by omega) (by omega), wrap_id (by omega) (by omega)]
  have := ih k (i + 1) (by omega) (by omega) (by omega)
  rw [show ((i : Int) + 1) = ((i + 1 : Nat) : Int) from rfl, show c + (i : Int) + 1 = c + ((i + 1 : Nat) : Int) by omega]
  exact this
theorem heldIntS_marks (n : Nat) (hl : n < 1152921504606846976) (c : Int) (hc0 : 0 ≤ c) (hc : c < 1152921504606846976) (k : Nat) (hk : n < k) : laws_heldIntS.f k (marks n c) c = some (c + n) := by
 unfold laws_heldIntS.f
 have := heldIntS_l0 n hl c hc0 hc n k 0 (by omega) (by omega) hk
 simpa using this
theorem copy_step (l : List Int) (i : Nat) (hi : i < l.length) : (l.take i ++ List.replicate (l.length - i) 0).set i (l.getD i 0) = l.take (i + 1) ++ List.replicate (l.length - (i + 1)) 0 := by
 have h1 : (l.take i).length = i := by simp; omega
 rw [List.set_append_right _ _ (by omega), h1, Nat.sub_self, show l.length - i = (l.length - (i + 1)) + 1 by omega, List.replicate_succ, List.set_cons_zero, List.take_succ_eq_append_getElem hi, List.append_assoc]
 simp [List.getD, List.getElem?_eq_getElem hi]
theorem toIntS_l0 (l : List Int) (hl : l.length ≤ 1048576) (d : Nat) : ∀ (k : Nat) (i : Nat), i ≤ l.length → l.length - i = d → d < k →
  laws_toIntS.l0 k l (l.take i ++ List.replicate (l.length - i) 0) i = some l := by
 induction d with
 | zero =>
  intro k i h1 hd hk
  obtain ⟨k, rfl⟩ : ∃ m, k = m + 1 := ⟨k - 1, by omega⟩
  obtain rfl : i = l.length := by omega
  simp only [laws_toIntS.l0]
  rw [if_neg (by omega)]
  simp
 | succ d ih =>
  intro k i h1 hd hk
  obtain ⟨k, rfl⟩ : ∃ m, k = m + 1 := ⟨k - 1, by omega⟩
  simp only [laws_toIntS.l0]
  have h2 : (l.take i ++ List.replicate (l.length - i) (0 : Int)).length = l.length := by simp; omega
  rw [if_pos (by omega), if_pos (by omega), if_pos (by rw [h2]; omega), wrap_id (by omega) (by omega), show ((i : Int)).toNat = i from rfl, show rd l (i : Int) = l.getD i 0 from rfl, copy_step l i (by omega)]
  exact ih k (i + 1) (by omega) (by omega) (by omega)
theorem toIntS_is (l : List Int) (hl : l.length ≤ 1048576) (k : Nat) (hk : l.length < k) : laws_toIntS.f k l = some l := by
 unfold laws_toIntS.f
 rw [if_pos (by omega), if_pos (by omega)]
 have := toIntS_l0 l hl l.length k 0 (by omega) (by omega) hk
 simpa using this
def Small (ls : List (List Int)) : Prop := ls.length ≤ 1048576 ∧ ∀ l ∈ ls, l.length ≤ 1048576
theorem getD_mem {ls : List (List Int)} {i : Nat} (hi : i < ls.length) : ls.getD i [] ∈ ls := by
 simp [List.getD, List.getElem?_eq_getElem hi]
theorem copyR_step (l : List (List Int)) (i : Nat) (hi : i < l.length) : (l.take i ++ List.replicate (l.length - i) []).set i (l.getD i []) = l.take (i + 1) ++ List.replicate (l.length - (i + 1)) [] := by
 have h1 : (l.take i).length = i := by simp; omega
 rw [List.set_append_right _ _ (by omega), h1, Nat.sub_self, show l.length - i = (l.length - (i + 1)) + 1 by omega, List.replicate_succ, List.set_cons_zero, List.take_succ_eq_append_getElem hi, List.append_assoc]
 simp [List.getD, List.getElem?_eq_getElem hi]
theorem toIntSS_l0 (l : List (List Int)) (hs : Small l) (d : Nat) : ∀ (k : Nat) (i : Nat), i ≤ l.length → l.length - i = d → d + 1048578 < k →
  laws_toIntSS.l0 k l (l.take i ++ List.replicate (l.length - i) []) i = some l := by
 have hl := hs.1
 induction d with
 | zero =>
  intro k i h1 hd hk
  obtain ⟨k, rfl⟩ : ∃ m, k = m + 1 := ⟨k - 1, by omega⟩
  obtain rfl : i = l.length := by omega
  simp only [laws_toIntSS.l0]
  rw [if_neg (by omega)]
  simp
 | succ d ih =>
  intro k i h1 hd hk
  obtain ⟨k, rfl⟩ : ∃ m, k = m + 1 := ⟨k - 1, by omega⟩
  simp only [laws_toIntSS.l0]
  have h2 : (l.take i ++ List.replicate (l.length - i) ([] : List Int)).length = l.length := by simp; omega
  have h3 := hs.2 _ (getD_mem (ls := l) (i := i) (by omega))
  rw [if_pos (by omega), if_pos (by omega), show rd_L1 l (i : Int) = l.getD i [] from rfl, toIntS_is _ h3 k (by omega), Option.bind_some, if_pos (by rw [h2]; omega), wrap_id (by omega) (by omega), show ((i : Int)).toNat = i from rfl, copyR_step l i (by omega)]
  exact ih k (i + 1) (by omega) (by omega) (by omega)
theorem toIntSS_is (l : List (List Int)) (hs : Small l) (k : Nat) (hk : 2097155 < k) : laws_toIntSS.f k l = some l := by
 have hl := hs.1
 unfold laws_toIntSS.f
 rw [if_pos (by omega), if_pos (by omega)]
 have := toIntSS_l0 l hs l.length k 0 (by omega) (by omega) (by omega)
 simpa using this
theorem eqIntSS_l0 (l : List (List Int)) (hs : Small l) (d : Nat) : ∀ (k i : Nat), i + d = l.length → d + 1048578 < k → laws_eqIntSS.l0 k l l i = some true := by
 have hl := hs.1
 induction d with
 | zero =>
  intro k i hi hk
  obtain ⟨k, rfl⟩ : ∃ m, k = m + 1 := ⟨k - 1, by omega⟩
  simp only [laws_eqIntSS.l0]; rw [if_neg (by omega)]
 | succ d ih =>
  intro k i hi hk
  obtain ⟨k, rfl⟩ : ∃ m, k = m + 1 := ⟨k - 1, by omega⟩
  simp only [laws_eqIntSS.l0]
  have h3 := hs.2 _ (getD_mem (ls := l) (i := i) (by omega))
  rw [if_pos (by omega), if_pos (by omega), if_pos (by omega), show rd_L1 l (i : Int) = l.getD i [] from rfl, eqIntS_same _ (by omega) k (by omega), Option.bind_some, if_pos rfl, wrap_id (by omega) (by omega)]
  exact ih k (i + 1) (by omega) (by omega)
theorem eqIntSS_same (l : List (List Int)) (hs : Small l) (k : Nat) (hk : 2097155 < k) : laws_eqIntSS.f k l l = some true := by
 have hl := hs.1
 unfold laws_eqIntSS.f
 rw [if_pos rfl]
 exact eqIntSS_l0 l hs l.length k 0 (by omega) (by omega)
end Go.Proofs.Ytggiicplcglalaa.Eqs
end
section
namespace Go.Proofs.Ytggiicplcglalaa.Own
open Go.RowKit Go.Proofs.Ytggiicplcglalaa.All Go.Proofs.Ytggiicplcglalaa.Eqs Go.Proofs.YtggiicplcglalaaW.PrintWords Go.Proofs.YtggiicplcglalaaW.PrintLast
set_option linter.unusedVariables false
def In (lo hi k : Nat) : Prop := lo ≤ k ∧ k < hi
abbrev dI : Kd (List Int) := Kd.slice 3 (Kd.int .i64)
def OI (w : World) (lo hi : Nat) (v : Value) (l : List Int) : Prop := Kd.R (Kd.int .i64) 3 w lo (In lo hi) v l ∧ hi ≤ w.heap.size
def OS (w : World) (lo hi : Nat) (v : Value) (ls : List (List Int)) : Prop := Kd.S dI 38 w lo (In lo hi) v ls ∧ hi ≤ w.heap.size
def OR (w : World) (lo hi : Nat) (v : Value) (ls : List (List Int)) : Prop := Kd.R dI 38 w lo (In lo hi) v ls ∧ hi ≤ w.heap.size
def OV (w : World) (lo hi : Nat) (v : Value) (l : List Int) : Prop := Kd.V (Kd.int .i64) 3 w lo (In lo hi) v l ∧ hi ≤ w.heap.size
def OW (w : World) (lo hi : Nat) (v : Value) (l : List (List Int)) : Prop := Kd.V dI 38 w lo (In lo hi) v l ∧ hi ≤ w.heap.size
section
variable {w w' : World} {lo hi n c : Nat} {v : Value} {A : Option Addr} {P S : Nat → Prop} {l : List Int} {ls : List (List Int)}
theorem OS.of (h : Kd.S dI 38 w' w.heap.size P v ls) : OS w' w.heap.size w'.heap.size v ls := ⟨Kd.S_mono (Kd.S_bound h) (fun k hk => ⟨hk.2.1, hk.2.2.1⟩), Nat.le_refl _⟩
theorem OS.kept (h : OS w lo hi v ls) (hk : Kept w w' S) (hn : ∀ k, In lo hi k → ¬ S k) : OS w' lo hi v ls := ⟨Kd.S_kept h.1 hk hn, Nat.le_trans h.2 hk.1⟩
theorem OS.below (h : OS w lo hi v ls) (hb : Below w.heap.size w w') : OS w' lo hi v ls := ⟨Kd.S_below h.1 hb, Nat.le_trans h.2 hb.size⟩
theorem OI.slice (h : OI w lo hi v l) : ∃ A c, v = .slice A l.length c := Kd.R_slice h.1
theorem OS.slice (h : OS w lo hi v ls) : ∃ A c, v = .slice A ls.length c := Kd.S_slice h.1
theorem OR.slice (h : OR w lo hi v ls) : ∃ A c, v = .slice A ls.length c := Kd.R_slice h.1
theorem OS.reads (h : OS w lo hi (.slice A n c) ls) : n = ls.length ∧ n ≤ c ∧ Kd.C dI w A ls.length ls := Kd.S_reads' h.1
theorem OV.slice (h : OV w lo hi v l) : ∃ A c, v = .slice A l.length c := Kd.V_slice h.1
theorem OW.of (h : Kd.V dI 38 w' w.heap.size (fun k => w.heap.size ≤ k) v ls) : OW w' w.heap.size w'.heap.size v ls := ⟨Kd.V_mono (Kd.V_bound h) (fun k hk => hk), Nat.le_refl _⟩
theorem OW.kept (h : OW w lo hi v ls) (hk : Kept w w' S) (hn : ∀ k, In lo hi k → ¬ S k) : OW w' lo hi v ls := ⟨Kd.V_kept h.1 hk hn, Nat.le_trans h.2 hk.1⟩
theorem OW.below (h : OW w lo hi v ls) (hb : Below w.heap.size w w') : OW w' lo hi v ls := ⟨Kd.V_below h.1 hb, Nat.le_trans h.2 hb.size⟩
theorem OW.slice (h : OW w lo hi v ls) : ∃ A c, v = .slice A ls.length c := Kd.V_slice h.1
theorem OW.reads (h : OW w lo hi (.slice A n c) ls) : n = ls.length ∧ n ≤ c ∧ Kd.C dI w A ls.length ls := Kd.V_reads' h.1
theorem In.mono {lo' hi' k : Nat} (h : In lo hi k) (h1 : lo' ≤ lo) (h2 : hi ≤ hi') : In lo' hi' k := ⟨Nat.le_trans h1 h.1, Nat.lt_of_lt_of_le h.2 h2⟩
end
theorem markP (w0 w : World) (base : Nat) (P : Nat → Prop) (v : Value) (l : List Int) (a : Int) (hB : Below w0.heap.size w0 w) (hlo : w0.heap.size ≤ base) (h : Kd.R (Kd.int .i64) 3 w base P v l) (hl : l.length ≤ 1048576) (ha : 0 ≤ a) (ha2 : a < 1152921504606846976) :
  Calls Try.prog 21 #[v, .int .i64 a] w fun e w' => e = .returned (.int .i64 (a + (l.length : Int))) ∧ Kd.R (Kd.int .i64) 3 w' base P v (marks l.length a) ∧ Below w0.heap.size w0 w' ∧ Kept w w' P := by
 refine (laws_markIntS.calls (l.length + 1) P v l a (a + (l.length : Int)) (marks l.length a) w0 w hB (Kd.R_lower h hlo) (markIntS_is l (by omega) a ha ha2 (l.length + 1) (by omega))).mono ?_
 rintro e w' ⟨rfl, hr, hb, hk⟩
 refine ⟨rfl, Kd.R_reok rfl (Kd.R_raise (b := w0.heap.size) (b' := base) (fun _ _ _ _ hm => hm) hr (Kd.R_base h)) (fun k e => h.1 k e), hb, hk⟩
def total : List (List Int) → Nat
 | [] => 0
 | l :: ls => l.length + total ls
def marksS : List (List Int) → Int → List (List Int)
 | [], _ => []
 | l :: ls, a => marks l.length a :: marksS ls (a + (l.length : Int))
theorem marksS_length : ∀ ls a, (marksS ls a).length = ls.length
 | [], _ => rfl
 | l :: ls, a => by simp [marksS, marksS_length ls]
theorem total_append : ∀ xs ys, total (xs ++ ys) = total xs + total ys
 | [], ys => by simp [total]
 | x :: xs, ys => by simp [total, total_append xs ys]; omega
theorem marksS_snoc : ∀ (xs : List (List Int)) (l : List Int) (a : Int), marksS (xs ++ [l]) a = marksS xs a ++ [marks l.length (a + (total xs : Int))]
 | [], l, a => by simp [marksS, total]
 | x :: xs, l, a => by
  simp only [List.cons_append, marksS, marksS_snoc xs l, total]
  rw [show a + (x.length : Int) + (total xs : Int) = a + ((x.length + total xs : Nat) : Int) by omega]
theorem total_le (ls : List (List Int)) (h : ∀ l ∈ ls, l.length ≤ 1048576) : total ls ≤ ls.length * 1048576 := by
 induction ls with
 | nil => simp [total]
 | cons l ls ih =>
  have h1 := ih (fun x hx => h x (by simp [hx]))
  have h2 := h l (by simp)
  simp only [total, List.length_cons, Nat.add_mul]; omega
theorem total_small {ls : List (List Int)} (h : Small ls) : total ls ≤ 1099511627776 := by
 have h1 := total_le ls h.2
 have h2 : ls.length * 1048576 ≤ 1048576 * 1048576 := Nat.mul_le_mul_right _ h.1
 omega
theorem total_take (ls : List (List Int)) (i : Nat) (hi : i < ls.length) : total (ls.take (i + 1)) = total (ls.take i) + (ls.getD i []).length := by
 rw [List.take_succ_eq_append_getElem hi, total_append]
 simp [total, List.getD, List.getElem?_eq_getElem hi]
theorem total_take_le (ls : List (List Int)) (i : Nat) : total (ls.take i) ≤ total ls := by
 have := total_append (ls.take i) (ls.drop i)
 rw [List.take_append_drop] at this
 omega
theorem marksS_step (ls : List (List Int)) (a : Int) (i : Nat) (hi : i < ls.length) : (marksS (ls.take i) a ++ ls.drop i).set i (marks (ls.getD i []).length (a + (total (ls.take i) : Int))) = marksS (ls.take (i + 1)) a ++ ls.drop (i + 1) := by
 have hl : (marksS (ls.take i) a).length = i := by rw [marksS_length]; simp; omega
 rw [List.set_append_right _ _ (by omega), hl, Nat.sub_self, List.drop_eq_getElem_cons hi, List.set_cons_zero, List.take_succ_eq_append_getElem hi, marksS_snoc, List.append_assoc]
 simp [List.getD, List.getElem?_eq_getElem hi]
theorem marksS_at (ls : List (List Int)) (a : Int) (i : Nat) (hi : i < ls.length) : (marksS (ls.take i) a ++ ls.drop i).getD i [] = ls.getD i [] := by
 have hl : (marksS (ls.take i) a).length = i := by rw [marksS_length]; simp; omega
 simp only [List.getD]
 rw [List.getElem?_append_right (by omega), hl, Nat.sub_self, List.getElem?_drop, Nat.add_zero]
end Go.Proofs.Ytggiicplcglalaa.Own
end
section
namespace Go.Proofs.Ytggiicplcglalaa.Own
open Go.RowKit Go.Proofs.Ytggiicplcglalaa.All Go.Proofs.Ytggiicplcglalaa.Eqs Go.Proofs.YtggiicplcglalaaW.PrintWords Go.Proofs.YtggiicplcglalaaW.PrintLast
set_option maxHeartbeats 4000000 in
set_option maxRecDepth 100000 in
theorem markS (w0 w : World) (lo hi : Nat) (v : Value) (ls : List (List Int)) (a m : Int) (hB : Below w0.heap.size w0 w) (hlo : w0.heap.size ≤ lo) (h : OS w lo hi v ls) (hs : Small ls) (ha : 0 ≤ a) (ha2 : a ≤ 1125899906842624) (hm : m = a + (total ls : Int)) :
  Calls Try.prog 13 #[v, .int .i64 a] w fun e w' => e = .returned (.int .i64 m) ∧ OS w' lo hi v (marksS ls a) ∧ Below w0.heap.size w0 w' ∧ Kept w w' (In lo hi) := by
 obtain ⟨A, c, rfl⟩ := h.slice
 have HM := Aside0.mk hm
 have HS := Aside0.mk hs
 have HO0 := Aside0.mk h
 have HB0 := Aside0.mk hB
 have HL := Aside0.mk hlo
 have hl := hs.1
 have HT := Aside0.mk (total_small hs)
 clear hm hs h hB hlo
 go_enter Try.func13, Try.ntmps13
 go_wp2
 go_loopg [1, 5] ls.length (fun gg v1 v5 wr => ∃ (i : Nat) (b : Int), v5 = .int .i64 i ∧ v1 = .int .i64 b ∧ Aside0 (b = a + (total (ls.take i) : Int)) ∧ Aside0 (i + gg = ls.length) ∧ Aside0 (OS wr lo hi (.slice A ls.length c) (marksS (ls.take i) a ++ ls.drop i)) ∧ Aside0 (Below w0.heap.size w0 wr) ∧ Aside0 (Kept w wr (In lo hi)))
 case atStart => exact ⟨0, a, rfl, rfl, ⟨by simp [total]⟩, ⟨by omega⟩, ⟨by simpa [marksS] using HO0.out⟩, HB0, ⟨Kept.refl _ _⟩⟩
 case round =>
  obtain ⟨i, b, rfl, rfl, Hb, HG, HO, HB, HK⟩ := hrel
  by_cases hlt : i < ls.length
  ·have hltz : (i : Int) < (ls.length : Int) := by omega
   have hlen : (marksS (ls.take i) a ++ ls.drop i).length = ls.length := by simp [marksS_length]; omega
   have hto := total_take_le ls i
   have hx : (ls.getD i []).length ≤ 1048576 := HS.out.2 _ (getD_mem hlt)
   have hbb : 0 ≤ b ∧ b < 1152921504606846976 := by have := Hb.out; have := HT.out; omega
   obtain ⟨g, cap, eo, hg1, hg2, hg3⟩ := Kd.S_form HO.out.1 (by omega)
   rw [hlen] at eo
   cases eo
   obtain ⟨oki, cs, hcl, hM, hcc, hfr, hoki, hH⟩ := Kd.S_elem HO.out.1 [] (i : Int) (by omega) (by omega)
   rw [show ((i : Int)).toNat = i from rfl, marksS_at ls a i hlt] at hM
   obtain ⟨ve, rfl, hR⟩ := hM
   have hcell := hcc 0 _ rfl
   rw [show (Kd.slice 3 (Kd.int .i64)).sz = 1 from rfl, show ((i : Int)).toNat = i from rfl, Nat.mul_one, Nat.add_zero] at hcell
   obtain ⟨Ae, ce, rfl⟩ := Kd.R_slice hR
   have HC := Aside0.mk (markP w0 wr lo oki (.slice Ae (ls.getD i []).length ce) (ls.getD i []) b HB.out HL.out hR hx hbb.1 hbb.2)
   have HH := Aside0.mk hH
   have HK1 := Aside0.mk hoki
   have HX := Aside0.mk hlen
   have HHI := Aside0.mk HO.out.2
   have HT1 := Aside0.mk (total_take ls i hlt)
   clear hg3 hcl hcc hfr hH hR hoki hlen hto hg1 hg2
   have HSET := Aside0.mk (marksS_step ls a i hlt)
   generalize hy : ls.getD i [] = y at HC HSET HT1 hx hcell HH
   clear hy
   go_wp2_with (go_at_call 21; refine HC.out.mono ?_; rintro e w' ⟨rfl, hr, hb, hk⟩; have HR := Aside0.mk hr; have HB2 := Aside0.mk hb; have HKk := Aside0.mk hk; clear hr hb hk)
   go_roundg (ls.length - (i + 1))
   case measure => have := HG.out; omega
   case rel => exact ⟨i + 1, b + (y.length : Int), by go_num, rfl, ⟨by have := Hb.out; have := HT1.out; omega⟩, ⟨by omega⟩, ⟨by
     have h1 := Kd.H_kept HH.out HKk.out (fun _ _ hn => hn)
     have h2 := Kd.H_back h1 (x' := marks y.length b) (okp := oki) ⟨_, rfl, HR.out⟩ (fun _ h => h)
     rw [show ((i : Int)).toNat = i from rfl, Hb.out, HSET.out] at h2
     exact ⟨h2, Nat.le_trans HHI.out HKk.out.1⟩⟩, HB2, ⟨Kept.then_ HK.out HKk.out (fun k h => .inl (HK1.out k h).1)⟩⟩
  ·have hltz : ¬ (i : Int) < (ls.length : Int) := by omega
   have : i = ls.length := by have := HG.out; omega
   subst this
   go_wp2
   go_ret
   refine ⟨?_, ?_, HB.out, HK.out⟩
   ·rw [HM.out, Hb.out, List.take_of_length_le (Nat.le_refl _)]; rfl
   ·have := HO.out
    rwa [List.take_of_length_le (Nat.le_refl _), List.drop_of_length_le (Nat.le_refl _), List.append_nil] at this
end Go.Proofs.Ytggiicplcglalaa.Own
end
section
namespace Go.Proofs.Ytggiicplcglalaa.Own
open Go.RowKit Go.Proofs.Ytggiicplcglalaa.All Go.Proofs.Ytggiicplcglalaa.Eqs Go.Proofs.YtggiicplcglalaaW.PrintWords Go.Proofs.YtggiicplcglalaaW.PrintLast
set_option linter.unusedVariables false
theorem marksS_getD : ∀ (ls : List (List Int)) (a : Int) (i : Nat), i < ls.length → (marksS ls a).getD i [] = marks (ls.getD i []).length (a + (total (ls.take i) : Int))
 | [], _, _, h => absurd h (Nat.not_lt_zero _)
 | l :: ls, a, 0, _ => by simp [marksS, total]
 | l :: ls, a, i + 1, h => by
  have := marksS_getD ls (a + (l.length : Int)) i (by simpa using h)
  simp only [marksS, List.getD_cons_succ, List.take_succ_cons, total]
  rw [this]
  congr 1; omega
theorem heldS_l0 (ls : List (List Int)) (hs : Small ls) (a : Int) (ha : 0 ≤ a) (ha2 : a ≤ 1125899906842624) (d : Nat) : ∀ (k i : Nat), i + d = ls.length → d + 1048578 < k →
  laws_heldIntSS.l0 k (marksS ls a) (a + (total (ls.take i) : Int)) i = some (a + (total ls : Int)) := by
 have hl := hs.1
 have ht := total_small hs
 induction d with
 | zero =>
  intro k i hi hk
  obtain ⟨k, rfl⟩ : ∃ m, k = m + 1 := ⟨k - 1, by omega⟩
  simp only [laws_heldIntSS.l0]
  rw [if_neg (by rw [marksS_length]; omega), List.take_of_length_le (by omega)]
 | succ d ih =>
  intro k i hi hk
  obtain ⟨k, rfl⟩ : ∃ m, k = m + 1 := ⟨k - 1, by omega⟩
  have hlt : i < ls.length := by omega
  have hti := total_take_le ls i
  have hx : (ls.getD i []).length ≤ 1048576 := hs.2 _ (getD_mem hlt)
  have hts := total_take ls i hlt
  have hti2 := total_take_le ls (i + 1)
  simp only [laws_heldIntSS.l0]
  rw [if_pos (by rw [marksS_length]; omega), if_pos (by omega), show rd_L1 (marksS ls a) (i : Int) = (marksS ls a).getD i [] from rfl, marksS_getD ls a i hlt, heldIntS_marks _ (by omega) _ (by omega) (by omega) k (by omega)]
  simp only [Option.bind_some]
  rw [if_neg (by omega), wrap_id (by omega) (by omega), show a + (total (ls.take i) : Int) + ((ls.getD i []).length : Int) = a + (total (ls.take (i + 1)) : Int) by omega, show ((i : Int) + 1) = ((i + 1 : Nat) : Int) by omega]
  exact ih k (i + 1) (by omega) (by omega)
theorem heldSS_is (ls : List (List Int)) (hs : Small ls) (a : Int) (ha : 0 ≤ a) (ha2 : a ≤ 1125899906842624) (k : Nat) (hk : 3000000 < k) : laws_heldIntSS.f k (marksS ls a) a = some (a + (total ls : Int)) := by
 have hl := hs.1
 unfold laws_heldIntSS.f
 have := heldS_l0 ls hs a ha ha2 ls.length k 0 (by omega) (by omega)
 simpa [total] using this
theorem heldS (k : Nat) (w : World) (lo hi : Nat) (A : Option Addr) (n c : Nat) (ls : List (List Int)) (a m : Int) (h : OS w lo hi (.slice A n c) (marksS ls a)) (hs : Small ls) (ha : 0 ≤ a) (ha2 : a ≤ 1125899906842624) (hm : m = a + (total ls : Int)) (hk : 3000000 < k) :
  Calls Try.prog 14 #[.slice A n c, .int .i64 a] w fun e w' => e = .returned (.int .i64 m) ∧ Below w.heap.size w w' := by
 subst hm
 have hr := h.reads
 have e : n = (marksS ls a).length := hr.1
 subst e
 refine (laws_heldIntSS.calls k A c (marksS ls a) a (a + (total ls : Int)) w hr.2.2 hr.2.1 (heldSS_is ls hs a ha ha2 k hk)).mono ?_
 rintro e w' ⟨rfl, hd⟩
 refine ⟨rfl, ?_⟩
 first | exact hd | (obtain ⟨q, rfl⟩ := hd; exact pw_below_drewN (Below.refl _ _) _)
end Go.Proofs.Ytggiicplcglalaa.Own
end
section
namespace Go.Proofs.Ytggiicplcglalaa.Eqs
open Go.RowKit Go.Proofs.Ytggiicplcglalaa.All Go.Proofs.YtggiicplcglalaaW.PrintWords Go.Proofs.YtggiicplcglalaaW.PrintLast
theorem szg_l0 (ls : List (List Int)) (hm : ∀ l ∈ ls, l.length ≤ maxLen) (hl : ls.length ≤ maxLen) (d : Nat) : ∀ (k i : Nat) (left : Int), i + d = ls.length → d < k → 0 ≤ left → left ≤ 1048576 →
  ∃ r, laws_szIntSS.l0 k ls left i = some r ∧ r ≤ 1048576 ∧ (0 ≤ r → ∀ j, i ≤ j → j < ls.length → (ls.getD j []).length ≤ 1048576) := by
 induction d with
 | zero =>
  intro k i left hi hk h0 h1
  obtain ⟨k, rfl⟩ : ∃ m, k = m + 1 := ⟨k - 1, by omega⟩
  simp only [laws_szIntSS.l0]
  rw [if_neg (by omega)]
  exact ⟨left, rfl, h1, fun _ j h2 h3 => by omega⟩
 | succ d ih =>
  intro k i left hi hk h0 h1
  obtain ⟨k, rfl⟩ : ∃ m, k = m + 1 := ⟨k - 1, by omega⟩
  simp only [laws_szIntSS.l0]
  unfold maxLen at hm hl
  have e1 : ((i : Int) < (ls.length : Int)) = True := eq_true (by omega)
  have e2 : ((0 : Int) ≤ (i : Int)) = True := eq_true (by omega)
  have e3 : wrap64 ((i : Int) + 1) = ((i + 1 : Nat) : Int) := wrap_id (by omega) (by omega)
  simp only [e1, e2, e3, if_true]
  have hx := hm _ (getD_mem (ls := ls) (i := i) (by omega))
  rw [show rd_L1 ls (i : Int) = ls.getD i [] from rfl]
  unfold laws_szIntS.f
  have e4 : wrap64 (left - ((ls.getD i []).length : Int)) = left - ((ls.getD i []).length : Int) := wrap_id (by omega) (by omega)
  rw [e4]
  by_cases h : left - ((ls.getD i []).length : Int) < 0
  ·rw [if_pos h]
   exact ⟨-1, rfl, by omega, fun h => by omega⟩
  ·rw [if_neg h]
   simp only [Option.bind_some]
   rw [if_neg h]
   obtain ⟨r, hr, hb, hj⟩ := ih k (i + 1) (left - ((ls.getD i []).length : Int)) (by omega) (by omega) (by omega) (by omega)
   refine ⟨r, hr, hb, fun h0 j h2 h3 => ?_⟩
   by_cases e : j = i
   ·subst e; omega
   ·exact hj h0 j (by omega) h3
theorem szAny (ls : List (List Int)) (hl : ls.length ≤ maxLen) (hm : ∀ l ∈ ls, l.length ≤ maxLen) (left : Int) (h0 : 0 ≤ left) (h1 : left ≤ 1048576) : ∃ r, r ≤ 1048576 ∧ (0 ≤ r → Small ls) ∧ ∀ k, 1048577 < k → laws_szIntSS.f k ls left = some r := by
 have hl' := hl
 unfold maxLen at hl'
 have hw : wrap64 (left - (ls.length : Int)) = left - (ls.length : Int) := wrap_id (by omega) (by omega)
 by_cases h : left - (ls.length : Int) < 0
 ·refine ⟨-1, by omega, fun h => by omega, fun k _ => ?_⟩
  unfold laws_szIntSS.f
  rw [hw, if_pos h]
 ·obtain ⟨r, hr, hb, hj⟩ := szg_l0 ls hm hl ls.length 1048578 0 (left - (ls.length : Int)) (by omega) (by omega) (by omega) (by omega)
  have key : laws_szIntSS.f 1048578 ls left = some r := by
   unfold laws_szIntSS.f
   rw [hw, if_neg h]
   exact hr
  refine ⟨r, hb, fun h0 => ⟨by omega, fun l hl' => ?_⟩, fun k hk => at_rounds (laws_szIntSS.mono ls left) (show 1048578 ≤ k by omega) key⟩
  obtain ⟨j, hj', rfl⟩ := List.mem_iff_getElem.1 hl'
  have := hj h0 j (Nat.zero_le _) hj'
  simpa [List.getD, List.getElem?_eq_getElem hj'] using this
theorem szGame_is (a b : List (List Int)) (ha : a.length ≤ maxLen) (hb : b.length ≤ maxLen) (hma : ∀ l ∈ a, l.length ≤ maxLen) (hmb : ∀ l ∈ b, l.length ≤ maxLen) : ∃ r, (0 ≤ r → Small a ∧ Small b) ∧ ∀ k, 1048577 < k → laws_szGame.f k a b 1048576 = some r := by
 obtain ⟨r, h1, h2, h3⟩ := szAny a ha hma 1048576 (by omega) (by omega)
 by_cases h : r < 0
 ·refine ⟨-1, fun h => by omega, fun k hk => ?_⟩
  unfold laws_szGame.f
  rw [h3 k hk, Option.bind_some, if_pos h]
 ·obtain ⟨r', h1', h2', h3'⟩ := szAny b hb hmb r (by omega) h1
  by_cases h' : r' < 0
  ·refine ⟨-1, fun h => by omega, fun k hk => ?_⟩
   unfold laws_szGame.f
   rw [h3 k hk, Option.bind_some, if_neg h, h3' k hk, Option.bind_some, if_pos h']
  ·refine ⟨r', fun _ => ⟨h2 (by omega), h2' (by omega)⟩, fun k hk => ?_⟩
   unfold laws_szGame.f
   rw [h3 k hk, Option.bind_some, if_neg h, h3' k hk, Option.bind_some, if_neg h']
theorem eqGame_same (a b : List (List Int)) (ha : Small a) (hb : Small b) (k : Nat) (hk : 2097155 < k) : laws_eqGame.f k a b a b = some true := by
 unfold laws_eqGame.f
 rw [eqIntSS_same a ha k hk, Option.bind_some, if_pos rfl, eqIntSS_same b hb k hk, Option.bind_some, if_pos rfl]
end Go.Proofs.Ytggiicplcglalaa.Eqs
end
