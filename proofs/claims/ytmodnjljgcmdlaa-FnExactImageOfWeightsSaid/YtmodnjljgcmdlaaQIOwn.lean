/- Rows of a call's own, told by the range of the blocks in which they lie, and what the law's marks do to them. -/
import Derived.Test.YtmodnjljgcmdlaaQIx0
import Derived.Test.YtmodnjljgcmdlaaQIx5
import Derived.Test.YtmodnjljgcmdlaaQIx1
import Derived.Test.YtmodnjljgcmdlaaQIEqsR
import Derived.Test.YtmodnjljgcmdlaaQIMark
import Derived.Test.YtmodnjljgcmdlaaQIEqs
namespace Go.Proofs.Ytmodnjljgcmdlaa.Own
open Go.RowKit Go.Proofs.Ytmodnjljgcmdlaa.All Go.Proofs.Ytmodnjljgcmdlaa.Eqs Go.Proofs.YtmodnjljgcmdlaaW.PrintWords Go.Proofs.YtmodnjljgcmdlaaW.PrintLast
set_option linter.unusedVariables false
/-- The blocks from lo on, below hi. -/
def In (lo hi k : Nat) : Prop := lo ≤ k ∧ k < hi
abbrev dI : Kd (List Int) := Kd.slice 3 (Kd.int .i64)
/-- A row of numbers in blocks of its own. -/
def OI (w : World) (lo hi : Nat) (v : Value) (l : List Int) : Prop := Kd.R (Kd.int .i64) 3 w lo (In lo hi) v l ∧ hi ≤ w.heap.size
/-- A row of rows in blocks of its own, no two rows in one block. -/
def OS (w : World) (lo hi : Nat) (v : Value) (ls : List (List Int)) : Prop := Kd.S dI 27 w lo (In lo hi) v ls ∧ hi ≤ w.heap.size
/-- A row of rows in blocks of its own; rows may share. -/
def OR (w : World) (lo hi : Nat) (v : Value) (ls : List (List Int)) : Prop := Kd.R dI 27 w lo (In lo hi) v ls ∧ hi ≤ w.heap.size
/-- A row of numbers in blocks of its own that is only read. -/
def OV (w : World) (lo hi : Nat) (v : Value) (l : List Int) : Prop := Kd.V (Kd.int .i64) 3 w lo (In lo hi) v l ∧ hi ≤ w.heap.size
section
variable {w w' : World} {lo hi n c : Nat} {v : Value} {A : Option Addr} {P S : Nat → Prop} {l : List Int} {ls : List (List Int)}
theorem OI.of (h : Kd.R (Kd.int .i64) 3 w' w.heap.size P v l) : OI w' w.heap.size w'.heap.size v l := ⟨Kd.R_mono (Kd.R_bound h) (fun k hk => ⟨hk.2.1, hk.2.2.1⟩), Nat.le_refl _⟩
theorem OS.of (h : Kd.S dI 27 w' w.heap.size P v ls) : OS w' w.heap.size w'.heap.size v ls := ⟨Kd.S_mono (Kd.S_bound h) (fun k hk => ⟨hk.2.1, hk.2.2.1⟩), Nat.le_refl _⟩
theorem OR.of (h : Kd.R dI 27 w' w.heap.size P v ls) : OR w' w.heap.size w'.heap.size v ls := ⟨Kd.R_mono (Kd.R_bound h) (fun k hk => ⟨hk.2.1, hk.2.2.1⟩), Nat.le_refl _⟩
theorem OI.kept (h : OI w lo hi v l) (hk : Kept w w' S) (hn : ∀ k, In lo hi k → ¬ S k) : OI w' lo hi v l := ⟨Kd.R_kept h.1 hk hn, Nat.le_trans h.2 hk.1⟩
theorem OS.kept (h : OS w lo hi v ls) (hk : Kept w w' S) (hn : ∀ k, In lo hi k → ¬ S k) : OS w' lo hi v ls := ⟨Kd.S_kept h.1 hk hn, Nat.le_trans h.2 hk.1⟩
theorem OR.kept (h : OR w lo hi v ls) (hk : Kept w w' S) (hn : ∀ k, In lo hi k → ¬ S k) : OR w' lo hi v ls := ⟨Kd.R_kept h.1 hk hn, Nat.le_trans h.2 hk.1⟩
theorem OI.below (h : OI w lo hi v l) (hb : Below w.heap.size w w') : OI w' lo hi v l := ⟨Kd.R_below h.1 hb, Nat.le_trans h.2 hb.size⟩
theorem OS.below (h : OS w lo hi v ls) (hb : Below w.heap.size w w') : OS w' lo hi v ls := ⟨Kd.S_below h.1 hb, Nat.le_trans h.2 hb.size⟩
theorem OR.below (h : OR w lo hi v ls) (hb : Below w.heap.size w w') : OR w' lo hi v ls := ⟨Kd.R_below h.1 hb, Nat.le_trans h.2 hb.size⟩
theorem OI.slice (h : OI w lo hi v l) : ∃ A c, v = .slice A l.length c := Kd.R_slice h.1
theorem OS.slice (h : OS w lo hi v ls) : ∃ A c, v = .slice A ls.length c := Kd.S_slice h.1
theorem OR.slice (h : OR w lo hi v ls) : ∃ A c, v = .slice A ls.length c := Kd.R_slice h.1
theorem OI.reads (h : OI w lo hi (.slice A n c) l) : n = l.length ∧ n ≤ c ∧ Kd.C (Kd.int .i64) w A l.length l := Kd.R_reads' h.1
theorem OS.reads (h : OS w lo hi (.slice A n c) ls) : n = ls.length ∧ n ≤ c ∧ Kd.C dI w A ls.length ls := Kd.S_reads' h.1
theorem OR.reads (h : OR w lo hi (.slice A n c) ls) : n = ls.length ∧ n ≤ c ∧ Kd.C dI w A ls.length ls := Kd.R_reads' h.1
theorem OV.of (h : Kd.V (Kd.int .i64) 3 w' w.heap.size (fun k => w.heap.size ≤ k) v l) : OV w' w.heap.size w'.heap.size v l := ⟨Kd.V_mono (Kd.V_bound h) (fun k hk => hk), Nat.le_refl _⟩
theorem OV.kept (h : OV w lo hi v l) (hk : Kept w w' S) (hn : ∀ k, In lo hi k → ¬ S k) : OV w' lo hi v l := ⟨Kd.V_kept h.1 hk hn, Nat.le_trans h.2 hk.1⟩
theorem OV.below (h : OV w lo hi v l) (hb : Below w.heap.size w w') : OV w' lo hi v l := ⟨Kd.V_below h.1 hb, Nat.le_trans h.2 hb.size⟩
theorem OV.slice (h : OV w lo hi v l) : ∃ A c, v = .slice A l.length c := Kd.V_slice h.1
theorem OV.reads (h : OV w lo hi (.slice A n c) l) : n = l.length ∧ n ≤ c ∧ Kd.C (Kd.int .i64) w A l.length l := Kd.V_reads' h.1
/-- What is made in a part of a range is made in the range. -/
theorem In.mono {lo' hi' k : Nat} (h : In lo hi k) (h1 : lo' ≤ lo) (h2 : hi ≤ hi') : In lo' hi' k := ⟨Nat.le_trans h1 h.1, Nat.lt_of_lt_of_le h.2 h2⟩
end
/-! #### marks -/
/-- markIntS at a row of one's own. -/
theorem markP (w0 w : World) (base : Nat) (P : Nat → Prop) (v : Value) (l : List Int) (a : Int) (hB : Below w0.heap.size w0 w) (hlo : w0.heap.size ≤ base) (h : Kd.R (Kd.int .i64) 3 w base P v l) (hl : l.length ≤ 1048576) (ha : 0 ≤ a) (ha2 : a < 1152921504606846976) :
    Calls Try.prog 24 #[v, .int .i64 a] w fun e w' => e = .returned (.int .i64 (a + (l.length : Int))) ∧ Kd.R (Kd.int .i64) 3 w' base P v (marks l.length a) ∧ Below w0.heap.size w0 w' ∧ Kept w w' P := by
  refine (laws_markIntS.calls (l.length + 1) P v l a (a + (l.length : Int)) (marks l.length a) w0 w hB (Kd.R_lower h hlo) (markIntS_is l (by omega) a ha ha2 (l.length + 1) (by omega))).mono ?_
  rintro e w' ⟨rfl, hr, hb, hk⟩
  refine ⟨rfl, Kd.R_reok rfl (Kd.R_raise (b := w0.heap.size) (b' := base) (fun _ _ _ _ hm => hm) hr (Kd.R_base h)) (fun k e => h.1 k e), hb, hk⟩
theorem markI (w0 w : World) (lo hi : Nat) (v : Value) (l : List Int) (a : Int) (hB : Below w0.heap.size w0 w) (hlo : w0.heap.size ≤ lo) (h : OI w lo hi v l) (hl : l.length ≤ 1048576) (ha : 0 ≤ a) (ha2 : a < 1152921504606846976) :
    Calls Try.prog 24 #[v, .int .i64 a] w fun e w' => e = .returned (.int .i64 (a + (l.length : Int))) ∧ OI w' lo hi v (marks l.length a) ∧ Below w0.heap.size w0 w' ∧ Kept w w' (In lo hi) := by
  refine (markP w0 w lo (In lo hi) v l a hB hlo h.1 hl ha ha2).mono ?_
  rintro e w' ⟨rfl, hr, hb, hk⟩
  exact ⟨rfl, ⟨hr, Nat.le_trans h.2 hk.1⟩, hb, hk⟩
theorem markIm (w0 w : World) (lo hi : Nat) (v : Value) (l : List Int) (a m : Int) (hB : Below w0.heap.size w0 w) (hlo : w0.heap.size ≤ lo) (h : OI w lo hi v l) (hl : l.length ≤ 1048576) (ha : 0 ≤ a) (ha2 : a ≤ 1125899906842624) (hm : m = a + (l.length : Int)) :
    Calls Try.prog 24 #[v, .int .i64 a] w fun e w' => e = .returned (.int .i64 m) ∧ OI w' lo hi v (marks l.length a) ∧ Below w0.heap.size w0 w' ∧ Kept w w' (In lo hi) := by
  subst hm
  exact markI w0 w lo hi v l a hB hlo h hl ha (by omega)
/-- How many numbers there are in all. -/
def total : List (List Int) → Nat
  | [] => 0
  | l :: ls => l.length + total ls
def marksS : List (List Int) → Int → List (List Int)
  | [], _ => []
  | l :: ls, a => marks l.length a :: marksS ls (a + (l.length : Int))
theorem marksS_length : ∀ ls a, (marksS ls a).length = ls.length
  | [], _ => rfl
  | l :: ls, a => by simp [marksS, marksS_length ls]
theorem total_append : ∀ xs ys, total (xs ++ ys) = total xs + total ys
  | [], ys => by simp [total]
  | x :: xs, ys => by simp [total, total_append xs ys]; omega
theorem marksS_snoc : ∀ (xs : List (List Int)) (l : List Int) (a : Int), marksS (xs ++ [l]) a = marksS xs a ++ [marks l.length (a + (total xs : Int))]
  | [], l, a => by simp [marksS, total]
  | x :: xs, l, a => by
    simp only [List.cons_append, marksS, marksS_snoc xs l, total]
    rw [show a + (x.length : Int) + (total xs : Int) = a + ((x.length + total xs : Nat) : Int) by omega]
theorem total_le (ls : List (List Int)) (h : ∀ l ∈ ls, l.length ≤ 1048576) : total ls ≤ ls.length * 1048576 := by
  induction ls with
  | nil => simp [total]
  | cons l ls ih =>
    have h1 := ih (fun x hx => h x (by simp [hx]))
    have h2 := h l (by simp)
    simp only [total, List.length_cons, Nat.add_mul]; omega
theorem total_small {ls : List (List Int)} (h : Small ls) : total ls ≤ 1099511627776 := by
  have h1 := total_le ls h.2
  have h2 : ls.length * 1048576 ≤ 1048576 * 1048576 := Nat.mul_le_mul_right _ h.1
  omega
theorem total_take (ls : List (List Int)) (i : Nat) (hi : i < ls.length) : total (ls.take (i + 1)) = total (ls.take i) + (ls.getD i []).length := by
  rw [List.take_succ_eq_append_getElem hi, total_append]
  simp [total, List.getD, List.getElem?_eq_getElem hi]
theorem total_take_le (ls : List (List Int)) (i : Nat) : total (ls.take i) ≤ total ls := by
  have := total_append (ls.take i) (ls.drop i)
  rw [List.take_append_drop] at this
  omega
theorem marksS_step (ls : List (List Int)) (a : Int) (i : Nat) (hi : i < ls.length) : (marksS (ls.take i) a ++ ls.drop i).set i (marks (ls.getD i []).length (a + (total (ls.take i) : Int))) = marksS (ls.take (i + 1)) a ++ ls.drop (i + 1) := by
  have hl : (marksS (ls.take i) a).length = i := by rw [marksS_length]; simp; omega
  rw [List.set_append_right _ _ (by omega), hl, Nat.sub_self, List.drop_eq_getElem_cons hi, List.set_cons_zero, List.take_succ_eq_append_getElem hi, marksS_snoc, List.append_assoc]
  simp [List.getD, List.getElem?_eq_getElem hi]
theorem marksS_at (ls : List (List Int)) (a : Int) (i : Nat) (hi : i < ls.length) : (marksS (ls.take i) a ++ ls.drop i).getD i [] = ls.getD i [] := by
  have hl : (marksS (ls.take i) a).length = i := by rw [marksS_length]; simp; omega
  simp only [List.getD]
  rw [List.getElem?_append_right (by omega), hl, Nat.sub_self, List.getElem?_drop, Nat.add_zero]
/-! #### what was marked is held -/
theorem heldI (k : Nat) (w : World) (lo hi : Nat) (A : Option Addr) (n c : Nat) (a m : Int) (h : OI w lo hi (.slice A n c) (marks n a)) (hn : n ≤ 1048576) (ha : 0 ≤ a) (ha2 : a < 1152921504606846976) (hm : m = a + (n : Int)) (hk : 3000000 < k) :
    Calls Try.prog 29 #[.slice A n c, .int .i64 a] w fun e w' => e = .returned (.int .i64 m) ∧ Below w.heap.size w w' := by
  subst hm
  have hr := h.reads
  have := laws_heldIntS.calls k A c (marks n a) a (a + (n : Int)) w hr.2.2 (by rw [← hr.1]; exact hr.2.1) (heldIntS_marks n (by omega) a ha ha2 k (by omega))
  rw [marks_length] at this
  refine this.mono ?_
  rintro e w' ⟨rfl, hd⟩
  refine ⟨rfl, ?_⟩
  obtain ⟨q, rfl⟩ := hd
  exact pw_below_drewN (Below.refl _ _) _
end Go.Proofs.Ytmodnjljgcmdlaa.Own

