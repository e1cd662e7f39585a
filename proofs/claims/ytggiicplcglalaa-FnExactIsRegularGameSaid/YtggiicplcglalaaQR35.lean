/- Part of the proof that the law FnExactIsRegularGame answers true for all arguments. -/
import Derived.Deep.Matrix
import Derived.Test.YtggiicplcglalaaQR34
section
namespace Go.Proofs.Ytggiicplcglalaa.RowsIn
open Go.RowKit Go.Proofs.Ytggiicplcglalaa.All Go.Proofs.YtggiicplcglalaaW.PrintWords Go.Proofs.YtggiicplcglalaaW.PrintLast
open Go.Deep
theorem c_int {w : World} {A : Option Addr} {n : Nat} {Z : List Int} (hz : n ≤ Z.length) (hn : n ≤ maxLen) (hnil : A = none → n = 0) (hc : ∀ a', A = some a' → ∀ c, c < n → w.cell? (a'.add c) = some (.int .i64 (Z.getD c 0))) : Kd.C (Kd.int .i64) w A n (Z.take n) := by
 refine ⟨by simp; omega, hn, fun h0 => ?_⟩
 cases A with
 | none => exact absurd (hnil rfl) (by omega)
 | some a =>
  refine ⟨a, rfl, fun j p hp => ⟨[.int .i64 p], rfl, rfl, fun i u hu => ?_⟩⟩
  have hj : j < n := by
   have := (List.getElem?_eq_some_iff.1 hp).1
   simp at this; omega
  have hi : i = 0 := by
   cases i with
   | zero => rfl
   | succ i => simp at hu
  subst hi
  have : p = Z.getD j 0 := by
   rw [List.getElem?_take_of_lt hj] at hp
   simp [List.getD, hp]
  subst this
  obtain rfl : Value.int .i64 (Z.getD j 0) = u := by simpa using hu
  have := hc a rfl j hj
  rwa [show (Kd.int .i64).sz = 1 from rfl, Nat.mul_one, Nat.add_zero]
def Lists (w : World) (A : Option Addr) (len cap : Nat) (ls : List (List Int)) : Prop :=
 len = ls.length ∧ Kd.C (Kd.slice 3 (Kd.int .i64)) w A ls.length ls ∧ ls.length ≤ cap ∧ ls.length ≤ maxLen ∧ (∀ l ∈ ls, l.length ≤ maxLen) ∧ ∀ l ∈ ls, ∀ x ∈ l, (Lit.int .i64 x).wf = true
theorem lists_open {H : Type} {enc : TypeId × Value → H} {w : World} {base : Nat} {fuel : Nat} {cs : List Value} {x : DataW H × List MemPlace}
  (h : DataW.trod enc Try.prog w base (fun _ => true) true fuel 22 cs = some x) : ∃ (a : Option Addr) (len cap : Nat) (ls : List (List Int)), cs = [.slice a len cap] ∧ Lists w a len cap ls := by
 rcases open_int_rows Try.underlying22 Try.underlying38 Try.underlying3 (by kernel_rfl) (by kernel_rfl) h with ⟨rfl, _⟩ | ⟨a, len, cap, A, L, C, Z, rfl, _, hl, hm, _, hr⟩
 ·exact ⟨none, 0, 0, [], rfl, rfl, ⟨rfl, by simp, fun h => absurd h (by simp)⟩, by simp, by simp, by simp, by simp⟩
 ·have hlen : ((List.range len).map fun r => (Z r).take (L r)).length = len := by simp
  refine ⟨some a, len, cap, (List.range len).map fun r => (Z r).take (L r), rfl, hlen.symm, ?_, by rw [hlen]; exact hl, by rw [hlen]; omega, ?_, ?_⟩
  ·rw [hlen]
   refine ⟨hlen, by unfold maxLen at hm; omega, fun _ => ⟨a, rfl, fun j p hp => ?_⟩⟩
   have hj : j < len := by
    have := (List.getElem?_eq_some_iff.1 hp).1
    simpa using this
   obtain rfl : (Z j).take (L j) = p := by simpa [List.getElem?_map, List.getElem?_range hj] using hp
   obtain ⟨hcell, h1, h2, h3, _, h5, h6⟩ := hr j (by omega)
   have hlj : ((Z j).take (L j)).length = L j := by simp; omega
   refine ⟨[.slice (A j) (L j) (C j)], rfl, ⟨A j, C j, by rw [hlj], by rw [hlj]; exact h1, ?_⟩, fun i u hu => ?_⟩
   ·rw [hlj]
    exact c_int (by omega) (by omega) (fun e => by have := h5 e; omega) (fun a' e c hc => (h6 a' e).2 c (by omega))
   ·have hi : i = 0 := by
     cases i with
     | zero => rfl
     | succ i => simp at hu
    subst hi
    obtain rfl : Value.slice (A j) (L j) (C j) = u := by simpa using hu
    rwa [show (Kd.slice 3 (Kd.int .i64)).sz = 1 from rfl, Nat.mul_one, Nat.add_zero]
  ·intro l hl'
   obtain ⟨r, hr', rfl⟩ := List.mem_map.1 hl'
   obtain ⟨_, h1, h2, h3, _⟩ := hr r (by have := List.mem_range.1 hr'; omega)
   simp; omega
  ·intro l hl' n hn
   obtain ⟨r, hr', rfl⟩ := List.mem_map.1 hl'
   obtain ⟨_, _, _, _, h4, _⟩ := hr r (by have := List.mem_range.1 hr'; omega)
   exact h4 n (List.mem_of_mem_take hn)
theorem pair_open {H : Type} {enc : TypeId × Value → H} {w : World} {base : Nat} {t : TypeId} {f0 f1 : Field} {cs : Array Value} {d : DataW H} {ps : List MemPlace} (ht : Try.prog.underlying t = some (.struct #[f0, f1])) (e0 : f0.type = 22) (e1 : f1.type = 22) (o0 : f0.offset = 0) (o1 : f1.offset = 1) (hc : Try.prog.cellsOf t = 2) (hs : Try.prog.cellsOf 22 = 1)
  (h : DataW.Trod enc Try.prog w base (fun _ => true) true t (.agg cs) d ps) : ∃ (a : Option Addr) (len cap : Nat) (ls : List (List Int)) (b : Option Addr) (lenb capb : Nat) (ms : List (List Int)), cs = #[.slice a len cap, .slice b lenb capb] ∧ Lists w a len cap ls ∧ Lists w b lenb capb ms := by
 obtain ⟨fuel, hf⟩ := h
 obtain ⟨y0, y1, n, _, hl, h0, h1⟩ := Go.ChangeShapes.trod_struct2 ht hf
 rw [e0, o0, hs] at h0
 rw [e1, o1, hs] at h1
 obtain ⟨a, len, cap, ls, ea, L0⟩ := lists_open h0
 obtain ⟨b, lenb, capb, ms, eb, L1⟩ := lists_open h1
 refine ⟨a, len, cap, ls, b, lenb, capb, ms, ?_, L0, L1⟩
 rw [hc] at hl
 simp only [Value.cells] at hl ea eb
 apply Array.toList_inj.mp
 match hcs : cs.toList, hl with
 | [x, y], _ =>
  rw [hcs] at ea eb
  simp at ea eb
  subst ea eb
  rfl
end Go.Proofs.Ytggiicplcglalaa.RowsIn
end
section
namespace Go.Proofs.Ytggiicplcglalaa.Pure
open Go.RowKit Go.Proofs.Ytggiicplcglalaa.All Go.Proofs.Ytggiicplcglalaa.Eqs Go.Proofs.Ytggiicplcglalaa.GmLab Go.Proofs.Ytggiicplcglalaa.RowsIn Go.Proofs.YtggiicplcglalaaW.PrintWords Go.Proofs.YtggiicplcglalaaW.PrintLast
theorem toldIsRegularGame (a b : List (List Int)) (ha : a.length ≤ maxLen) (hb : b.length ≤ maxLen) (hma : ∀ l ∈ a, l.length ≤ maxLen) (hmb : ∀ l ∈ b, l.length ≤ maxLen) : ∃ k, laws_FnExactIsRegularGame.f k a b = some true := by
 obtain ⟨r, hs, hr⟩ := szGame_is a b ha hb hma hmb
 by_cases h : r < 0
 ·exact ⟨4000000, by unfold laws_FnExactIsRegularGame.f; rw [hr _ (by omega), Option.bind_some, if_pos h]⟩
 obtain ⟨h1, h2⟩ := hs (by omega)
 obtain ⟨p, ⟨K1, e1⟩, ⟨K2, e2⟩⟩ := isRegularGame_same a b h1 h2
 refine ⟨K1 + K2 + 4000001, ?_⟩
 have e1' := e1 (K1 + K2 + 4000001) (by omega)
 have e2' := e2 (K1 + K2 + 4000001) (by omega)
 have hq : 4000000 < K1 + K2 + 4000001 := by omega
 clear e1 e2
 generalize K1 + K2 + 4000001 = q at e1' e2' hq
 have e1 : spec_IsRegularGame.f q a b = some p := e1'
 have e2 : impl_IsRegularGame.f q a b = some p := e2'
 unfold laws_FnExactIsRegularGame.f
 rw [hr _ (by omega), Option.bind_some, if_neg h, toGame_is a b h1 h2 _ (by omega)]
 simp only [Option.bind_some]
 rw [e1, Option.bind_some, e2, Option.bind_some]
 obtain ⟨q, rfl⟩ : ∃ m, q = m + 1 := ⟨q - 1, by omega⟩
 simp only [bne_self_eq_false, laws_FnExactIsRegularGame.j0, Bool.false_eq_true, if_false]
 rw [toGame_is a b h1 h2 _ (by omega)]
 simp only [Option.bind_some]
 rw [eqGame_same a b h1 h2 _ (by omega)]
 rfl
theorem FnExactIsRegularGame (A0 : Option Addr) (len0 cap0 : Nat) (l0 : List (List Int)) (B0 : Option Addr) (lenb0 capb0 : Nat) (m0 : List (List Int)) (w : World) (H0 : Lists w A0 len0 cap0 l0) (J0 : Lists w B0 lenb0 capb0 m0) :
  Calls Try.prog 4 #[.agg #[.slice A0 len0 cap0, .slice B0 lenb0 capb0]] w fun e w' => e = .returned (.bool true) ∧ Below w.heap.size w w' := by
 obtain ⟨rfl, hr1, hc1, hm1, hml1, _⟩ := H0
 obtain ⟨rfl, hr2, hc2, hm2, hml2, _⟩ := J0
 obtain ⟨k, hk⟩ := toldIsRegularGame l0 m0 hm1 hm2 hml1 hml2
 exact laws_FnExactIsRegularGame.calls k A0 cap0 l0 B0 capb0 m0 true w hr1 hc1 hr2 hc2 hk
end Go.Proofs.Ytggiicplcglalaa.Pure
end
