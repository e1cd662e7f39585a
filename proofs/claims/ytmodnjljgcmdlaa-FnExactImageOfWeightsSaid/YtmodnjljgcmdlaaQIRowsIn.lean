/- A list of lists of whole numbers that comes in reads as such a list; how its cells are opened. -/
import Derived.Deep.Matrix
import Derived.WalkKit
import Derived.Test.YtmodnjljgcmdlaaQIx0
namespace Go.Proofs.Ytmodnjljgcmdlaa.RowsIn
open Go.RowKit Go.Proofs.Ytmodnjljgcmdlaa.All Go.Proofs.YtmodnjljgcmdlaaW.PrintWords Go.Proofs.YtmodnjljgcmdlaaW.PrintLast
open Go.Deep

theorem c_int {w : World} {A : Option Addr} {n : Nat} {Z : List Int} (hz : n ≤ Z.length) (hn : n ≤ maxLen) (hnil : A = none → n = 0) (hc : ∀ a', A = some a' → ∀ c, c < n → w.cell? (a'.add c) = some (.int .i64 (Z.getD c 0))) : Kd.C (Kd.int .i64) w A n (Z.take n) := by
  refine ⟨by simp; omega, hn, fun h0 => ?_⟩
  cases A with
  | none => exact absurd (hnil rfl) (by omega)
  | some a =>
    refine ⟨a, rfl, fun j p hp => ⟨[.int .i64 p], rfl, rfl, fun i u hu => ?_⟩⟩
    have hj : j < n := by
      have := (List.getElem?_eq_some_iff.1 hp).1
      simp at this; omega
    have hi : i = 0 := by
      cases i with
      | zero => rfl
      | succ i => simp at hu
    subst hi
    have : p = Z.getD j 0 := by
      rw [List.getElem?_take_of_lt hj] at hp
      simp [List.getD, hp]
    subst this
    obtain rfl : Value.int .i64 (Z.getD j 0) = u := by simpa using hu
    have := hc a rfl j hj
    rwa [show (Kd.int .i64).sz = 1 from rfl, Nat.mul_one, Nat.add_zero]
/-- What is told of a list of lists that came in. -/
def Lists (w : World) (A : Option Addr) (len cap : Nat) (ls : List (List Int)) : Prop :=
  len = ls.length ∧ Kd.C (Kd.slice 3 (Kd.int .i64)) w A ls.length ls ∧ ls.length ≤ cap ∧ ls.length ≤ maxLen ∧ (∀ l ∈ ls, l.length ≤ maxLen) ∧ ∀ l ∈ ls, ∀ x ∈ l, (Lit.int .i64 x).wf = true
theorem lists_open {H : Type} {enc : TypeId × Value → H} {w : World} {base : Nat} {fuel : Nat} {cs : List Value} {x : DataW H × List MemPlace}
    (h : DataW.trod enc Try.prog w base (fun _ => true) true fuel 22 cs = some x) : ∃ (a : Option Addr) (len cap : Nat) (ls : List (List Int)), cs = [.slice a len cap] ∧ Lists w a len cap ls := by
  rcases open_int_rows Try.underlying22 Try.underlying27 Try.underlying3 (by kernel_rfl) (by kernel_rfl) h with ⟨rfl, _⟩ | ⟨a, len, cap, A, L, C, Z, rfl, _, hl, hm, _, hr⟩
  · exact ⟨none, 0, 0, [], rfl, rfl, ⟨rfl, by simp, fun h => absurd h (by simp)⟩, by simp, by simp, by simp, by simp⟩
  · have hlen : ((List.range len).map fun r => (Z r).take (L r)).length = len := by simp
    refine ⟨some a, len, cap, (List.range len).map fun r => (Z r).take (L r), rfl, hlen.symm, ?_, by rw [hlen]; exact hl, by rw [hlen]; omega, ?_, ?_⟩
    · rw [hlen]
      refine ⟨hlen, by unfold maxLen at hm; omega, fun _ => ⟨a, rfl, fun j p hp => ?_⟩⟩
      have hj : j < len := by
        have := (List.getElem?_eq_some_iff.1 hp).1
        simpa using this
      obtain rfl : (Z j).take (L j) = p := by simpa [List.getElem?_map, List.getElem?_range hj] using hp
      obtain ⟨hcell, h1, h2, h3, _, h5, h6⟩ := hr j (by omega)
      have hlj : ((Z j).take (L j)).length = L j := by simp; omega
      refine ⟨[.slice (A j) (L j) (C j)], rfl, ⟨A j, C j, by rw [hlj], by rw [hlj]; exact h1, ?_⟩, fun i u hu => ?_⟩
      · rw [hlj]
        exact c_int (by omega) (by omega) (fun e => by have := h5 e; omega) (fun a' e c hc => (h6 a' e).2 c (by omega))
      · have hi : i = 0 := by
          cases i with
          | zero => rfl
          | succ i => simp at hu
        subst hi
        obtain rfl : Value.slice (A j) (L j) (C j) = u := by simpa using hu
        rwa [show (Kd.slice 3 (Kd.int .i64)).sz = 1 from rfl, Nat.mul_one, Nat.add_zero]
    · intro l hl'
      obtain ⟨r, hr', rfl⟩ := List.mem_map.1 hl'
      obtain ⟨_, h1, h2, h3, _⟩ := hr r (by have := List.mem_range.1 hr'; omega)
      simp; omega
    · intro l hl' n hn
      obtain ⟨r, hr', rfl⟩ := List.mem_map.1 hl'
      obtain ⟨_, _, _, _, h4, _⟩ := hr r (by have := List.mem_range.1 hr'; omega)
      exact h4 n (List.mem_of_mem_take hn)
theorem pair_open {H : Type} {enc : TypeId × Value → H} {w : World} {base : Nat} {t : TypeId} {f0 f1 : Field} {cs : Array Value} {d : DataW H} {ps : List MemPlace} (ht : Try.prog.underlying t = some (.struct #[f0, f1])) (e0 : f0.type = 22) (e1 : f1.type = 22) (o0 : f0.offset = 0) (o1 : f1.offset = 1) (hc : Try.prog.cellsOf t = 2) (hs : Try.prog.cellsOf 22 = 1)
    (h : DataW.Trod enc Try.prog w base (fun _ => true) true t (.agg cs) d ps) : ∃ (a : Option Addr) (len cap : Nat) (ls : List (List Int)) (b : Option Addr) (lenb capb : Nat) (ms : List (List Int)), cs = #[.slice a len cap, .slice b lenb capb] ∧ Lists w a len cap ls ∧ Lists w b lenb capb ms := by
  obtain ⟨fuel, hf⟩ := h
  obtain ⟨y0, y1, n, _, hl, h0, h1⟩ := Go.ChangeShapes.trod_struct2 ht hf
  rw [e0, o0, hs] at h0
  rw [e1, o1, hs] at h1
  obtain ⟨a, len, cap, ls, ea, L0⟩ := lists_open h0
  obtain ⟨b, lenb, capb, ms, eb, L1⟩ := lists_open h1
  refine ⟨a, len, cap, ls, b, lenb, capb, ms, ?_, L0, L1⟩
  rw [hc] at hl
  simp only [Value.cells] at hl ea eb
  apply Array.toList_inj.mp
  match hcs : cs.toList, hl with
  | [x, y], _ =>
    rw [hcs] at ea eb
    simp at ea eb
    subst ea eb
    rfl
/-- What is told of a list of whole numbers that came in. -/
def Ints (w : World) (A : Option Addr) (len cap : Nat) (l : List Int) : Prop :=
  len = l.length ∧ Kd.C (Kd.int .i64) w A l.length l ∧ l.length ≤ cap ∧ l.length ≤ maxLen ∧ ∀ x ∈ l, (Lit.int .i64 x).wf = true
theorem ints_open {w : World} {a : Option Addr} {len cap : Nat} {zs : List Int} (h : (a = none ∧ len = 0 ∧ cap = 0 ∧ zs = []) ∨ ∃ x, a = some x ∧ len ≤ cap ∧ cap ≤ maxLen ∧ zs.length = cap ∧ (∀ i, i < zs.length → w.cell? (x.add i) = some (.int .i64 (zs.getD i 0))) ∧ ∀ n ∈ zs, (Lit.int .i64 n).wf = true) : ∃ l, Ints w a len cap l := by
  obtain ⟨l, e, h1, h2, h3, h4⟩ := ReadsInt.ofRowC h
  exact ⟨l, e, Kd.C_of_reads (d := (0 : Int)) (h1 := fun _ => rfl) h1, h4, h2, h3⟩
end Go.Proofs.Ytmodnjljgcmdlaa.RowsIn

