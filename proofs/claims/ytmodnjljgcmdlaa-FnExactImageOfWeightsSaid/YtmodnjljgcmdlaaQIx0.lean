-- Written by wip/tools/xprint.py (a program of this claim's session, over the kit's print). Lean checks it.
import Derived.Test.YtmodnjljgcmdlaaProg
import Derived.Below
import Derived.Deep.Draws
import Derived.Deep.AppendLies
import Derived.Maps.AppendAt
import Derived.OwnWalk
import Derived.Laws.BytesArg
import Derived.Laws.MakeOwn
import Derived.Laws.OwnMore
import Derived.Deep.OwnRows
import Derived.Tactics
import Derived.Lib.ConvBytes
import Derived.Laws.Slices
import Derived.WalkKit
import Derived.KernelRfl
import Derived.RowKit3
import Derived.Deep.LoopGhost
import Derived.Deep.QuietTactic
import Derived.BigQuiet
import Derived.WideLaws
import Derived.Deep.DeepCutAuto
import Derived.Deep.CutBlock
import Derived.Deep.RegionHeld3
import Derived.Laws.Rows
import Derived.Lib.AppendStr
import Derived.ArgAppend
import Derived.Laws.IdiomCopy
import Derived.OrdersHeld
import Derived.Laws.BitsLemmas
import Derived.RowKit
import Derived.Shelf.Abstract
import Derived.WalkSpells
import Derived.Shelf.SlicesE.DeleteFunc
import Derived.Sort.OwnSortedInts
import Derived.Shelf.SlLaysH
import Derived.Test.YtmodnjljgcmdlaaWWords
import Derived.Test.YtmodnjljgcmdlaaWLast
import Derived.Test.YtmodnjljgcmdlaaWTab
import Derived.Test.YtmodnjljgcmdlaaWFour
import Derived.Test.YtmodnjljgcmdlaaWQPut
import Derived.Test.YtmodnjljgcmdlaaWApart
import Derived.Test.YtmodnjljgcmdlaaWArr
import Derived.Test.YtmodnjljgcmdlaaWZeros
import Derived.Test.YtmodnjljgcmdlaaWFoot
import Derived.Test.YtmodnjljgcmdlaaWKept
import Derived.Test.YtmodnjljgcmdlaaWShare
import Derived.Test.YtmodnjljgcmdlaaWN
import Derived.Test.YtmodnjljgcmdlaaWFootNe
import Derived.Test.YtmodnjljgcmdlaaWAt
import Derived.Test.YtmodnjljgcmdlaaWEqStruct
import Derived.Test.YtmodnjljgcmdlaaWRepsOne
import Derived.Test.YtmodnjljgcmdlaaWInv
import Derived.Test.YtmodnjljgcmdlaaWInvWords
import Derived.Test.YtmodnjljgcmdlaaWGuard
import Derived.Test.YtmodnjljgcmdlaaWNEv
import Derived.Test.YtmodnjljgcmdlaaWMore
namespace Go.Proofs.Ytmodnjljgcmdlaa.All
open Go.RowKit Go.Proofs.YtmodnjljgcmdlaaW.PrintWords Go.Proofs.YtmodnjljgcmdlaaW.PrintLast Go.Proofs.YtmodnjljgcmdlaaW.PrintMore
attribute [local go_sem] max2_int min2_int max_two min_two max_three min_three max_four min_four   -- for this text's walks alone
set_option linter.unusedVariables false
set_option linter.unusedSimpArgs false



def errW : Option Int → Value
  | none => .nilIface
  | some c => .iface 0 (.int .i64 c)
theorem errW_none : errW none = .nilIface := rfl
theorem errW_some (c : Int) : errW (some c) = .iface 0 (.int .i64 c) := rfl
/-- The first place below n from i on at which q holds, or -1. -/
def firstAt (q : Nat → Bool) : Nat → Nat → Int
  | 0, _ => -1
  | d + 1, i => if q i then (i : Int) else firstAt q d (i + 1)
theorem firstAt_hit (q : Nat → Bool) (j : Nat) (hj : q j = true) : ∀ d i, i ≤ j → j < i + d → (∀ m, i ≤ m → m < j → q m = false) → firstAt q d i = j
  | 0, i, h1, h2, _ => by omega
  | d + 1, i, h1, h2, h3 => by
    unfold firstAt
    by_cases e : i = j
    · subst e; rw [if_pos hj]
    · rw [h3 i (Nat.le_refl _) (by omega)]
      exact firstAt_hit q j hj d (i + 1) (by omega) (by omega) (fun m h h' => h3 m (by omega) h')
theorem firstAt_miss (q : Nat → Bool) : ∀ d i, (∀ m, i ≤ m → m < i + d → q m = false) → firstAt q d i = -1
  | 0, _, _ => rfl
  | d + 1, i, h => by
    unfold firstAt
    rw [h i (Nat.le_refl _) (by omega)]
    exact firstAt_miss q d (i + 1) (fun m h1 h2 => h m (by omega) (by omega))
/-- What is asked of a function value: at the place j's element it answers q j, and leaves what lay. -/
def AnswersAt (g : Nat) (lb : Array Value) (v : Nat → Value) (q : Nat → Bool) (n : Nat) (w : World) : Prop :=
  ∀ j, j < n → ∀ W : World, Below w.heap.size w W → Calls Try.prog g (#[v j] ++ lb) W fun e w' => e = .returned (.bool (q j)) ∧ Below w.heap.size w w'
def CellsAt (w : World) (A0 : Option Addr) (v : Nat → Value) (n : Nat) : Prop := ∀ j, j < n → ∃ ad, A0 = some ad ∧ w.cell? (ad.add j) = some (v j)
theorem cells_int {A0 : Option Addr} {l : List Int} {w : World} (h : Kd.C (Kd.int .i64) w A0 l.length l) : CellsAt w A0 (fun j => .int .i64 (l.getD j 0)) l.length := fun j hj => by
  obtain ⟨ad, e, hx⟩ := Kd.at_int h (j : Int) (by omega) (by omega)
  exact ⟨ad, e, hx⟩
/-- A row that is not empty has an address. -/
theorem R_some {α : Type} {d : Kd α} {e : Nat} {w : World} {base : Nat} {ok : Nat → Prop} {v : Value} {xs : List α} (h : d.R e w base ok v xs) (hx : 0 < xs.length) : ∃ (ad : Addr) (c : Nat), v = .slice (some ad) xs.length c := by
  obtain ⟨A, c, rfl⟩ := Kd.R_slice h
  obtain ⟨ad, e, _⟩ := (Kd.R_reads' h).2.2.2.2 hx
  exact ⟨ad, c, by rw [e]⟩
theorem arr_index60_0 (a b c : Int) (w : World) : (Instr.index 60 (.agg #[.int .i64 a, .int .i64 b, .int .i64 c]) (.int .i64 0)).run Try.prog w = .ok (.int .i64 a) w := by kernel_rfl
theorem arr_index60_1 (a b c : Int) (w : World) : (Instr.index 60 (.agg #[.int .i64 a, .int .i64 b, .int .i64 c]) (.int .i64 1)).run Try.prog w = .ok (.int .i64 b) w := by kernel_rfl
theorem arr_index60_2 (a b c : Int) (w : World) : (Instr.index 60 (.agg #[.int .i64 a, .int .i64 b, .int .i64 c]) (.int .i64 2)).run Try.prog w = .ok (.int .i64 c) w := by kernel_rfl
theorem arr_index60 (a b c j : Int) (h0 : 0 ≤ j) (h1 : j < 3) (w : World) : (Instr.index 60 (.agg #[.int .i64 a, .int .i64 b, .int .i64 c]) (.int .i64 j)).run Try.prog w = .ok (.int .i64 (rd [a, b, c] j)) w := by
  have hj : j = 0 ∨ j = 1 ∨ j = 2 := by omega
  rcases hj with rfl | rfl | rfl
  · exact arr_index60_0 a b c w
  · exact arr_index60_1 a b c w
  · exact arr_index60_2 a b c w
/-! #### slices over an array's block, and a block of slices -/
theorem boxadd (g j : Nat) : Addr.add ⟨g, 0, none⟩ (j * 1 + 0) = ⟨g, j, none⟩ := by simp [Addr.add] <;> (intro h; exact h.symm)
theorem boxI {w : World} {g : Nat} {t : TypeId} {cs : Array Value} {l : List Int} (h : w.heap[g]? = some (.cells cs t (0, 0))) (e : cs = (l.map fun x => Value.int .i64 x).toArray) (hl : l.length ≤ 9223372036854775807) : Kd.C (Kd.int .i64) w (some ⟨g, 0, none⟩) l.length l := by
  subst e
  refine ⟨rfl, hl, fun _ => ⟨_, rfl, fun j p hp => ⟨[.int .i64 p], rfl, rfl, fun i u hu => ?_⟩⟩⟩
  cases i with
  | zero =>
    obtain rfl : Value.int .i64 p = u := by simpa using hu
    show w.cell? (Addr.add ⟨g, 0, none⟩ (j * 1 + 0)) = _
    rw [boxadd, blk_cell h]
    simp [hp]
  | succ i => simp at hu
theorem box3S {w : World} {g : Nat} {t T : TypeId} {l0 l1 l2 : List Int} {A0 A1 A2 : Option Addr} {c0 c1 c2 : Nat} (h : w.heap[g]? = some (.cells #[.slice A0 l0.length c0, .slice A1 l1.length c1, .slice A2 l2.length c2] t (0, 0))) (h0 : l0.length ≤ c0) (r0 : Kd.C (Kd.int .i64) w A0 l0.length l0) (h1 : l1.length ≤ c1) (r1 : Kd.C (Kd.int .i64) w A1 l1.length l1) (h2 : l2.length ≤ c2) (r2 : Kd.C (Kd.int .i64) w A2 l2.length l2) :
    Kd.C (Kd.slice T (Kd.int .i64)) w (some ⟨g, 0, none⟩) [l0, l1, l2].length [l0, l1, l2] := by
  have key : ∀ (j i : Nat) (u v : Value), #[Value.slice A0 l0.length c0, .slice A1 l1.length c1, .slice A2 l2.length c2][j]? = some v → [v][i]? = some u → w.cell? (Addr.add ⟨g, 0, none⟩ (j * 1 + i)) = some u := by
    intro j i u v hv hu
    cases i with
    | zero =>
      obtain rfl : v = u := by simpa using hu
      rw [boxadd, blk_cell h, hv]
    | succ i => simp at hu
  refine ⟨rfl, by show 3 ≤ 9223372036854775807; decide, fun _ => ⟨_, rfl, fun j p hp => ?_⟩⟩
  match j, hp with
  | 0, hp => obtain rfl : l0 = p := by simpa using hp
             exact ⟨[.slice A0 l0.length c0], rfl, ⟨A0, c0, rfl, h0, r0⟩, fun i u hu => key 0 i u _ rfl hu⟩
  | 1, hp => obtain rfl : l1 = p := by simpa using hp
             exact ⟨[.slice A1 l1.length c1], rfl, ⟨A1, c1, rfl, h1, r1⟩, fun i u hu => key 1 i u _ rfl hu⟩
  | 2, hp => obtain rfl : l2 = p := by simpa using hp
             exact ⟨[.slice A2 l2.length c2], rfl, ⟨A2, c2, rfl, h2, r2⟩, fun i u hu => key 2 i u _ rfl hu⟩
  | j + 3, hp => exact absurd hp (by simp)
section
variable {P : Program} {ops : Array Oper} {rest : List Oper} {o : Oper} {a : Act} {Q : Exit → Act → World → Prop}
theorem boxrow_event {W : World} {k : Nat} (hgd : o.guard = none) {N : Tmp} (_hd : o.dst = some N) {cs : Array Value} {t : TypeId}
    (hrun : (execOp a.eval o).run P W = .ok (.value (.slice (some ⟨W.heap.size, 0, none⟩) k k)) (W.alloc (.cells cs t (0, 0))))
    (h : ∀ g, g = W.heap.size → ∀ w1, w1.heap[g]? = some (.cells cs t (0, 0)) → Below W.heap.size W w1 → wpList P ops Q rest (a.put o.dst (.slice (some ⟨g, 0, none⟩) k k)) w1) : wpList P ops Q (o :: rest) a W :=
  Kd.event_run hgd hrun (h _ rfl _ (blk_new W _) (below_alloc (Below.refl _ _) _))
variable {Kc : Act → World → Prop}
theorem boxrow_step {W : World} {k : Nat} (hw : Region.wanted o (yielded ops a.tmps) = true) {N : Tmp} (_hd : o.dst = some N) {cs : Array Value} {t : TypeId}
    (hrun : (execOp a.eval o).run P W = .ok (.value (.slice (some ⟨W.heap.size, 0, none⟩) k k)) (W.alloc (.cells cs t (0, 0))))
    (h : ∀ g, g = W.heap.size → ∀ w1, w1.heap[g]? = some (.cells cs t (0, 0)) → Below W.heap.size W w1 → Kc (a.put o.dst (.slice (some ⟨g, 0, none⟩) k k)) w1) : if Region.wanted o (yielded ops a.tmps) = true then Oper.wp P o a W Kc Q else Kc (a.put o.dst undef) W :=
  event_step hw hrun (h _ rfl _ (blk_new W _) (below_alloc (Below.refl _ _) _))
end

theorem info3 : (Try.prog.info? 3).map (fun i => (i.zero, i.size, i.bytes)) = some (some (.int .i64 0), 1, 8) := by kernel_rfl
theorem info27 : (Try.prog.info? 27).map (fun i => (i.zero, i.size, i.bytes)) = some (some (.slice none 0 0), 1, 24) := by kernel_rfl
theorem info60 : (Try.prog.info? 60).map (fun i => (i.zero, i.size, i.bytes)) = some (some (.agg #[(.int .i64 0), (.int .i64 0), (.int .i64 0)]), 3, 24) := by kernel_rfl
-- the values' own types
def rd_L1 (xs : List (List Int)) (i : Int) : (List Int) := xs.getD i.toNat ([] : List Int)
theorem at_L1 {w : World} {A : Option Addr} {n : Nat} {xs : List (List Int)} (h : Kd.C (Kd.slice 3 (Kd.int .i64)) w A n xs) (i : Int) (h0 : 0 ≤ i) (h1 : i < n) : ∃ ad A0 c0, A = some ad ∧ w.cell? (ad.add i.toNat) = some (.slice A0 (rd_L1 xs i).length c0) ∧ (rd_L1 xs i).length ≤ c0 ∧ (Kd.int .i64).C w A0 (rd_L1 xs i).length (rd_L1 xs i) := by
  obtain ⟨ad, c, e, _, hK, hc0⟩ := Kd.C_get h ([] : List Int) i h0 h1
  have hc : ∀ j u, c[j]? = some u → w.cell? (ad.add (i.toNat * 1 + j)) = some u := hc0
  obtain ⟨A0, c0, rfl, l0, g0⟩ := hK
  exact ⟨ad, A0, c0, e, by have hq := hc 0 _ rfl; rwa [Nat.mul_one, Nat.add_zero] at hq, l0, g0⟩
/-! #### struct type 60 -/
structure S60 where
  f0 : Int
  f1 : Int
  f2 : Int
def z60 : S60 := ⟨(0 : Int), (0 : Int), (0 : Int)⟩
def k60 : Kd S60 := Kd.iso (Kd.pair (Kd.int .i64) (Kd.pair (Kd.int .i64) (Kd.int .i64))) (fun x : S60 => (x.f0, x.f1, x.f2))
theorem k60_open {w : World} {x : S60} {cs : List Value} (h : k60.K w x cs) : cs = [.int .i64 x.f0, .int .i64 x.f1, .int .i64 x.f2] := by
  obtain ⟨_, _, rfl, rfl, ⟨_, _, rfl, rfl, rfl⟩⟩ := h
  exact rfl
theorem k60_openM {w : World} {base : Nat} {ok : Nat → Prop} {x : S60} {cs : List Value} (h : k60.M w base ok x cs) : cs = [.int .i64 x.f0, .int .i64 x.f1, .int .i64 x.f2] := by
  obtain ⟨_, _, rfl, rfl, ⟨_, _, rfl, rfl, rfl⟩⟩ := h
  exact rfl
theorem k60_mk (w : World) (x : S60)  : k60.K w x [.int .i64 x.f0, .int .i64 x.f1, .int .i64 x.f2] := ⟨[.int .i64 x.f0], [.int .i64 x.f1, .int .i64 x.f2], rfl, rfl, ⟨[.int .i64 x.f1], [.int .i64 x.f2], rfl, rfl, rfl⟩⟩
theorem k60_mkM (w : World) (base : Nat) (ok : Nat → Prop) (x : S60)  : k60.M w base ok x [.int .i64 x.f0, .int .i64 x.f1, .int .i64 x.f2] := ⟨[.int .i64 x.f0], [.int .i64 x.f1, .int .i64 x.f2], rfl, rfl, ⟨[.int .i64 x.f1], [.int .i64 x.f2], rfl, rfl, rfl⟩⟩
theorem k60_mkF (W : World) (ok : Nat → Prop) (x : S60) : Kd.FK k60 W ok x [.int .i64 x.f0, .int .i64 x.f1, .int .i64 x.f2] := fun W2 _ => k60_mk W2 x
def rd_T60 (xs : List S60) (i : Int) : S60 := xs.getD i.toNat z60
theorem at_T60 {w : World} {A : Option Addr} {n : Nat} {xs : List S60} (h : Kd.C k60 w A n xs) (i : Int) (h0 : 0 ≤ i) (h1 : i < n) : ∃ ad , A = some ad ∧ w.cell? (ad.add (i.toNat * 3)) = some (.int .i64 (rd_T60 xs i).f0) ∧ w.cell? ⟨(ad.add (i.toNat * 3)).block, (ad.add (i.toNat * 3)).off + 1, none⟩ = some (.int .i64 (rd_T60 xs i).f1) ∧ w.cell? ⟨(ad.add (i.toNat * 3)).block, (ad.add (i.toNat * 3)).off + 2, none⟩ = some (.int .i64 (rd_T60 xs i).f2) := by
  obtain ⟨ad, c, e, _, hK, hc0⟩ := Kd.C_get h z60 i h0 h1
  have hc : ∀ j u, c[j]? = some u → w.cell? (ad.add (i.toNat * 3 + j)) = some u := hc0
  obtain rfl := k60_open hK
  exact ⟨ad, e, hc 0 _ rfl, by rw [← add_field _ _ 1 (by omega)]; exact hc 1 _ rfl, by rw [← add_field _ _ 2 (by omega)]; exact hc 2 _ rfl⟩
def rd_L4 (xs : List (List (List Int))) (i : Int) : (List (List Int)) := xs.getD i.toNat ([] : List (List Int))
theorem at_L4 {w : World} {A : Option Addr} {n : Nat} {xs : List (List (List Int))} (h : Kd.C (Kd.slice 27 (Kd.slice 3 (Kd.int .i64))) w A n xs) (i : Int) (h0 : 0 ≤ i) (h1 : i < n) : ∃ ad A0 c0, A = some ad ∧ w.cell? (ad.add i.toNat) = some (.slice A0 (rd_L4 xs i).length c0) ∧ (rd_L4 xs i).length ≤ c0 ∧ (Kd.slice 3 (Kd.int .i64)).C w A0 (rd_L4 xs i).length (rd_L4 xs i) := by
  obtain ⟨ad, c, e, _, hK, hc0⟩ := Kd.C_get h ([] : List (List Int)) i h0 h1
  have hc : ∀ j u, c[j]? = some u → w.cell? (ad.add (i.toNat * 1 + j)) = some u := hc0
  obtain ⟨A0, c0, rfl, l0, g0⟩ := hK
  exact ⟨ad, A0, c0, e, by have hq := hc 0 _ rfl; rwa [Nat.mul_one, Nat.add_zero] at hq, l0, g0⟩
end Go.Proofs.Ytmodnjljgcmdlaa.All

