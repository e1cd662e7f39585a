-- Written by wip/tools/xprint.py (a program of this claim's session, over the kit's print). Lean checks it.
import Derived.Test.YteikfmoklpokhaaProg
import Derived.Below
import Derived.Deep.Draws
import Derived.Deep.AppendLies
import Derived.Maps.AppendAt
import Derived.OwnWalk
import Derived.Laws.BytesArg
import Derived.Laws.MakeOwn
import Derived.Laws.OwnMore
import Derived.Deep.OwnRows
import Derived.Tactics
import Derived.Lib.ConvBytes
import Derived.Laws.Slices
import Derived.WalkKit
import Derived.KernelRfl
import Derived.RowKit3
import Derived.Deep.LoopGhost
import Derived.Deep.QuietTactic
import Derived.BigQuiet
import Derived.WideLaws
import Derived.Deep.DeepCutAuto
import Derived.Deep.CutBlock
import Derived.Deep.RegionHeld3
import Derived.Laws.Rows
import Derived.Lib.AppendStr
import Derived.ArgAppend
import Derived.Laws.IdiomCopy
import Derived.OrdersHeld
import Derived.Laws.BitsLemmas
import Derived.RowKit
import Derived.Shelf.Abstract
import Derived.WalkSpells
import Derived.Shelf.SlicesE.DeleteFunc
import Derived.Sort.OwnSortedInts
import Derived.Shelf.SlLaysH
import Derived.Test.YteikfmoklpokhaaWWords
import Derived.Test.YteikfmoklpokhaaWLast
import Derived.Test.YteikfmoklpokhaaWTab
import Derived.Test.YteikfmoklpokhaaWFour
import Derived.Test.YteikfmoklpokhaaWQPut
import Derived.Test.YteikfmoklpokhaaWApart
import Derived.Test.YteikfmoklpokhaaWArr
import Derived.Test.YteikfmoklpokhaaWZeros
import Derived.Test.YteikfmoklpokhaaWFoot
import Derived.Test.YteikfmoklpokhaaWKept
import Derived.Test.YteikfmoklpokhaaWShare
import Derived.Test.YteikfmoklpokhaaWN
import Derived.Test.YteikfmoklpokhaaWFootNe
import Derived.Test.YteikfmoklpokhaaWAt
import Derived.Test.YteikfmoklpokhaaWEqStruct
import Derived.Test.YteikfmoklpokhaaWRepsOne
import Derived.Test.YteikfmoklpokhaaWInv
import Derived.Test.YteikfmoklpokhaaWInvWords
import Derived.Test.YteikfmoklpokhaaWGuard
import Derived.Test.YteikfmoklpokhaaWNEv
import Derived.Test.YteikfmoklpokhaaWMore
namespace Go.Proofs.Yteikfmoklpokhaa.All
open Go.RowKit Go.Proofs.YteikfmoklpokhaaW.PrintWords Go.Proofs.YteikfmoklpokhaaW.PrintLast Go.Proofs.YteikfmoklpokhaaW.PrintMore
attribute [local go_sem] max2_int min2_int max_two min_two max_three min_three max_four min_four   -- for this text's walks alone
set_option linter.unusedVariables false
set_option linter.unusedSimpArgs false



def errW : Option Int → Value
 | none => .nilIface
 | some c => .iface 0 (.int .i64 c)
theorem errW_none : errW none = .nilIface := rfl
theorem errW_some (c : Int) : errW (some c) = .iface 0 (.int .i64 c) := rfl
/-- The first place below n from i on at which q holds, or -1. -/
def firstAt (q : Nat → Bool) : Nat → Nat → Int
 | 0, _ => -1
 | d + 1, i => if q i then (i : Int) else firstAt q d (i + 1)
theorem firstAt_hit (q : Nat → Bool) (j : Nat) (hj : q j = true) : ∀ d i, i ≤ j → j < i + d → (∀ m, i ≤ m → m < j → q m = false) → firstAt q d i = j
 | 0, i, h1, h2, _ => by omega
 | d + 1, i, h1, h2, h3 => by
  unfold firstAt
  by_cases e : i = j
  ·subst e; rw [if_pos hj]
  ·rw [h3 i (Nat.le_refl _) (by omega)]
   exact firstAt_hit q j hj d (i + 1) (by omega) (by omega) (fun m h h' => h3 m (by omega) h')
theorem firstAt_miss (q : Nat → Bool) : ∀ d i, (∀ m, i ≤ m → m < i + d → q m = false) → firstAt q d i = -1
 | 0, _, _ => rfl
 | d + 1, i, h => by
  unfold firstAt
  rw [h i (Nat.le_refl _) (by omega)]
  exact firstAt_miss q d (i + 1) (fun m h1 h2 => h m (by omega) (by omega))
/-- What is asked of a function value: at the place j's element it answers q j, and leaves what lay. -/
def AnswersAt (g : Nat) (lb : Array Value) (v : Nat → Value) (q : Nat → Bool) (n : Nat) (w : World) : Prop :=
 ∀ j, j < n → ∀ W : World, Below w.heap.size w W → Calls Try.prog g (#[v j] ++ lb) W fun e w' => e = .returned (.bool (q j)) ∧ Below w.heap.size w w'
def CellsAt (w : World) (A0 : Option Addr) (v : Nat → Value) (n : Nat) : Prop := ∀ j, j < n → ∃ ad, A0 = some ad ∧ w.cell? (ad.add j) = some (v j)
theorem cells_int {A0 : Option Addr} {l : List Int} {w : World} (h : Kd.C (Kd.int .i64) w A0 l.length l) : CellsAt w A0 (fun j => .int .i64 (l.getD j 0)) l.length := fun j hj => by
 obtain ⟨ad, e, hx⟩ := Kd.at_int h (j : Int) (by omega) (by omega)
 exact ⟨ad, e, hx⟩
/-- A row that is not empty has an address. -/
theorem R_some {α : Type} {d : Kd α} {e : Nat} {w : World} {base : Nat} {ok : Nat → Prop} {v : Value} {xs : List α} (h : d.R e w base ok v xs) (hx : 0 < xs.length) : ∃ (ad : Addr) (c : Nat), v = .slice (some ad) xs.length c := by
 obtain ⟨A, c, rfl⟩ := Kd.R_slice h
 obtain ⟨ad, e, _⟩ := (Kd.R_reads' h).2.2.2.2 hx
 exact ⟨ad, c, by rw [e]⟩
theorem info3 : (Try.prog.info? 3).map (fun i => (i.zero, i.size, i.bytes)) = some (some (.int .i64 0), 1, 8) := by kernel_rfl
theorem info22 : (Try.prog.info? 22).map (fun i => (i.zero, i.size, i.bytes)) = some (some (.slice none 0 0), 1, 24) := by kernel_rfl
-- the values' own types
def rd_L1 (xs : List (List Int)) (i : Int) : (List Int) := xs.getD i.toNat ([] : List Int)
theorem at_L1 {w : World} {A : Option Addr} {n : Nat} {xs : List (List Int)} (h : Kd.C (Kd.slice 3 (Kd.int .i64)) w A n xs) (i : Int) (h0 : 0 ≤ i) (h1 : i < n) : ∃ ad A0 c0, A = some ad ∧ w.cell? (ad.add i.toNat) = some (.slice A0 (rd_L1 xs i).length c0) ∧ (rd_L1 xs i).length ≤ c0 ∧ (Kd.int .i64).C w A0 (rd_L1 xs i).length (rd_L1 xs i) := by
 obtain ⟨ad, c, e, _, hK, hc0⟩ := Kd.C_get h ([] : List Int) i h0 h1
 have hc : ∀ j u, c[j]? = some u → w.cell? (ad.add (i.toNat * 1 + j)) = some u := hc0
 obtain ⟨A0, c0, rfl, l0, g0⟩ := hK
 exact ⟨ad, A0, c0, e, by have hq := hc 0 _ rfl; rwa [Nat.mul_one, Nat.add_zero] at hq, l0, g0⟩
def rd_L3 (xs : List (List (List Int))) (i : Int) : (List (List Int)) := xs.getD i.toNat ([] : List (List Int))
theorem at_L3 {w : World} {A : Option Addr} {n : Nat} {xs : List (List (List Int))} (h : Kd.C (Kd.slice 22 (Kd.slice 3 (Kd.int .i64))) w A n xs) (i : Int) (h0 : 0 ≤ i) (h1 : i < n) : ∃ ad A0 c0, A = some ad ∧ w.cell? (ad.add i.toNat) = some (.slice A0 (rd_L3 xs i).length c0) ∧ (rd_L3 xs i).length ≤ c0 ∧ (Kd.slice 3 (Kd.int .i64)).C w A0 (rd_L3 xs i).length (rd_L3 xs i) := by
 obtain ⟨ad, c, e, _, hK, hc0⟩ := Kd.C_get h ([] : List (List Int)) i h0 h1
 have hc : ∀ j u, c[j]? = some u → w.cell? (ad.add (i.toNat * 1 + j)) = some u := hc0
 obtain ⟨A0, c0, rfl, l0, g0⟩ := hK
 exact ⟨ad, A0, c0, e, by have hq := hc 0 _ rfl; rwa [Nat.mul_one, Nat.add_zero] at hq, l0, g0⟩
end Go.Proofs.Yteikfmoklpokhaa.All

