/- Cells, moves, areas: the reference's and the program's come to the same. -/
import Derived.Test.YtmodnjljgcmdlaaQPx0
import Derived.Test.YtmodnjljgcmdlaaQPx1
import Derived.Test.YtmodnjljgcmdlaaQPx2
import Derived.Test.YtmodnjljgcmdlaaQPx3
import Derived.Test.YtmodnjljgcmdlaaQPx4
import Derived.Test.YtmodnjljgcmdlaaQPMapA
import Derived.Test.YtmodnjljgcmdlaaQPEqs
namespace Go.Proofs.Ytmodnjljgcmdlaa.Maps
open Go.RowKit Go.Proofs.Ytmodnjljgcmdlaa.All Go.Proofs.Ytmodnjljgcmdlaa.Eqs Go.Proofs.Ytmodnjljgcmdlaa.L1 Go.Proofs.YtmodnjljgcmdlaaW.PrintWords Go.Proofs.YtmodnjljgcmdlaaW.PrintLast Go.Proofs.YtmodnjljgcmdlaaW.PrintMore

/-- The greatest number of a cell. -/
def topCell (n : Int) : Int := wrap64 (wrap64 (n * n) - 1)
def cellsCheck (n : Int) : Bool := match impl_cells.f 2000 n, spec_meCells.f 2000 n with
  | some a, some b => (a == b) && (decide ((a.length : Int) = topCell n + 1) && (decide (a.length ≤ 25) && a.all fun c => decide (c.length = 3) && c.all fun i => decide (0 ≤ i) && decide (i < cnt n)))
  | _, _ => false
set_option maxRecDepth 100000 in
theorem cellsAll : ∀ i : Fin 5, cellsCheck ((i.val : Int) + 1) = true := by decide +kernel
theorem cellsOf (n : Int) (h1 : 1 ≤ n) (h5 : n ≤ 5) : ∃ cs : List (List Int), Ev (fun k => impl_cells.f k n) cs ∧ Ev (fun k => spec_meCells.f k n) cs ∧ (cs.length : Int) = topCell n + 1 ∧ cs.length ≤ 25 ∧ ∀ c ∈ cs, c.length = 3 ∧ ∀ i ∈ c, 0 ≤ i ∧ i < cnt n := by
  have hc := cellsAll ⟨(n - 1).toNat, by omega⟩
  rw [show (((⟨(n - 1).toNat, by omega⟩ : Fin 5).val : Int) + 1) = n by simp only; omega] at hc
  unfold cellsCheck at hc
  split at hc
  · rename_i a b ha hb
    simp only [Bool.and_eq_true, decide_eq_true_eq, List.all_eq_true, beq_iff_eq] at hc
    obtain ⟨rfl, h2, h3, h4⟩ := hc
    exact ⟨a, Ev.of (impl_cells.mono n) ha, Ev.of (spec_meCells.mono n) hb, h2, h3, h4⟩
  · exact absurd hc (by simp)
def ptsCheck (n : Int) : Bool := match impl_points.f 100 n with
  | some ps => decide ((ps.length : Int) = cnt n) && (decide (ps.length ≤ 45) && (List.range ps.length).all fun i =>
      let p := rd_T60 ps i
      (spec_meAt.f 20 n i == some [p.f0, p.f1, p.f2]) && (decide (0 ≤ p.f0) && (decide (0 ≤ p.f1) && (decide (0 ≤ p.f2) && decide (p.f0 + p.f1 + p.f2 = n)))))
  | none => false
theorem ptsAll : ∀ i : Fin 5, ptsCheck ((i.val : Int) + 1) = true := by decide +kernel
/-- The points, as both tell them. -/
theorem ptsOf (n : Int) (h1 : 1 ≤ n) (h5 : n ≤ 5) : ∃ ps : List S60, Ev (fun k => impl_points.f k n) ps ∧ (ps.length : Int) = cnt n ∧ ps.length ≤ 45 ∧ ∀ i : Nat, i < ps.length → Ev (fun k => spec_meAt.f k n i) [(rd_T60 ps i).f0, (rd_T60 ps i).f1, (rd_T60 ps i).f2] ∧ 0 ≤ (rd_T60 ps i).f0 ∧ 0 ≤ (rd_T60 ps i).f1 ∧ 0 ≤ (rd_T60 ps i).f2 ∧ (rd_T60 ps i).f0 + (rd_T60 ps i).f1 + (rd_T60 ps i).f2 = n := by
  have hc := ptsAll ⟨(n - 1).toNat, by omega⟩
  rw [show (((⟨(n - 1).toNat, by omega⟩ : Fin 5).val : Int) + 1) = n by simp only; omega] at hc
  unfold ptsCheck at hc
  split at hc
  · rename_i ps hps
    simp only [Bool.and_eq_true, decide_eq_true_eq, List.all_eq_true, List.mem_range, beq_iff_eq] at hc
    obtain ⟨h2, h3, h4⟩ := hc
    exact ⟨ps, Ev.of (impl_points.mono n) hps, h2, h3, fun i hi => ⟨Ev.of (spec_meAt.mono n i) (h4 i hi).1, (h4 i hi).2⟩⟩
  · exact absurd hc (by simp)








/-! #### areas -/









end Go.Proofs.Ytmodnjljgcmdlaa.Maps

