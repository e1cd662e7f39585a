/- Cells, moves, areas: the reference's and the program's come to the same. -/
import Derived.Test.YtmodnjljgcmdlaaQLx0
import Derived.Test.YtmodnjljgcmdlaaQLx1
import Derived.Test.YtmodnjljgcmdlaaQLMapA
import Derived.Test.YtmodnjljgcmdlaaQLEqs
namespace Go.Proofs.Ytmodnjljgcmdlaa.Maps
open Go.RowKit Go.Proofs.Ytmodnjljgcmdlaa.All Go.Proofs.Ytmodnjljgcmdlaa.Eqs Go.Proofs.Ytmodnjljgcmdlaa.L1 Go.Proofs.YtmodnjljgcmdlaaW.PrintWords Go.Proofs.YtmodnjljgcmdlaaW.PrintLast Go.Proofs.YtmodnjljgcmdlaaW.PrintMore





def ptsCheck (n : Int) : Bool := match impl_points.f 100 n with
  | some ps => decide ((ps.length : Int) = cnt n) && (decide (ps.length ≤ 45) && (List.range ps.length).all fun i =>
      let p := rd_T60 ps i
      (spec_meAt.f 20 n i == some [p.f0, p.f1, p.f2]) && (decide (0 ≤ p.f0) && (decide (0 ≤ p.f1) && (decide (0 ≤ p.f2) && decide (p.f0 + p.f1 + p.f2 = n)))))
  | none => false
theorem ptsAll : ∀ i : Fin 5, ptsCheck ((i.val : Int) + 1) = true := by decide +kernel
/-- The points, as both tell them. -/
theorem ptsOf (n : Int) (h1 : 1 ≤ n) (h5 : n ≤ 5) : ∃ ps : List S60, Ev (fun k => impl_points.f k n) ps ∧ (ps.length : Int) = cnt n ∧ ps.length ≤ 45 ∧ ∀ i : Nat, i < ps.length → Ev (fun k => spec_meAt.f k n i) [(rd_T60 ps i).f0, (rd_T60 ps i).f1, (rd_T60 ps i).f2] ∧ 0 ≤ (rd_T60 ps i).f0 ∧ 0 ≤ (rd_T60 ps i).f1 ∧ 0 ≤ (rd_T60 ps i).f2 ∧ (rd_T60 ps i).f0 + (rd_T60 ps i).f1 + (rd_T60 ps i).f2 = n := by
  have hc := ptsAll ⟨(n - 1).toNat, by omega⟩
  rw [show (((⟨(n - 1).toNat, by omega⟩ : Fin 5).val : Int) + 1) = n by simp only; omega] at hc
  unfold ptsCheck at hc
  split at hc
  · rename_i ps hps
    simp only [Bool.and_eq_true, decide_eq_true_eq, List.all_eq_true, List.mem_range, beq_iff_eq] at hc
    obtain ⟨h2, h3, h4⟩ := hc
    exact ⟨ps, Ev.of (impl_points.mono n) hps, h2, h3, fun i hi => ⟨Ev.of (spec_meAt.mono n i) (h4 i hi).1, (h4 i hi).2⟩⟩
  · exact absurd hc (by simp)








/-! #### areas -/









end Go.Proofs.Ytmodnjljgcmdlaa.Maps

