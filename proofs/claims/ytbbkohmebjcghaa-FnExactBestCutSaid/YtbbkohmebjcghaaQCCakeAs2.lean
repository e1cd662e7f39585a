/- Triangles, tastes, rooms and pieces: the reference's checks and the program's are the same plain functions. -/
import Derived.Test.YtbbkohmebjcghaaQCx0
import Derived.Test.YtbbkohmebjcghaaQCx2
import Derived.Test.YtbbkohmebjcghaaQCEqsR
import Derived.Test.YtbbkohmebjcghaaQCEqs
namespace Go.Proofs.Ytbbkohmebjcghaa.Cake
open Go.RowKit Go.Proofs.Ytbbkohmebjcghaa.All Go.Proofs.Ytbbkohmebjcghaa.Eqs Go.Proofs.YtbbkohmebjcghaaW.PrintWords Go.Proofs.YtbbkohmebjcghaaW.PrintLast

/-! #### points -/
def ptCheck (n : Int) : Bool := match impl_points.f 100 n with
  | some ps => decide ((ps.length : Int) = wrap64 (Int.tdiv (wrap64 ((wrap64 (n + 1)) * (wrap64 (n + 2)))) 2)) && (decide (ps.length ≤ 45) && (List.range ps.length).all fun i =>
      let p := rd_T54 ps i
      (spec_meAt.f 20 n i == some [p.f0, p.f1, p.f2]) && (decide (0 ≤ p.f0) && (decide (0 ≤ p.f1) && (decide (0 ≤ p.f2) && decide (p.f0 + p.f1 + p.f2 = n)))))
  | none => false
theorem ptAll : ∀ i : Fin 8, ptCheck ((i.val : Int) + 1) = true := by decide +kernel
/-- The number of points. -/
def cnt (n : Int) : Int := wrap64 (Int.tdiv (wrap64 ((wrap64 (n + 1)) * (wrap64 (n + 2)))) 2)
theorem pts (n : Int) (h1 : 1 ≤ n) (h8 : n ≤ 8) : ∃ ps : List S54, (∀ k, 100 ≤ k → impl_points.f k n = some ps) ∧ (ps.length : Int) = cnt n ∧ ps.length ≤ 45 ∧ ∀ i : Nat, i < ps.length → (∀ k, 20 ≤ k → spec_meAt.f k n i = some [(rd_T54 ps i).f0, (rd_T54 ps i).f1, (rd_T54 ps i).f2]) ∧ 0 ≤ (rd_T54 ps i).f0 ∧ 0 ≤ (rd_T54 ps i).f1 ∧ 0 ≤ (rd_T54 ps i).f2 ∧ (rd_T54 ps i).f0 + (rd_T54 ps i).f1 + (rd_T54 ps i).f2 = n := by
  have hc := ptAll ⟨(n - 1).toNat, by omega⟩
  rw [show (((⟨(n - 1).toNat, by omega⟩ : Fin 8).val : Int) + 1) = n by simp only; omega] at hc
  unfold ptCheck at hc
  split at hc
  · rename_i ps hps
    simp only [Bool.and_eq_true, decide_eq_true_eq, List.all_eq_true, List.mem_range, beq_iff_eq] at hc
    obtain ⟨h2, h3, h4⟩ := hc
    refine ⟨ps, fun k hk => at_rounds (impl_points.mono n) hk hps, h2, h3, fun i hi => ?_⟩
    obtain ⟨e, a, b, c, d⟩ := h4 i hi
    exact ⟨fun k hk => at_rounds (spec_meAt.mono n i) hk e, a, b, c, d⟩
  · exact absurd hc (by simp)

/-! #### checks of numbers -/




















/-! #### pieces for people -/

end Go.Proofs.Ytbbkohmebjcghaa.Cake

