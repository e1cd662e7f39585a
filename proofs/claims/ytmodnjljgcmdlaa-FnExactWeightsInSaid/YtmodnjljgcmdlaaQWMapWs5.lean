/- Weights and signs of fixed points: the reference's and the program's come to the same. -/
import Derived.Test.YtmodnjljgcmdlaaQWx0
import Derived.Test.YtmodnjljgcmdlaaQWx2
import Derived.Test.YtmodnjljgcmdlaaQWx7
import Derived.Test.YtmodnjljgcmdlaaQWx10
import Derived.Test.YtmodnjljgcmdlaaQWx1
import Derived.Test.YtmodnjljgcmdlaaQWEqsR
import Derived.Test.YtmodnjljgcmdlaaQWMapA
import Derived.Test.YtmodnjljgcmdlaaQWMapMs0
import Derived.Test.YtmodnjljgcmdlaaQWMapMs2
import Derived.Test.YtmodnjljgcmdlaaQWMapT
import Derived.Test.YtmodnjljgcmdlaaQWMapWs0
import Derived.Test.YtmodnjljgcmdlaaQWMapWs2
namespace Go.Proofs.Ytmodnjljgcmdlaa.Maps
open Go.RowKit Go.Proofs.Ytmodnjljgcmdlaa.All Go.Proofs.Ytmodnjljgcmdlaa.Eqs Go.Proofs.Ytmodnjljgcmdlaa.L1 Go.Proofs.YtmodnjljgcmdlaaW.PrintWords Go.Proofs.YtmodnjljgcmdlaaW.PrintLast Go.Proofs.YtmodnjljgcmdlaaW.PrintMore
/-! #### divisors -/












/-! #### a cell -/







theorem weightsIn_same (n : Int) (ls : List (List Int)) (c : Int) (hs : Small ls) : ∃ r t, r.length ≤ 1048576 ∧ ∃ K, ∀ k, K ≤ k → spec_WeightsIn.f k n ls c = some (r, t) ∧ impl_WeightsIn.f k n ls c = some (r, t) := by
  have h1 := specAsked n ls hs c
  have h2 := implAsked n ls c
  cases e : (goodP n ls && inB 0 (topCell n) c) with
  | false =>
    rw [e] at h1 h2
    have hf := fixedS n ls hs c (by cases h : goodP n ls with | false => exact Or.inl rfl | true => rw [h] at e; exact Or.inr (by simpa using e))
    exact ⟨[], false, by simp, both (Ev.congr (fun k => by unfold spec_WeightsIn.f; rfl) (Ev.bind hf (Ev.now _))) (Ev.congr (fun k => by unfold impl_WeightsIn.f; rfl) (Ev.bind h2 (Ev.now _)))⟩
  | true =>
    rw [e] at h1 h2
    simp only [Bool.and_eq_true] at e
    obtain ⟨g1, g5, -, -⟩ := goodOf e.1
    obtain ⟨cs, c1, c2, c3, -, c5⟩ := cellsOf n g1 g5
    obtain ⟨b1, b2, b3, b4⟩ := cellAt c3 e.2 c5
    obtain ⟨ps, hm⟩ := mapOf e.1
    have hc := hm.cell (rd_L1 cs c) b3 b4
    obtain ⟨v, v1, v2⟩ := hc.inS
    have hI : ∀ b, (cellWeights ps ls (rd_L1 cs c) != []) = b → Ev (fun k => impl_WeightsIn.f k n ls c) (cellWeights ps ls (rd_L1 cs c), b) := by
      rintro b rfl
      exact Ev.congr (fun k => by unfold impl_WeightsIn.f; rfl) (Ev.bind h2 (Ev.congr (fun k => by rw [if_pos rfl]) (Ev.bind c1 (Ev.congr (fun k => by rw [if_pos b1, if_pos b2]) (Ev.bind hc.wI (Ev.now _))))))
    have hF : ∀ a b : _, spec_l1Abs.f v = some a → (a == 1) = b → Ev (fun k => spec_fxFixed.f k n ls c) b := by
      rintro a b ha rfl
      exact Ev.congr (fun k => by unfold spec_fxFixed.f; rfl) (Ev.bind h1 (Ev.congr (fun k => by rw [if_pos rfl]) (Ev.bind c2 (Ev.congr (fun k => by rw [if_pos b1, if_pos b2]) (Ev.bind v1 (Ev.congr (fun k => by rw [ha, Option.bind_some]) (Ev.now _)))))))
    by_cases hsd : cellSide ps ls (rd_L1 cs c) = 1 ∨ cellSide ps ls (rd_L1 cs c) = -1
    · have hne : (cellWeights ps ls (rd_L1 cs c) != []) = true := bne_iff_ne.mpr (fun hz => (cellWeights_nil _ _ _).1 hz hsd)
      refine ⟨cellWeights ps ls (rd_L1 cs c), true, ?_, both ?_ (hI _ hne)⟩
      · unfold cellWeights; rw [if_pos hsd]; simp [wts]
      · refine Ev.congr (fun k => by unfold spec_WeightsIn.f; rfl) (Ev.bind (hF 1 true ?_ rfl) (Ev.congr (fun k => by rw [if_pos rfl]) (Ev.bind c2 (Ev.congr (fun k => by rw [if_pos b1, if_pos b2]) (Ev.bind (hc.wS hsd) (Ev.now _))))))
        rcases v2 with ⟨-, rfl⟩ | ⟨-, rfl⟩ | ⟨s, -⟩ | ⟨s, -⟩
        · exact absS 1 (by decide)
        · exact absS (-1) (by decide)
        · omega
        · omega
    · have hz := (cellWeights_nil ps ls (rd_L1 cs c)).2 hsd
      have hI' := hI false (by rw [hz]; rfl)
      rw [hz] at hI'
      refine ⟨[], false, by simp, both ?_ hI'⟩
      rcases v2 with ⟨s, -⟩ | ⟨s, -⟩ | ⟨-, rfl⟩ | ⟨-, rfl⟩
      · omega
      · omega
      · exact Ev.congr (fun k => by unfold spec_WeightsIn.f; rfl) (Ev.bind (hF 0 false (absS 0 (by decide)) rfl) (Ev.now _))
      · exact Ev.congr (fun k => by unfold spec_WeightsIn.f; rfl) (Ev.bind (hF 2 false (absS 2 (by decide)) rfl) (Ev.now _))
/-! #### signs -/






/-! #### regular images, told -/






end Go.Proofs.Ytmodnjljgcmdlaa.Maps

