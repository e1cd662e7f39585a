/- Weights and signs of fixed points: the reference's and the program's come to the same. -/
import Derived.Test.YtmodnjljgcmdlaaQWx0
import Derived.Test.YtmodnjljgcmdlaaQWx4
import Derived.Test.YtmodnjljgcmdlaaQWx5
import Derived.Test.YtmodnjljgcmdlaaQWx8
import Derived.Test.YtmodnjljgcmdlaaQWx1
import Derived.Test.YtmodnjljgcmdlaaQWEqsR
import Derived.Test.YtmodnjljgcmdlaaQWMapA
import Derived.Test.YtmodnjljgcmdlaaQWMapMs0
import Derived.Test.YtmodnjljgcmdlaaQWMapT
import Derived.Test.YtmodnjljgcmdlaaQWMapWs0
namespace Go.Proofs.Ytmodnjljgcmdlaa.Maps
open Go.RowKit Go.Proofs.Ytmodnjljgcmdlaa.All Go.Proofs.Ytmodnjljgcmdlaa.Eqs Go.Proofs.Ytmodnjljgcmdlaa.L1 Go.Proofs.YtmodnjljgcmdlaaW.PrintWords Go.Proofs.YtmodnjljgcmdlaaW.PrintLast Go.Proofs.YtmodnjljgcmdlaaW.PrintMore
/-! #### divisors -/












/-! #### a cell -/








/-! #### signs -/






/-! #### regular images, told -/


/-- The fixed points of cells, each with the cell's number. -/
def fixedP (ps : List S60) (ls : List (List Int)) : List (List Int) → Int → List (List Int)
  | [], _ => []
  | c :: cs, i => if cellWeights ps ls c = [] then fixedP ps ls cs (i + 1) else (i :: cellWeights ps ls c) :: fixedP ps ls cs (i + 1)
theorem fixedP_small (ps : List S60) (ls : List (List Int)) : ∀ (cs : List (List Int)) (i : Int), (fixedP ps ls cs i).length ≤ cs.length ∧ ∀ x ∈ fixedP ps ls cs i, x.length ≤ 4
  | [], _ => ⟨Nat.le_refl _, by simp [fixedP]⟩
  | c :: cs, i => by
    obtain ⟨h1, h2⟩ := fixedP_small ps ls cs (i + 1)
    unfold fixedP
    split
    · exact ⟨by simp; omega, h2⟩
    · refine ⟨by simp; omega, fun x hx => ?_⟩
      rcases List.mem_cons.1 hx with rfl | hx
      · unfold cellWeights; split <;> simp [wts]
      · exact h2 x hx
theorem MapOf.fixed_l0 {n : Int} {ls : List (List Int)} {ps} (h : MapOf n ls ps) (cs : List (List Int)) (h25 : cs.length ≤ 25) (hc : ∀ c ∈ cs, c.length = 3 ∧ ∀ v ∈ c, 0 ≤ v ∧ v < cnt n) (hr : (cs.all fun c => !(cellSide ps ls c == 0)) = true) (d : Nat) : ∀ (i : Nat) (out : List (List Int)), i + d = cs.length → out.length ≤ i → Ev (fun k => spec_FixedPoints.l0 k n ls out cs (cs.length : Int) i) (out ++ fixedP ps ls (cs.drop i) i, true) ∧ Ev (fun k => impl_FixedPoints.l0 k n ls out cs (cs.length : Int) i) (out ++ fixedP ps ls (cs.drop i) i, true) := by
  induction d with
  | zero =>
    intro i out hi ho
    rw [List.drop_of_length_le (by omega), show fixedP ps ls [] (i : Int) = [] from rfl, List.append_nil]
    exact ⟨Ev.step (fun k => by simp only [spec_FixedPoints.l0]; rw [if_neg (by omega)]) (Ev.now _), Ev.step (fun k => by simp only [impl_FixedPoints.l0]; rw [if_neg (by omega)]) (Ev.now _)⟩
  | succ d ih =>
    intro i out hi ho
    have hlt : i < cs.length := by omega
    have hcc := hc _ (List.getElem_mem hlt)
    have hce := h.cell cs[i] hcc.1 hcc.2
    obtain ⟨v, v1, v2⟩ := hce.inS
    have h0 : cellSide ps ls cs[i] ≠ 0 := by
      have := List.all_eq_true.mp hr _ (List.getElem_mem hlt)
      simpa using this
    rw [List.drop_eq_getElem_cons hlt]
    have e1 : ∀ k, spec_FixedPoints.l0 (k + 1) n ls out cs (cs.length : Int) i = (spec_fxIn.f k n ls cs[i]).bind fun t => if t = 0 then spec_FixedPoints.l0 k n ls out cs (cs.length : Int) (wrap64 ((i : Int) + 1)) else ((some ([(i : Int)] : List Int)).bind fun y => ((spec_fxWeights.f k n ls cs[i]).bind fun t => if y.length + t.length < 17592186044416 then (if out.length < 5864062014805 then spec_FixedPoints.l0 k n ls (out ++ [y ++ t]) cs (cs.length : Int) (wrap64 ((i : Int) + 1)) else none) else none)) := fun k => by
      simp only [spec_FixedPoints.l0]
      rw [if_pos (by omega), if_pos (by omega), if_pos (by omega), rdl_getElem hlt]
    have e2 : ∀ k, impl_FixedPoints.l0 (k + 1) n ls out cs (cs.length : Int) i = (impl_weightsIn.f k n ls cs[i]).bind fun t => if t = [] then impl_FixedPoints.l0 k n ls out cs (cs.length : Int) (wrap64 ((i : Int) + 1)) else ((some ([(i : Int)] : List Int)).bind fun y => if y.length + t.length < 17592186044416 then (if out.length < 5864062014805 then impl_FixedPoints.l0 k n ls (out ++ [y ++ t]) cs (cs.length : Int) (wrap64 ((i : Int) + 1)) else none) else none) := fun k => by
      simp only [impl_FixedPoints.l0]
      rw [if_pos (by omega), if_pos (by omega), if_pos (by omega), rdl_getElem hlt]
    unfold fixedP
    by_cases hsd : cellSide ps ls cs[i] = 1 ∨ cellSide ps ls cs[i] = -1
    · have hne : ¬ (cellWeights ps ls cs[i] = []) := fun hz => (cellWeights_nil _ _ _).1 hz hsd
      have hv : ¬ (v = 0) := by rcases v2 with ⟨s, r⟩ | ⟨s, r⟩ | ⟨s, r⟩ | ⟨s, r⟩ <;> omega
      have hl : (cellWeights ps ls cs[i]).length ≤ 3 := by unfold cellWeights; split <;> simp [wts]
      obtain ⟨g1, g2⟩ := ih (i + 1) (out ++ [(i : Int) :: cellWeights ps ls cs[i]]) (by omega) (by simp; omega)
      rw [List.append_assoc, List.singleton_append] at g1 g2
      rw [if_neg hne]
      refine ⟨Ev.step e1 (Ev.bind v1 (Ev.congr (fun k => by rw [if_neg hv, Option.bind_some]) (Ev.bind (hce.wS hsd) (Ev.congr (fun k => by rw [if_pos (by simp; omega), if_pos (by omega), upI (by omega), show [(i : Int)] ++ cellWeights ps ls cs[i] = (i : Int) :: cellWeights ps ls cs[i] from rfl]) g1)))), Ev.step e2 (Ev.bind hce.wI (Ev.congr (fun k => by rw [if_neg hne, Option.bind_some, if_pos (by simp; omega), if_pos (by omega), upI (by omega), show [(i : Int)] ++ cellWeights ps ls cs[i] = (i : Int) :: cellWeights ps ls cs[i] from rfl]) g2))⟩
    · have hz := (cellWeights_nil ps ls cs[i]).2 hsd
      have hv : v = 0 := by rcases v2 with ⟨s, r⟩ | ⟨s, r⟩ | ⟨s, r⟩ | ⟨s, r⟩ <;> omega
      obtain ⟨g1, g2⟩ := ih (i + 1) out (by omega) (by omega)
      rw [if_pos hz]
      exact ⟨Ev.step e1 (Ev.bind v1 (Ev.congr (fun k => by rw [if_pos hv, upI (by omega)]) g1)), Ev.step e2 (Ev.bind hce.wI (Ev.congr (fun k => by rw [if_pos hz, upI (by omega)]) g2))⟩
theorem fixedPoints_same (n : Int) (ls : List (List Int)) (hs : Small ls) : ∃ r t, Small r ∧ ∃ K, ∀ k, K ≤ k → spec_FixedPoints.f k n ls = some (r, t) ∧ impl_FixedPoints.f k n ls = some (r, t) := by
  have h1 := specGood n ls hs
  have h2 := implGood n ls
  have s1 : ∀ k, spec_FixedPoints.f k n ls = (spec_fxGood.f k n ls).bind fun t => if t = true then ((spec_fxRegular.f k n ls).bind fun t => spec_FixedPoints.j0 k n ls (!t)) else spec_FixedPoints.j0 k n ls true := fun k => by unfold spec_FixedPoints.f; rfl
  have s2 : ∀ k, impl_FixedPoints.f k n ls = (impl_AreImages.f k n ls).bind fun t => if t = true then ((impl_isRegular.f k n ls).bind fun t => impl_FixedPoints.j0 k n ls (!t)) else impl_FixedPoints.j0 k n ls true := fun k => by unfold impl_FixedPoints.f; rfl
  have n1 : ∀ b, b = true → Ev (fun k => spec_FixedPoints.j0 k n ls b) ([], false) := by rintro b rfl; exact Ev.step (fun k => by simp only [spec_FixedPoints.j0]; rw [if_pos trivial]) (Ev.now _)
  have n2 : ∀ b, b = true → Ev (fun k => impl_FixedPoints.j0 k n ls b) ([], false) := by rintro b rfl; exact Ev.step (fun k => by simp only [impl_FixedPoints.j0]; rw [if_pos trivial]) (Ev.now _)
  cases e : goodP n ls with
  | false =>
    rw [e] at h1 h2
    exact ⟨[], false, ⟨by simp, by simp⟩, both (Ev.congr s1 (Ev.bind h1 (Ev.congr (fun k => by rw [if_neg (by decide)]) (n1 _ rfl)))) (Ev.congr s2 (Ev.bind h2 (Ev.congr (fun k => by rw [if_neg (by decide)]) (n2 _ rfl))))⟩
  | true =>
    rw [e] at h1 h2
    obtain ⟨g1, g5, -, -⟩ := goodOf e
    obtain ⟨cs, c1, c2, c3, c4, c5⟩ := cellsOf n g1 g5
    obtain ⟨ps, hm⟩ := mapOf e
    obtain ⟨r1, r2⟩ := hm.regular cs c1 c2 c4 c5
    cases er : (cs.all fun c => !(cellSide ps ls c == 0)) with
    | false =>
      rw [er] at r1 r2
      refine ⟨[], false, ⟨by simp, by simp⟩, both (Ev.congr s1 (Ev.bind h1 ?_)) (Ev.congr s2 (Ev.bind h2 ?_))⟩
      · refine Ev.congr (fun k => by rw [if_pos rfl]) (Ev.bind r1 ?_)
        exact n1 _ rfl
      · refine Ev.congr (fun k => by rw [if_pos rfl]) (Ev.bind r2 ?_)
        exact n2 _ rfl
    | true =>
      rw [er] at r1 r2
      obtain ⟨f1, f2⟩ := hm.fixed_l0 cs c4 c5 er cs.length 0 [] (by omega) (by simp)
      rw [List.nil_append, List.drop_zero] at f1 f2
      obtain ⟨z1, z2⟩ := fixedP_small ps ls cs 0
      refine ⟨fixedP ps ls cs 0, true, ⟨by omega, fun x hx => by have := z2 x hx; omega⟩, both (Ev.congr s1 (Ev.bind h1 (Ev.congr (fun k => by rw [if_pos rfl]) (Ev.bind r1 (Ev.step (fun k => by simp only [spec_FixedPoints.j0]; rw [if_neg (by decide)]) (Ev.bind c2 f1)))))) (Ev.congr s2 (Ev.bind h2 (Ev.congr (fun k => by rw [if_pos rfl]) (Ev.bind r2 (Ev.step (fun k => by simp only [impl_FixedPoints.j0]; rw [if_neg (by decide)]) (Ev.bind c1 f2))))))⟩
end Go.Proofs.Ytmodnjljgcmdlaa.Maps

