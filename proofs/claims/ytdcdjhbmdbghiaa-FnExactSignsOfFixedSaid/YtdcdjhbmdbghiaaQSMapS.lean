/- Signs of all fixed points: the reference's and the program's come to the same. -/
import Derived.Test.YtdcdjhbmdbghiaaQSx0
import Derived.Test.YtdcdjhbmdbghiaaQSx3
import Derived.Test.YtdcdjhbmdbghiaaQSx4
import Derived.Test.YtdcdjhbmdbghiaaQSx5
import Derived.Test.YtdcdjhbmdbghiaaQSx1
import Derived.Test.YtdcdjhbmdbghiaaQSx2
import Derived.Test.YtdcdjhbmdbghiaaQSEqsR
import Derived.Test.YtdcdjhbmdbghiaaQSMapA
import Derived.Test.YtdcdjhbmdbghiaaQSMapG
import Derived.Test.YtdcdjhbmdbghiaaQSMapM
import Derived.Test.YtdcdjhbmdbghiaaQSMapW
namespace Go.Proofs.Ytdcdjhbmdbghiaa.Maps
open Go.RowKit Go.Proofs.Ytdcdjhbmdbghiaa.All Go.Proofs.Ytdcdjhbmdbghiaa.Eqs Go.Proofs.Ytdcdjhbmdbghiaa.L1 Go.Proofs.YtdcdjhbmdbghiaaW.PrintWords Go.Proofs.YtdcdjhbmdbghiaaW.PrintLast Go.Proofs.YtdcdjhbmdbghiaaW.PrintMore
/-- Is a cell an up cell? -/
def upP (n : Int) (c : List Int) : Bool := match impl_isUp.f 200 n c with
  | some b => b
  | none => false
theorem upIs (n : Int) (h1 : 1 ≤ n) (h5 : n ≤ 5) {cs : List (List Int)} (hcs : Ev (fun k => impl_cells.f k n) cs) : ∀ c ∈ cs, Ev (fun k => impl_isUp.f k n c) (upP n c) ∧ Ev (fun k => spec_meUp.f k n c) (upP n c) := by
  have hc := upAll ⟨(n - 1).toNat, by omega⟩
  rw [show (((⟨(n - 1).toNat, by omega⟩ : Fin 5).val : Int) + 1) = n by simp only; omega] at hc
  unfold upCheck at hc
  split at hc
  · rename_i a ha
    obtain ⟨K, hK⟩ := hcs
    obtain ⟨K2, hK2⟩ := Ev.of (impl_cells.mono n) ha
    have e := hK (max K K2) (by omega)
    rw [hK2 (max K K2) (by omega)] at e
    obtain rfl := Option.some.inj e
    intro c hcm
    have := List.all_eq_true.mp hc c hcm
    split at this
    · rename_i b hb
      rw [show upP n c = b by unfold upP; rw [hb]]
      exact ⟨Ev.of (impl_isUp.mono n c) hb, Ev.of (spec_meUp.mono n c) (beq_iff_eq.mp this)⟩
    · exact absurd this (by simp)
  · exact absurd hc (by simp)
/-- The signs of the cells that have a fixed point. -/
def signsP (n : Int) (ps : List S73) (ls : List (List Int)) : List (List Int) → List Int
  | [] => []
  | c :: cs => if cellWeights ps ls c = [] then signsP n ps ls cs else cellSign ps ls c (upP n c) :: signsP n ps ls cs
theorem signsP_small (n : Int) (ps : List S73) (ls : List (List Int)) : ∀ cs : List (List Int), (signsP n ps ls cs).length ≤ cs.length
  | [] => Nat.le_refl _
  | c :: cs => by
    have h1 := signsP_small n ps ls cs
    unfold signsP
    split <;> simp <;> omega
theorem MapOf.signs_l0 {n : Int} {ls : List (List Int)} {ps} (h : MapOf n ls ps) (cs : List (List Int)) (c1 : Ev (fun k => impl_cells.f k n) cs) (h25 : cs.length ≤ 25) (hc : ∀ c ∈ cs, c.length = 3 ∧ ∀ v ∈ c, 0 ≤ v ∧ v < cnt n) (hr : (cs.all fun c => !(cellSide ps ls c == 0)) = true) (d : Nat) : ∀ (i : Nat) (out : List Int), i + d = cs.length → out.length ≤ i → Ev (fun k => spec_SignsOfFixed.l0 k n ls out cs (cs.length : Int) i) (out ++ signsP n ps ls (cs.drop i), true) ∧ Ev (fun k => impl_SignsOfFixed.l0 k n ls out cs (cs.length : Int) i) (out ++ signsP n ps ls (cs.drop i), true) := by
  induction d with
  | zero =>
    intro i out hi ho
    rw [List.drop_of_length_le (by omega), show signsP n ps ls [] = [] from rfl, List.append_nil]
    exact ⟨Ev.step (fun k => by simp only [spec_SignsOfFixed.l0]; rw [if_neg (by omega)]) (Ev.now _), Ev.step (fun k => by simp only [impl_SignsOfFixed.l0]; rw [if_neg (by omega)]) (Ev.now _)⟩
  | succ d ih =>
    intro i out hi ho
    have hlt : i < cs.length := by omega
    have hcc := hc _ (List.getElem_mem hlt)
    have hce := h.cell cs[i] hcc.1 hcc.2
    obtain ⟨u1, u2⟩ := upIs n h.one h.five c1 cs[i] (List.getElem_mem hlt)
    obtain ⟨v, v1, v2⟩ := hce.inS
    have h0 : cellSide ps ls cs[i] ≠ 0 := by
      have := List.all_eq_true.mp hr _ (List.getElem_mem hlt)
      simpa using this
    rw [List.drop_eq_getElem_cons hlt]
    unfold signsP
    by_cases hsd : cellSide ps ls cs[i] = 1 ∨ cellSide ps ls cs[i] = -1
    · have hne : ¬ (cellWeights ps ls cs[i] = []) := fun hz => (cellWeights_nil _ _ _).1 hz hsd
      have hv : ¬ (v = 0) := by rcases v2 with ⟨s, r⟩ | ⟨s, r⟩ | ⟨s, r⟩ | ⟨s, r⟩ <;> omega
      obtain ⟨s1, s2⟩ := sign_same hce u1 u2 hsd
      obtain ⟨g1, g2⟩ := ih (i + 1) (out ++ [cellSign ps ls cs[i] (upP n cs[i])]) (by omega) (by simp; omega)
      rw [List.append_assoc, List.singleton_append] at g1 g2
      rw [if_neg hne]
      refine ⟨Ev.step (fun k => by simp only [spec_SignsOfFixed.l0]; rw [if_pos (by omega), if_pos (by omega), if_pos (by omega), rdl_getElem hlt]) (Ev.bind v1 ?_), Ev.step (fun k => by simp only [impl_SignsOfFixed.l0]; rw [if_pos (by omega), if_pos (by omega), if_pos (by omega), rdl_getElem hlt]) (Ev.bind hce.wI ?_)⟩
      · exact Ev.congr (fun k => by rw [if_neg hv]) (Ev.bind s1 (Ev.congr (fun k => by rw [if_pos (by omega), upI (by omega)]) g1))
      · exact Ev.congr (fun k => by rw [if_neg hne]) (Ev.bind s2 (Ev.congr (fun k => by rw [if_pos (by omega), upI (by omega)]) g2))
    · have hz := (cellWeights_nil ps ls cs[i]).2 hsd
      have hv : v = 0 := by rcases v2 with ⟨s, r⟩ | ⟨s, r⟩ | ⟨s, r⟩ | ⟨s, r⟩ <;> omega
      obtain ⟨g1, g2⟩ := ih (i + 1) out (by omega) (by omega)
      rw [if_pos hz]
      refine ⟨Ev.step (fun k => by simp only [spec_SignsOfFixed.l0]; rw [if_pos (by omega), if_pos (by omega), if_pos (by omega), rdl_getElem hlt]) (Ev.bind v1 ?_), Ev.step (fun k => by simp only [impl_SignsOfFixed.l0]; rw [if_pos (by omega), if_pos (by omega), if_pos (by omega), rdl_getElem hlt]) (Ev.bind hce.wI ?_)⟩
      · exact Ev.congr (fun k => by rw [if_pos hv, upI (by omega)]) g1
      · exact Ev.congr (fun k => by rw [if_pos hz, upI (by omega)]) g2
theorem signsOfFixed_same (n : Int) (ls : List (List Int)) (hs : Small ls) : ∃ r t, r.length ≤ 1048576 ∧ ∃ K, ∀ k, K ≤ k → spec_SignsOfFixed.f k n ls = some (r, t) ∧ impl_SignsOfFixed.f k n ls = some (r, t) := by
  have h1 := specGood n ls hs
  have h2 := implGood n ls
  have s1 : ∀ k, spec_SignsOfFixed.f k n ls = (spec_fxGood.f k n ls).bind fun t => if t = true then ((spec_fxRegular.f k n ls).bind fun t => spec_SignsOfFixed.j0 k n ls (!t)) else spec_SignsOfFixed.j0 k n ls true := fun k => by unfold spec_SignsOfFixed.f; rfl
  have s2 : ∀ k, impl_SignsOfFixed.f k n ls = (impl_AreImages.f k n ls).bind fun t => if t = true then ((impl_isRegular.f k n ls).bind fun t => impl_SignsOfFixed.j0 k n ls (!t)) else impl_SignsOfFixed.j0 k n ls true := fun k => by unfold impl_SignsOfFixed.f; rfl
  have n1 : ∀ b, b = true → Ev (fun k => spec_SignsOfFixed.j0 k n ls b) ([], false) := by rintro b rfl; exact Ev.step (fun k => by simp only [spec_SignsOfFixed.j0]; rw [if_pos trivial]) (Ev.now _)
  have n2 : ∀ b, b = true → Ev (fun k => impl_SignsOfFixed.j0 k n ls b) ([], false) := by rintro b rfl; exact Ev.step (fun k => by simp only [impl_SignsOfFixed.j0]; rw [if_pos trivial]) (Ev.now _)
  cases e : goodP n ls with
  | false =>
    rw [e] at h1 h2
    exact ⟨[], false, by simp, both (Ev.congr s1 (Ev.bind h1 (Ev.congr (fun k => by rw [if_neg (by decide)]) (n1 _ rfl)))) (Ev.congr s2 (Ev.bind h2 (Ev.congr (fun k => by rw [if_neg (by decide)]) (n2 _ rfl))))⟩
  | true =>
    rw [e] at h1 h2
    obtain ⟨g1, g5, -, -⟩ := goodOf e
    obtain ⟨cs, c1, c2, c3, c4, c5⟩ := cellsOf n g1 g5
    obtain ⟨ps, hm⟩ := mapOf e
    obtain ⟨r1, r2⟩ := hm.regular cs c1 c2 c4 c5
    cases er : (cs.all fun c => !(cellSide ps ls c == 0)) with
    | false =>
      rw [er] at r1 r2
      refine ⟨[], false, by simp, both (Ev.congr s1 (Ev.bind h1 ?_)) (Ev.congr s2 (Ev.bind h2 ?_))⟩
      · refine Ev.congr (fun k => by rw [if_pos rfl]) (Ev.bind r1 ?_)
        exact n1 _ rfl
      · refine Ev.congr (fun k => by rw [if_pos rfl]) (Ev.bind r2 ?_)
        exact n2 _ rfl
    | true =>
      rw [er] at r1 r2
      obtain ⟨f1, f2⟩ := hm.signs_l0 cs c1 c4 c5 er cs.length 0 [] (by omega) (by simp)
      rw [List.nil_append, List.drop_zero] at f1 f2
      have z1 := signsP_small n ps ls cs
      refine ⟨signsP n ps ls cs, true, by omega, both (Ev.congr s1 (Ev.bind h1 (Ev.congr (fun k => by rw [if_pos rfl]) (Ev.bind r1 (Ev.step (fun k => by simp only [spec_SignsOfFixed.j0]; rw [if_neg (by decide)]) (Ev.bind c2 f1)))))) (Ev.congr s2 (Ev.bind h2 (Ev.congr (fun k => by rw [if_pos rfl]) (Ev.bind r2 (Ev.step (fun k => by simp only [impl_SignsOfFixed.j0]; rw [if_neg (by decide)]) (Ev.bind c1 f2))))))⟩
end Go.Proofs.Ytdcdjhbmdbghiaa.Maps

