/- Weights and signs of fixed points: the reference's and the program's come to the same. -/
import Derived.Test.YtmodnjljgcmdlaaQWx0
import Derived.Test.YtmodnjljgcmdlaaQWx2
import Derived.Test.YtmodnjljgcmdlaaQWx3
import Derived.Test.YtmodnjljgcmdlaaQWx7
import Derived.Test.YtmodnjljgcmdlaaQWx9
import Derived.Test.YtmodnjljgcmdlaaQWx1
import Derived.Test.YtmodnjljgcmdlaaQWEqsR
import Derived.Test.YtmodnjljgcmdlaaQWMapA
import Derived.Test.YtmodnjljgcmdlaaQWMapMs0
import Derived.Test.YtmodnjljgcmdlaaQWMapMs2
import Derived.Test.YtmodnjljgcmdlaaQWMapT
import Derived.Test.YtmodnjljgcmdlaaQWMapWs0
import Derived.Test.YtmodnjljgcmdlaaQWMapWs2
namespace Go.Proofs.Ytmodnjljgcmdlaa.Maps
open Go.RowKit Go.Proofs.Ytmodnjljgcmdlaa.All Go.Proofs.Ytmodnjljgcmdlaa.Eqs Go.Proofs.Ytmodnjljgcmdlaa.L1 Go.Proofs.YtmodnjljgcmdlaaW.PrintWords Go.Proofs.YtmodnjljgcmdlaaW.PrintLast Go.Proofs.YtmodnjljgcmdlaaW.PrintMore
/-! #### divisors -/












/-! #### a cell -/








/-! #### signs -/
def upCheck (n : Int) : Bool := match impl_cells.f 2000 n with
  | some cs => cs.all fun c => match impl_isUp.f 200 n c with
    | some b => spec_meUp.f 200 n c == some b
    | none => false
  | none => false
set_option maxRecDepth 100000 in
theorem upAll : ∀ i : Fin 5, upCheck ((i.val : Int) + 1) = true := by decide +kernel
theorem upOf (n : Int) (h1 : 1 ≤ n) (h5 : n ≤ 5) {cs : List (List Int)} (hcs : Ev (fun k => impl_cells.f k n) cs) : ∀ c ∈ cs, ∃ b, Ev (fun k => impl_isUp.f k n c) b ∧ Ev (fun k => spec_meUp.f k n c) b := by
  have hc := upAll ⟨(n - 1).toNat, by omega⟩
  rw [show (((⟨(n - 1).toNat, by omega⟩ : Fin 5).val : Int) + 1) = n by simp only; omega] at hc
  unfold upCheck at hc
  split at hc
  · rename_i a ha
    obtain ⟨K, hK⟩ := hcs
    obtain ⟨K2, hK2⟩ := Ev.of (impl_cells.mono n) ha
    have e := hK (max K K2) (by omega)
    rw [hK2 (max K K2) (by omega)] at e
    obtain rfl := Option.some.inj e
    intro c hcm
    have := List.all_eq_true.mp hc c hcm
    split at this
    · rename_i b hb
      exact ⟨b, Ev.of (impl_isUp.mono n c) hb, Ev.of (spec_meUp.mono n c) (beq_iff_eq.mp this)⟩
    · exact absurd this (by simp)
  · exact absurd hc (by simp)
/-- The sign of a cell's fixed point. -/
def cellSign (ps : List S60) (ls : List (List Int)) (cell : List Int) (up : Bool) : Int := if (cellSide ps ls cell == 1) == up then 1 else -1
theorem sign_same {n : Int} {ls : List (List Int)} {ps} {cell : List Int} (hc : CellOf n ls ps cell) {up : Bool} (u1 : Ev (fun k => impl_isUp.f k n cell) up) (u2 : Ev (fun k => spec_meUp.f k n cell) up) (hsd : cellSide ps ls cell = 1 ∨ cellSide ps ls cell = -1) : Ev (fun k => spec_fxSign.f k n ls cell) (cellSign ps ls cell up) ∧ Ev (fun k => impl_signIn.f k n ls cell) (cellSign ps ls cell up) := by
  obtain ⟨v, v1, v2⟩ := hc.inS
  obtain ⟨a, a1, a2⟩ := hc.areas
  have hv : v = cellSide ps ls cell := by rcases v2 with ⟨s, r⟩ | ⟨s, r⟩ | ⟨s, r⟩ | ⟨s, r⟩ <;> omega
  subst hv
  refine ⟨Ev.congr (fun k => by unfold spec_fxSign.f; rfl) (Ev.bind v1 (Ev.bind u2 ?_)), Ev.congr (fun k => by unfold impl_signIn.f; rfl) (Ev.bind a1 (Ev.bind a2 (Ev.bind u1 ?_)))⟩
  · unfold cellSign
    rcases hsd with s | s <;> rw [s] <;> cases up
    · exact Ev.congr (fun k => by rw [if_neg (by decide), show wrap64 (-1) = -1 by decide +kernel]; rfl) (Ev.now _)
    · exact Ev.now _
    · exact Ev.congr (fun k => by rw [if_neg (by decide), show wrap64 (- -1) = 1 by decide +kernel]; rfl) (Ev.now _)
    · exact Ev.now _
  · unfold cellSign
    rcases hsd with s | s <;> rw [s] <;> cases up <;> exact Ev.now _
theorem signIn_same (n : Int) (ls : List (List Int)) (c : Int) (hs : Small ls) : ∃ r t, ∃ K, ∀ k, K ≤ k → spec_SignIn.f k n ls c = some (r, t) ∧ impl_SignIn.f k n ls c = some (r, t) := by
  have h1 := specAsked n ls hs c
  have h2 := implAsked n ls c
  cases e : (goodP n ls && inB 0 (topCell n) c) with
  | false =>
    rw [e] at h1 h2
    have hf := fixedS n ls hs c (by cases h : goodP n ls with | false => exact Or.inl rfl | true => rw [h] at e; exact Or.inr (by simpa using e))
    exact ⟨0, false, both (Ev.congr (fun k => by unfold spec_SignIn.f; rfl) (Ev.bind hf (Ev.now _))) (Ev.congr (fun k => by unfold impl_SignIn.f; rfl) (Ev.bind h2 (Ev.now _)))⟩
  | true =>
    rw [e] at h1 h2
    simp only [Bool.and_eq_true] at e
    obtain ⟨g1, g5, -, -⟩ := goodOf e.1
    obtain ⟨cs, c1, c2, c3, -, c5⟩ := cellsOf n g1 g5
    obtain ⟨b1, b2, b3, b4⟩ := cellAt c3 e.2 c5
    obtain ⟨ps, hm⟩ := mapOf e.1
    have hc := hm.cell (rd_L1 cs c) b3 b4
    obtain ⟨up, u1, u2⟩ := upOf n g1 g5 c1 (rd_L1 cs c) (by
      obtain ⟨m, rfl⟩ : ∃ m : Nat, c = (m : Int) := ⟨c.toNat, by omega⟩
      rw [rdl_getElem (by omega)]; exact List.getElem_mem _)
    obtain ⟨v, v1, v2⟩ := hc.inS
    have hF : ∀ a b : _, spec_l1Abs.f v = some a → (a == 1) = b → Ev (fun k => spec_fxFixed.f k n ls c) b := by
      rintro a b ha rfl
      exact Ev.congr (fun k => by unfold spec_fxFixed.f; rfl) (Ev.bind h1 (Ev.congr (fun k => by rw [if_pos rfl]) (Ev.bind c2 (Ev.congr (fun k => by rw [if_pos b1, if_pos b2]) (Ev.bind v1 (Ev.congr (fun k => by rw [ha, Option.bind_some]) (Ev.now _)))))))
    have hI0 : ∀ {q : Int × Bool}, Ev (fun k => if cellWeights ps ls (rd_L1 cs c) = [] then (some ((0 : Int), false)) else ((impl_signIn.f k n ls (rd_L1 cs c)).bind fun t => (some (t, true)))) q → Ev (fun k => impl_SignIn.f k n ls c) q := by
      intro q hq
      exact Ev.congr (fun k => by unfold impl_SignIn.f; rfl) (Ev.bind h2 (Ev.congr (fun k => by rw [if_pos rfl]) (Ev.bind c1 (Ev.congr (fun k => by rw [if_pos b1, if_pos b2]) (Ev.bind hc.wI hq)))))
    by_cases hsd : cellSide ps ls (rd_L1 cs c) = 1 ∨ cellSide ps ls (rd_L1 cs c) = -1
    · obtain ⟨s1, s2⟩ := sign_same hc u1 u2 hsd
      have hne : ¬ (cellWeights ps ls (rd_L1 cs c) = []) := fun hz => (cellWeights_nil _ _ _).1 hz hsd
      refine ⟨_, true, both ?_ (hI0 (Ev.congr (fun k => by rw [if_neg hne]) (Ev.bind s2 (Ev.now _))))⟩
      refine Ev.congr (fun k => by unfold spec_SignIn.f; rfl) (Ev.bind (hF 1 true ?_ rfl) (Ev.congr (fun k => by rw [if_pos rfl]) (Ev.bind c2 (Ev.congr (fun k => by rw [if_pos b1, if_pos b2]) (Ev.bind s1 (Ev.now _))))))
      rcases v2 with ⟨-, rfl⟩ | ⟨-, rfl⟩ | ⟨s, -⟩ | ⟨s, -⟩
      · exact absS 1 (by decide)
      · exact absS (-1) (by decide)
      · omega
      · omega
    · have hz := (cellWeights_nil ps ls (rd_L1 cs c)).2 hsd
      refine ⟨0, false, both ?_ (hI0 (Ev.congr (fun k => by rw [if_pos hz]) (Ev.now _)))⟩
      rcases v2 with ⟨s, -⟩ | ⟨s, -⟩ | ⟨-, rfl⟩ | ⟨-, rfl⟩
      · omega
      · omega
      · exact Ev.congr (fun k => by unfold spec_SignIn.f; rfl) (Ev.bind (hF 0 false (absS 0 (by decide)) rfl) (Ev.now _))
      · exact Ev.congr (fun k => by unfold spec_SignIn.f; rfl) (Ev.bind (hF 2 false (absS 2 (by decide)) rfl) (Ev.now _))
/-! #### regular images, told -/






end Go.Proofs.Ytmodnjljgcmdlaa.Maps

