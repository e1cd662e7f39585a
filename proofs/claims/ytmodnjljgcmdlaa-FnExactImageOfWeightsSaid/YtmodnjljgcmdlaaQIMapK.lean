/- What is asked of a cell. -/
import Derived.Test.YtmodnjljgcmdlaaQIx0
import Derived.Test.YtmodnjljgcmdlaaQIx7
import Derived.Test.YtmodnjljgcmdlaaQIx2
import Derived.Test.YtmodnjljgcmdlaaQIEqsR
import Derived.Test.YtmodnjljgcmdlaaQIL1
import Derived.Test.YtmodnjljgcmdlaaQIMapA
import Derived.Test.YtmodnjljgcmdlaaQIMapG
import Derived.Test.YtmodnjljgcmdlaaQIMapM
import Derived.Test.YtmodnjljgcmdlaaQIEqs
namespace Go.Proofs.Ytmodnjljgcmdlaa.Maps
open Go.RowKit Go.Proofs.Ytmodnjljgcmdlaa.All Go.Proofs.Ytmodnjljgcmdlaa.Eqs Go.Proofs.Ytmodnjljgcmdlaa.L1 Go.Proofs.YtmodnjljgcmdlaaW.PrintWords Go.Proofs.YtmodnjljgcmdlaaW.PrintLast Go.Proofs.YtmodnjljgcmdlaaW.PrintMore
/-! #### asked -/
theorem specAsked (n : Int) (ls : List (List Int)) (hs : Small ls) (c : Int) : Ev (fun k => spec_fxAsked.f k n ls c) (goodP n ls && inB 0 (topCell n) c) := by
  have h := specGood n ls hs
  refine Ev.congr (fun k => by unfold spec_fxAsked.f; rfl) (Ev.bind h ?_)
  cases goodP n ls with
  | false => exact Ev.now _
  | true => exact Ev.congr (fun k => by rw [if_pos rfl, l1In_is, Option.bind_some]; rfl) (Ev.now _)
theorem implAsked (n : Int) (ls : List (List Int)) (c : Int) : Ev (fun k => impl_isMapCell.f k n ls c) (goodP n ls && inB 0 (topCell n) c) := by
  have h := implGood n ls
  refine Ev.congr (fun k => by unfold impl_isMapCell.f; rfl) (Ev.bind h ?_)
  cases e : goodP n ls with
  | false => exact Ev.now _
  | true =>
    obtain ⟨g1, g5, -, -⟩ := goodOf e
    have h8 : inB 1 8 n = true := (inB_iff _ _ _).mpr ⟨by omega, by omega⟩
    exact Ev.congr (fun k => by rw [if_pos rfl]; unfold impl_isCell.f impl_isSide.f; rw [in_is, Option.bind_some, Option.bind_some, h8, if_pos rfl, in_is, Option.bind_some, Option.bind_some]; rfl) (Ev.now _)
theorem cellAt {n c : Int} {cs : List (List Int)} (hl : (cs.length : Int) = topCell n + 1) (h : inB 0 (topCell n) c = true) (hc : ∀ x ∈ cs, x.length = 3 ∧ ∀ i ∈ x, 0 ≤ i ∧ i < cnt n) : 0 ≤ c ∧ c < (cs.length : Int) ∧ (rd_L1 cs c).length = 3 ∧ ∀ i ∈ rd_L1 cs c, 0 ≤ i ∧ i < cnt n := by
  have hb := (inB_iff _ _ _).mp h
  obtain ⟨m, rfl⟩ : ∃ m : Nat, c = (m : Int) := ⟨c.toNat, by omega⟩
  have hlt : m < cs.length := by omega
  have := hc _ (List.getElem_mem hlt)
  rw [rdl_getElem hlt]
  exact ⟨by omega, by omega, this⟩
end Go.Proofs.Ytmodnjljgcmdlaa.Maps

