/- What is asked of a cell. -/
import Derived.Test.YtmodnjljgcmdlaaQPx0
import Derived.Test.YtmodnjljgcmdlaaQPx3
import Derived.Test.YtmodnjljgcmdlaaQPMapA
import Derived.Test.YtmodnjljgcmdlaaQPMapM
import Derived.Test.YtmodnjljgcmdlaaQPEqs
namespace Go.Proofs.Ytmodnjljgcmdlaa.Maps
open Go.RowKit Go.Proofs.Ytmodnjljgcmdlaa.All Go.Proofs.Ytmodnjljgcmdlaa.Eqs Go.Proofs.Ytmodnjljgcmdlaa.L1 Go.Proofs.YtmodnjljgcmdlaaW.PrintWords Go.Proofs.YtmodnjljgcmdlaaW.PrintLast Go.Proofs.YtmodnjljgcmdlaaW.PrintMore
/-! #### asked -/


theorem cellAt {n c : Int} {cs : List (List Int)} (hl : (cs.length : Int) = topCell n + 1) (h : inB 0 (topCell n) c = true) (hc : ∀ x ∈ cs, x.length = 3 ∧ ∀ i ∈ x, 0 ≤ i ∧ i < cnt n) : 0 ≤ c ∧ c < (cs.length : Int) ∧ (rd_L1 cs c).length = 3 ∧ ∀ i ∈ rd_L1 cs c, 0 ≤ i ∧ i < cnt n := by
  have hb := (inB_iff _ _ _).mp h
  obtain ⟨m, rfl⟩ : ∃ m : Nat, c = (m : Int) := ⟨c.toNat, by omega⟩
  have hlt : m < cs.length := by omega
  have := hc _ (List.getElem_mem hlt)
  rw [rdl_getElem hlt]
  exact ⟨by omega, by omega, this⟩
end Go.Proofs.Ytmodnjljgcmdlaa.Maps

