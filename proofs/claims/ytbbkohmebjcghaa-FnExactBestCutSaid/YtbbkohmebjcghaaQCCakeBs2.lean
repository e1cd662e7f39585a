/- What pieces are worth, favourites, sums and envy: the reference and the program come to the same numbers. -/
import Derived.Test.YtbbkohmebjcghaaQCx0
import Derived.Test.YtbbkohmebjcghaaQCx2
import Derived.Test.YtbbkohmebjcghaaQCEqs
namespace Go.Proofs.Ytbbkohmebjcghaa.Cake
open Go.RowKit Go.Proofs.Ytbbkohmebjcghaa.All Go.Proofs.Ytbbkohmebjcghaa.Eqs Go.Proofs.YtbbkohmebjcghaaW.PrintWords Go.Proofs.YtbbkohmebjcghaaW.PrintLast Go.Proofs.YtbbkohmebjcghaaW.PrintMore














/-! #### envy -/
theorem most_is (a b : Int) : spec_l1Most.f a b = some (mx a b) := by
  unfold spec_l1Most.f mx
  by_cases h : a > b
  · rw [if_pos h, if_neg (by omega)]
  · rw [if_neg h]
    by_cases h2 : a < b
    · rw [if_pos h2]
    · rw [if_neg h2]; congr 1; omega
theorem envy_same (ws : List (List Int)) (own : List Int) (h : ws.length = own.length) : ∀ (k : Nat),
    (∀ m i, spec_ckEnvy.l0 k own m ws (ws.length : Int) i = impl_envyOf.l0 k ws m own (own.length : Int) i) ∧
    (∀ m i j, 0 ≤ i → i < (own.length : Int) → spec_ckEnvy.l1 k own m i (rd_L1 ws i) ws (ws.length : Int) i (rd_L1 ws i) ((rd_L1 ws i).length : Int) j = impl_envyOf.l1 k ws m i (rd own i) own (own.length : Int) i (rd_L1 ws i) ((rd_L1 ws i).length : Int) j) := by
  intro k
  induction k with
  | zero => exact ⟨fun _ _ => rfl, fun _ _ _ _ _ => rfl⟩
  | succ k ih =>
    refine ⟨fun m i => ?_, fun m i j h0 h1 => ?_⟩
    · simp only [spec_ckEnvy.l0, impl_envyOf.l0]
      rw [h]
      by_cases h2 : i < (own.length : Int)
      · simp only [h2, if_true]
        by_cases h3 : 0 ≤ i
        · simp only [h3, if_true]
          have := ih.2 m i 0 h3 h2
          rw [h] at this
          exact this
        · simp only [h3, if_false]
      · simp only [h2, if_false]
    · simp only [spec_ckEnvy.l1, impl_envyOf.l1]
      have e1 : (0 ≤ i) = True := eq_true h0
      have e2 : (i < (own.length : Int)) = True := eq_true h1
      have e3 : (i < (ws.length : Int)) = True := eq_true (by omega)
      simp only [e1, e2, e3, if_true, most_is, Option.bind_some, ih.1]
      by_cases h2 : j < ((rd_L1 ws i).length : Int)
      · simp only [h2, if_true]
        have := fun mm jj => ih.2 mm i jj h0 h1
        simp only [this]
      · simp only [h2, if_false]

end Go.Proofs.Ytbbkohmebjcghaa.Cake

