/- What pieces are worth, favourites, sums and envy: the reference and the program come to the same numbers. -/
import Derived.Test.YtbbkohmebjcghaaQGx0
import Derived.Test.YtbbkohmebjcghaaQGx1
import Derived.Test.YtbbkohmebjcghaaQGEqs
namespace Go.Proofs.Ytbbkohmebjcghaa.Cake
open Go.RowKit Go.Proofs.Ytbbkohmebjcghaa.All Go.Proofs.Ytbbkohmebjcghaa.Eqs Go.Proofs.YtbbkohmebjcghaaW.PrintWords Go.Proofs.YtbbkohmebjcghaaW.PrintLast Go.Proofs.YtbbkohmebjcghaaW.PrintMore




theorem in9 {x : Int} {l : List Int} (ha : l.all (inB 0 9) = true) (hx : x ∈ l) : 0 ≤ x ∧ x ≤ 9 := by
  have hb := List.all_eq_true.1 ha x hx
  simpa only [inB, Bool.and_eq_true, decide_eq_true_eq] using hb
theorem rd_get (l : List Int) (i : Nat) (h : i < l.length) : rd l (i : Int) = l[i] := by simp [rd, List.getD, List.getElem?_eq_getElem h]








/-! #### envy -/
theorem most_is (a b : Int) : spec_l1Most.f a b = some (mx a b) := by
  unfold spec_l1Most.f mx
  by_cases h : a > b
  · rw [if_pos h, if_neg (by omega)]
  · rw [if_neg h]
    by_cases h2 : a < b
    · rw [if_pos h2]
    · rw [if_neg h2]; congr 1; omega


end Go.Proofs.Ytbbkohmebjcghaa.Cake

