/- For all arguments the law on ZeroSum answers true: the reference and the program come to the same. -/
import Derived.Test.YteikfmoklpokhaaQZx0
import Derived.Test.YteikfmoklpokhaaQZEqsR
import Derived.Test.YteikfmoklpokhaaQZOwn
import Derived.Test.YteikfmoklpokhaaQZOwnWi
import Derived.Test.YteikfmoklpokhaaQZRowsIn
import Derived.Test.YteikfmoklpokhaaQZWalkFnExactZeroSum
import Derived.Test.YteikfmoklpokhaaQZZero
import Derived.Test.YteikfmoklpokhaaQZEqs
namespace Go.Proofs.Yteikfmoklpokhaa.Pure
open Go.RowKit Go.Proofs.Yteikfmoklpokhaa.All Go.Proofs.Yteikfmoklpokhaa.Eqs Go.Proofs.Yteikfmoklpokhaa.Games Go.Proofs.Yteikfmoklpokhaa.Own Go.Proofs.Yteikfmoklpokhaa.RowsIn Go.Proofs.YteikfmoklpokhaaW.PrintWords Go.Proofs.YteikfmoklpokhaaW.PrintLast
theorem FnExactZeroSum (A0 : Option Addr) (len0 cap0 : Nat) (l0 : List (List Int)) (w : World) (H0 : Lists w A0 len0 cap0 l0) :
    Calls Try.prog 5 #[.slice A0 len0 cap0] w fun e w' => e = .returned (.bool true) ∧ Below w.heap.size w w' := by
  obtain ⟨rfl, hr0, hc0, hm0, hml0, _⟩ := H0
  rcases szIntSS_is l0 hm0 hml0 with hneg | ⟨hs0, hpos⟩
  · obtain ⟨r, hr, h0⟩ := hneg 4000000 (by omega)
    exact Walk.ZeroSum.sz 4000000 A0 cap0 l0 w hr0 hc0 r hr h0 
  obtain ⟨o0_0, o0_1, o1, ho0_0, ho0_1, K, hx⟩ := zeroSum_same l0 hs0 
  obtain ⟨r, hr, h0⟩ := hpos (K + 4000000) (by omega)
  exact Walk.ZeroSum.main (K + 4000000) A0 cap0 l0 w hr0 hc0 r hr h0 (by omega) o0_0 o0_1 o1 hs0  ho0_0 ho0_1 (hx _ (by omega)).1 (hx _ (by omega)).2
end Go.Proofs.Yteikfmoklpokhaa.Pure

