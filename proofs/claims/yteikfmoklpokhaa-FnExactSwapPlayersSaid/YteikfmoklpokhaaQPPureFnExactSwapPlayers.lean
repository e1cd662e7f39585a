/- For all arguments the law on SwapPlayers answers true: the reference and the program come to the same. -/
import Derived.Test.YteikfmoklpokhaaQPx0
import Derived.Test.YteikfmoklpokhaaQPEqsG
import Derived.Test.YteikfmoklpokhaaQPOwn
import Derived.Test.YteikfmoklpokhaaQPRowsIn
import Derived.Test.YteikfmoklpokhaaQPTurned
import Derived.Test.YteikfmoklpokhaaQPWalkFnExactSwapPlayers
namespace Go.Proofs.Yteikfmoklpokhaa.Pure
open Go.RowKit Go.Proofs.Yteikfmoklpokhaa.All Go.Proofs.Yteikfmoklpokhaa.Eqs Go.Proofs.Yteikfmoklpokhaa.Games Go.Proofs.Yteikfmoklpokhaa.RowsIn Go.Proofs.YteikfmoklpokhaaW.PrintWords Go.Proofs.YteikfmoklpokhaaW.PrintLast
theorem FnExactSwapPlayers (A0 : Option Addr) (len0 cap0 : Nat) (l0 : List (List Int)) (B0 : Option Addr) (lenb0 capb0 : Nat) (m0 : List (List Int)) (w : World) (H0 : Lists w A0 len0 cap0 l0) (J0 : Lists w B0 lenb0 capb0 m0) :
    Calls Try.prog 6 #[.agg #[.slice A0 len0 cap0, .slice B0 lenb0 capb0]] w fun e w' => e = .returned (.bool true) ∧ Below w.heap.size w w' := by
  obtain ⟨rfl, hr0, hc0, hm0, hml0, _⟩ := H0
  obtain ⟨rfl, hrb0, hcb0, hmb0, hmlb0, _⟩ := J0
  obtain ⟨r, hsm, hr⟩ := szGame_is l0 m0 hm0 hmb0 hml0 hmlb0
  by_cases h0 : r < 0
  · exact Walk.SwapPlayers.sz 4000000 A0 cap0 l0 B0 capb0 m0 w hr0 hc0 hrb0 hcb0 r (hr _ (by omega)) h0 
  obtain ⟨hs0, hsb0⟩ := hsm (by omega)
  obtain ⟨o0_0, o0_1, o1, ho0_0, ho0_1, K, hx⟩ := swapPlayers_same l0 m0 hs0 hsb0 
  exact Walk.SwapPlayers.main (K + 4000000) A0 cap0 l0 B0 capb0 m0 w hr0 hc0 hrb0 hcb0 r (hr _ (by omega)) (by omega) (by omega) o0_0 o0_1 o1 hs0 hsb0  ho0_0 ho0_1 (hx _ (by omega)).1 (hx _ (by omega)).2
end Go.Proofs.Yteikfmoklpokhaa.Pure

