/- For all arguments the law on AddToColumn answers true: the reference and the program come to the same. -/
import Derived.Test.YteikfmoklpokhaaQAx0
import Derived.Test.YteikfmoklpokhaaQAAddCol
import Derived.Test.YteikfmoklpokhaaQAEqsG
import Derived.Test.YteikfmoklpokhaaQAOwn
import Derived.Test.YteikfmoklpokhaaQARowsIn
import Derived.Test.YteikfmoklpokhaaQAWalkFnExactAddToColumn
import Derived.Test.YteikfmoklpokhaaQAEqs
namespace Go.Proofs.Yteikfmoklpokhaa.Pure
open Go.RowKit Go.Proofs.Yteikfmoklpokhaa.All Go.Proofs.Yteikfmoklpokhaa.Eqs Go.Proofs.Yteikfmoklpokhaa.Games Go.Proofs.Yteikfmoklpokhaa.Own Go.Proofs.Yteikfmoklpokhaa.RowsIn Go.Proofs.YteikfmoklpokhaaW.PrintWords Go.Proofs.YteikfmoklpokhaaW.PrintLast
theorem FnExactAddToColumn (A0 : Option Addr) (len0 cap0 : Nat) (l0 : List (List Int)) (B0 : Option Addr) (lenb0 capb0 : Nat) (m0 : List (List Int)) (a1 : Int) (a2 : Int) (w : World) (H0 : Lists w A0 len0 cap0 l0) (J0 : Lists w B0 lenb0 capb0 m0) (_ : (Lit.int .i64 a1).wf = true) (_ : (Lit.int .i64 a2).wf = true) :
    Calls Try.prog 8 #[.agg #[.slice A0 len0 cap0, .slice B0 lenb0 capb0], .int .i64 a1, .int .i64 a2] w fun e w' => e = .returned (.bool true) ∧ Below w.heap.size w w' := by
  obtain ⟨rfl, hr0, hc0, hm0, hml0, _⟩ := H0
  obtain ⟨rfl, hrb0, hcb0, hmb0, hmlb0, _⟩ := J0
  obtain ⟨r, hsm, hr⟩ := szGame_is l0 m0 hm0 hmb0 hml0 hmlb0
  by_cases h0 : r < 0
  · exact Walk.AddToColumn.sz 4000000 A0 cap0 l0 B0 capb0 m0 a1 a2 w hr0 hc0 hrb0 hcb0 r (hr _ (by omega)) h0 
  obtain ⟨hs0, hsb0⟩ := hsm (by omega)
  obtain ⟨o0_0, o0_1, o1, ho0_0, ho0_1, K, hx⟩ := addToColumn_same l0 m0 a1 a2 hs0 hsb0 
  exact Walk.AddToColumn.main (K + 4000000) A0 cap0 l0 B0 capb0 m0 a1 a2 w hr0 hc0 hrb0 hcb0 r (hr _ (by omega)) (by omega) (by omega) o0_0 o0_1 o1 hs0 hsb0  ho0_0 ho0_1 (hx _ (by omega)).1 (hx _ (by omega)).2
end Go.Proofs.Yteikfmoklpokhaa.Pure

