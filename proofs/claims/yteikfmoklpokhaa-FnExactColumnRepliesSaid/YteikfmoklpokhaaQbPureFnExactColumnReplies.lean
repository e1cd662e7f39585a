/- For all arguments the law on ColumnReplies answers true: the reference and the program come to the same. -/
import Derived.Test.YteikfmoklpokhaaQbx0
import Derived.Test.YteikfmoklpokhaaQbEqsG
import Derived.Test.YteikfmoklpokhaaQbEquil
import Derived.Test.YteikfmoklpokhaaQbRowsIn
import Derived.Test.YteikfmoklpokhaaQbWalkFnExactColumnReplies
namespace Go.Proofs.Yteikfmoklpokhaa.Pure
open Go.RowKit Go.Proofs.Yteikfmoklpokhaa.All Go.Proofs.Yteikfmoklpokhaa.Eqs Go.Proofs.Yteikfmoklpokhaa.Games Go.Proofs.Yteikfmoklpokhaa.RowsIn Go.Proofs.YteikfmoklpokhaaW.PrintWords Go.Proofs.YteikfmoklpokhaaW.PrintLast
theorem FnExactColumnReplies (A0 : Option Addr) (len0 cap0 : Nat) (l0 : List (List Int)) (B0 : Option Addr) (lenb0 capb0 : Nat) (m0 : List (List Int)) (A1 : Option Addr) (len1 cap1 : Nat) (l1 : List Int) (w : World) (H0 : Lists w A0 len0 cap0 l0) (J0 : Lists w B0 lenb0 capb0 m0) (H1 : Ints w A1 len1 cap1 l1) :
    Calls Try.prog 10 #[.agg #[.slice A0 len0 cap0, .slice B0 lenb0 capb0], .slice A1 len1 cap1] w fun e w' => e = .returned (.bool true) ∧ Below w.heap.size w w' := by
  obtain ⟨rfl, hr0, hc0, hm0, hml0, _⟩ := H0
  obtain ⟨rfl, hrb0, hcb0, hmb0, hmlb0, _⟩ := J0
  obtain ⟨rfl, hr1, hc1, _, _⟩ := H1
  by_cases hlen1 : 1048576 < l1.length
  · exact Walk.ColumnReplies.long0 4000000 A0 cap0 l0 B0 capb0 m0 A1 cap1 l1 w hr0 hc0 hrb0 hcb0 hr1 hc1  hlen1
  obtain ⟨r, hsm, hr⟩ := szGame_is l0 m0 hm0 hmb0 hml0 hmlb0
  by_cases h0 : r < 0
  · exact Walk.ColumnReplies.sz 4000000 A0 cap0 l0 B0 capb0 m0 A1 cap1 l1 w hr0 hc0 hrb0 hcb0 hr1 hc1 r (hr _ (by omega)) h0 (by omega)
  obtain ⟨hs0, hsb0⟩ := hsm (by omega)
  obtain ⟨o0, o1, ho0, K, hx⟩ := columnReplies_same l0 m0 l1 hs0 hsb0 (by omega)
  exact Walk.ColumnReplies.main (K + 4000000) A0 cap0 l0 B0 capb0 m0 A1 cap1 l1 w hr0 hc0 hrb0 hcb0 hr1 hc1 r (hr _ (by omega)) (by omega) (by omega) o0 o1 hs0 hsb0 (by omega) ho0 (hx _ (by omega)).1 (hx _ (by omega)).2
end Go.Proofs.Yteikfmoklpokhaa.Pure

