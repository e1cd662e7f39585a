/- For all arguments the law on SignsOfFixed answers true: the reference and the program come to the same. -/
import Derived.Test.YtdcdjhbmdbghiaaQSx0
import Derived.Test.YtdcdjhbmdbghiaaQSEqsR
import Derived.Test.YtdcdjhbmdbghiaaQSMapS
import Derived.Test.YtdcdjhbmdbghiaaQSOwn
import Derived.Test.YtdcdjhbmdbghiaaQSRowsIn
import Derived.Test.YtdcdjhbmdbghiaaQSWalkFnExactSignsOfFixed
namespace Go.Proofs.Ytdcdjhbmdbghiaa.Pure
open Go.RowKit Go.Proofs.Ytdcdjhbmdbghiaa.All Go.Proofs.Ytdcdjhbmdbghiaa.Eqs Go.Proofs.Ytdcdjhbmdbghiaa.Maps Go.Proofs.Ytdcdjhbmdbghiaa.RowsIn Go.Proofs.YtdcdjhbmdbghiaaW.PrintWords Go.Proofs.YtdcdjhbmdbghiaaW.PrintLast
theorem FnExactSignsOfFixed (a0 : Int) (A1 : Option Addr) (len1 cap1 : Nat) (l1 : List (List Int)) (w : World) (_ : (Lit.int .i64 a0).wf = true) (H1 : Lists w A1 len1 cap1 l1) :
    Calls Try.prog 3 #[.int .i64 a0, .slice A1 len1 cap1] w fun e w' => e = .returned (.bool true) ∧ Below w.heap.size w w' := by
  obtain ⟨rfl, hr1, hc1, hm1, hml1, _⟩ := H1
  rcases szIntSS_is l1 hm1 hml1 with hneg | ⟨hs1, hpos⟩
  · obtain ⟨r, hr, h0⟩ := hneg 4000000 (by omega)
    exact Walk.SignsOfFixed.sz 4000000 a0 A1 cap1 l1 w hr1 hc1 r hr h0 
  obtain ⟨o0, o1, ho0, K, hx⟩ := signsOfFixed_same a0 l1 hs1 
  obtain ⟨r, hr, h0⟩ := hpos (K + 4000000) (by omega)
  exact Walk.SignsOfFixed.main (K + 4000000) a0 A1 cap1 l1 w hr1 hc1 r hr h0 (by omega) o0 o1 hs1  ho0 (hx _ (by omega)).1 (hx _ (by omega)).2
end Go.Proofs.Ytdcdjhbmdbghiaa.Pure

