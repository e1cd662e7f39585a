/- For all arguments the law on FavouriteOf answers true: the reference and the program come to the same. -/
import Derived.Test.YtbbkohmebjcghaaQax0
import Derived.Test.YtbbkohmebjcghaaQax4
import Derived.Test.YtbbkohmebjcghaaQaBase
import Derived.Test.YtbbkohmebjcghaaQaCake
import Derived.Test.YtbbkohmebjcghaaQaRowsIn
namespace Go.Proofs.Ytbbkohmebjcghaa.Pure
open Go.RowKit Go.Proofs.Ytbbkohmebjcghaa.All Go.Proofs.Ytbbkohmebjcghaa.Eqs Go.Proofs.Ytbbkohmebjcghaa.Cake Go.Proofs.Ytbbkohmebjcghaa.RowsIn Go.Proofs.YtbbkohmebjcghaaW.PrintWords Go.Proofs.YtbbkohmebjcghaaW.PrintLast
theorem toldFavouriteOf (n : Int) (ls : List (List Int)) (p i : Int) (hl : ls.length ≤ maxLen) (hm : ∀ l ∈ ls, l.length ≤ maxLen) : laws_FnExactFavouriteOf.f 4000000 n ls p i = some true := by
  unfold laws_FnExactFavouriteOf.f
  rcases szIntSS_is ls hl hm with hneg | ⟨hs, hpos⟩
  · obtain ⟨r, hr, h0⟩ := hneg 4000000 (by omega)
    rw [hr, Option.bind_some, if_pos h0]
  · obtain ⟨r, hr, h0⟩ := hpos 4000000 (by omega)
    obtain ⟨x, b, hx⟩ := favouriteOf_same n ls p i hs
    rw [hr, Option.bind_some, if_neg (by omega), toIntSS_is ls hs _ (by omega), Option.bind_some, (hx _ (by omega)).1, Option.bind_some, Option.bind_some, (hx _ (by omega)).2, Option.bind_some]
    simp only [bne_self_eq_false]
    rw [if_pos trivial]
    simp only [laws_FnExactFavouriteOf.j0]
    rw [if_neg (by decide), toIntSS_is ls hs _ (by omega), Option.bind_some, eqIntSS_same ls hs _ (by omega)]
    rfl
theorem FnExactFavouriteOf (a0 : Int) (A1 : Option Addr) (len1 cap1 : Nat) (l1 : List (List Int)) (a2 a3 : Int) (w : World) (_ : (Lit.int .i64 a0).wf = true) (H1 : Lists w A1 len1 cap1 l1) (_ : (Lit.int .i64 a2).wf = true) (_ : (Lit.int .i64 a3).wf = true) :
    Calls Try.prog 5 #[.int .i64 a0, .slice A1 len1 cap1, .int .i64 a2, .int .i64 a3] w fun e w' => e = .returned (.bool true) ∧ Below w.heap.size w w' := by
  obtain ⟨rfl, hr1, hc1, hm1, hml1, _⟩ := H1
  exact laws_FnExactFavouriteOf.calls 4000000 a0 A1 cap1 l1 a2 a3 true w hr1 hc1 (toldFavouriteOf a0 l1 a2 a3 hm1 hml1)
end Go.Proofs.Ytbbkohmebjcghaa.Pure

