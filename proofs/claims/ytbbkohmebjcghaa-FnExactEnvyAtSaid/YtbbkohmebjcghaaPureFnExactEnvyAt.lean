/- For all arguments the law on EnvyAt answers true: the reference and the program come to the same number. -/
import Derived.Test.YtbbkohmebjcghaaEnvx21
import Derived.Test.YtbbkohmebjcghaaCakeD
import Derived.Test.YtbbkohmebjcghaaRowsIn
namespace Go.Proofs.Ytbbkohmebjcghaa.Pure
open Go.RowKit Go.Proofs.Ytbbkohmebjcghaa.Env Go.Proofs.Ytbbkohmebjcghaa.Eqs Go.Proofs.Ytbbkohmebjcghaa.Cake Go.Proofs.Ytbbkohmebjcghaa.RowsIn Go.Proofs.YtbbkohmebjcghaaW.PrintWords Go.Proofs.YtbbkohmebjcghaaW.PrintLast
theorem toldEnvyAt (n : Int) (ls : List (List Int)) (i : Int) (own : List Int) (hl : ls.length ≤ maxLen) (hm : ∀ l ∈ ls, l.length ≤ maxLen) : laws_FnExactEnvyAt.f 4000000 n ls i own = some true := by
  unfold laws_FnExactEnvyAt.f
  by_cases h : (own.length : Int) > 1048576
  · rw [if_pos h]
  · rw [if_neg h]
    rcases szIntSS_is ls hl hm with hneg | ⟨hs, hpos⟩
    · obtain ⟨r, hr, h0⟩ := hneg 4000000 (by omega)
      rw [hr, Option.bind_some, if_pos h0]
    · obtain ⟨r, hr, h0⟩ := hpos 4000000 (by omega)
      obtain ⟨x, b, hx⟩ := envyAt_same n ls i own hs
      rw [hr, Option.bind_some, if_neg (by omega), toIntSS_is ls hs _ (by omega), Option.bind_some, toIntS_is own (by omega) _ (by omega), Option.bind_some, (hx _ (by omega)).1, Option.bind_some, Option.bind_some, Option.bind_some, (hx _ (by omega)).2, Option.bind_some]
      simp only [bne_self_eq_false]
      rw [if_pos trivial]
      simp only [laws_FnExactEnvyAt.j0]
      rw [if_neg (by decide), toIntSS_is ls hs _ (by omega), Option.bind_some, eqIntSS_same ls hs _ (by omega), Option.bind_some, if_pos rfl, toIntS_is own (by omega) _ (by omega), Option.bind_some, eqIntS_same own (by omega) _ (by omega)]
      rfl
theorem FnExactEnvyAt (a0 : Int) (A1 : Option Addr) (len1 cap1 : Nat) (l1 : List (List Int)) (a2 : Int) (A3 : Option Addr) (len3 cap3 : Nat) (l3 : List Int) (w : World) (_ : (Lit.int .i64 a0).wf = true) (H1 : Lists w A1 len1 cap1 l1) (_ : (Lit.int .i64 a2).wf = true) (H3 : Ints w A3 len3 cap3 l3) :
    Calls Try.prog 10 #[.int .i64 a0, .slice A1 len1 cap1, .int .i64 a2, .slice A3 len3 cap3] w fun e w' => e = .returned (.bool true) ∧ Below w.heap.size w w' := by
  obtain ⟨rfl, hr1, hc1, hm1, hml1, _⟩ := H1
  obtain ⟨rfl, hr3, hc3, _, _⟩ := H3
  exact laws_FnExactEnvyAt.calls 4000000 a0 A1 cap1 l1 a2 A3 cap3 l3 true w hr1 hc1 hr3 hc3 (toldEnvyAt a0 l1 a2 l3 hm1 hml1)
end Go.Proofs.Ytbbkohmebjcghaa.Pure
