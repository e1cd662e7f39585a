/- For all arguments the law on AreImages answers true. -/
import Derived.Test.YtmodnjljgcmdlaaAllx7
import Derived.Test.YtmodnjljgcmdlaaMapA
import Derived.Test.YtmodnjljgcmdlaaRowsIn
namespace Go.Proofs.Ytmodnjljgcmdlaa.Pure
open Go.RowKit Go.Proofs.Ytmodnjljgcmdlaa.All Go.Proofs.Ytmodnjljgcmdlaa.Eqs Go.Proofs.Ytmodnjljgcmdlaa.Maps Go.Proofs.Ytmodnjljgcmdlaa.RowsIn Go.Proofs.YtmodnjljgcmdlaaW.PrintWords Go.Proofs.YtmodnjljgcmdlaaW.PrintLast
theorem toldAreImages (n : Int) (ls : List (List Int)) (hl : ls.length ≤ maxLen) (hm : ∀ l ∈ ls, l.length ≤ maxLen) : ∃ k, laws_FnExactAreImages.f k n ls = some true := by
  rcases szIntSS_is ls hl hm with hneg | ⟨hs, hpos⟩
  · obtain ⟨r, hr, h0⟩ := hneg 4000000 (by omega)
    exact ⟨4000000, by unfold laws_FnExactAreImages.f; rw [hr, Option.bind_some, if_pos h0]⟩
  · have h1 : Ev (fun k => spec_AreImages.f k n ls) (goodP n ls) := Ev.bind (specGood n ls hs) (Ev.now _)
    obtain ⟨K, hK⟩ := both h1 (implGood n ls)
    obtain ⟨r, hr, h0⟩ := hpos (K + 4000000) (by omega)
    have hx := hK (K + 4000000) (by omega)
    refine ⟨K + 4000000, ?_⟩
    have hq : 4000000 ≤ K + 4000000 := by omega
    generalize K + 4000000 = q at hx hr hq
    unfold laws_FnExactAreImages.f
    rw [hr, Option.bind_some, if_neg (by omega), toIntSS_is ls hs _ (by omega), Option.bind_some, hx.1, Option.bind_some, Option.bind_some, hx.2, Option.bind_some]
    simp only [bne_self_eq_false]
    rw [if_neg (by decide), Option.bind_some, eqIntSS_same ls hs _ (by omega)]
    rfl
theorem FnExactAreImages (a0 : Int) (A1 : Option Addr) (len1 cap1 : Nat) (l1 : List (List Int)) (w : World) (_ : (Lit.int .i64 a0).wf = true) (H1 : Lists w A1 len1 cap1 l1) :
    Calls Try.prog 3 #[.int .i64 a0, .slice A1 len1 cap1] w fun e w' => e = .returned (.bool true) ∧ Below w.heap.size w w' := by
  obtain ⟨rfl, hr1, hc1, hm1, hml1, _⟩ := H1
  obtain ⟨k, hk⟩ := toldAreImages a0 l1 hm1 hml1
  exact laws_FnExactAreImages.calls k a0 A1 cap1 l1 true w hr1 hc1 hk
end Go.Proofs.Ytmodnjljgcmdlaa.Pure
