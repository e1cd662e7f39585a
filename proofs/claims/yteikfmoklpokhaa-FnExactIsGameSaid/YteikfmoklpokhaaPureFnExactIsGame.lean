/- For every game the law on IsGame answers true. -/
import Derived.Test.YteikfmoklpokhaaAllx10
import Derived.Test.YteikfmoklpokhaaGame
import Derived.Test.YteikfmoklpokhaaEqsG
import Derived.Test.YteikfmoklpokhaaRowsIn
namespace Go.Proofs.Yteikfmoklpokhaa.Pure
open Go.RowKit Go.Proofs.Yteikfmoklpokhaa.All Go.Proofs.Yteikfmoklpokhaa.Eqs Go.Proofs.Yteikfmoklpokhaa.Games Go.Proofs.Yteikfmoklpokhaa.RowsIn Go.Proofs.YteikfmoklpokhaaW.PrintWords Go.Proofs.YteikfmoklpokhaaW.PrintLast
theorem toldIsGame (a b : List (List Int)) (ha : a.length ≤ maxLen) (hb : b.length ≤ maxLen) (hma : ∀ l ∈ a, l.length ≤ maxLen) (hmb : ∀ l ∈ b, l.length ≤ maxLen) : laws_FnExactIsGame.f 4000000 a b = some true := by
  obtain ⟨r, hs, hr⟩ := szGame_is a b ha hb hma hmb
  unfold laws_FnExactIsGame.f
  rw [hr _ (by omega), Option.bind_some]
  by_cases h : r < 0
  · rw [if_pos h]
  · obtain ⟨h1, h2⟩ := hs (by omega)
    rw [if_neg h, toGame_is a b h1 h2 _ (by omega)]
    simp only [Option.bind_some]
    rw [impl_game, show spec_IsGame.f 4000000 a b = some (game a b) by unfold spec_IsGame.f; rw [spec_game a b h1 h2 _ (by omega)]; rfl]
    simp only [Option.bind_some, bne_self_eq_false]
    rw [if_neg (by decide), eqGame_same a b h1 h2 _ (by omega)]
    rfl
theorem FnExactIsGame (A0 : Option Addr) (len0 cap0 : Nat) (l0 : List (List Int)) (B0 : Option Addr) (lenb0 capb0 : Nat) (m0 : List (List Int)) (w : World) (H0 : Lists w A0 len0 cap0 l0) (J0 : Lists w B0 lenb0 capb0 m0) :
    Calls Try.prog 4 #[.agg #[.slice A0 len0 cap0, .slice B0 lenb0 capb0]] w fun e w' => e = .returned (.bool true) ∧ Below w.heap.size w w' := by
  obtain ⟨rfl, hr1, hc1, hm1, hml1, _⟩ := H0
  obtain ⟨rfl, hr2, hc2, hm2, hml2, _⟩ := J0
  exact laws_FnExactIsGame.calls 4000000 A0 cap0 l0 B0 capb0 m0 true w hr1 hc1 hr2 hc2 (toldIsGame l0 m0 hm1 hm2 hml1 hml2)
end Go.Proofs.Yteikfmoklpokhaa.Pure
