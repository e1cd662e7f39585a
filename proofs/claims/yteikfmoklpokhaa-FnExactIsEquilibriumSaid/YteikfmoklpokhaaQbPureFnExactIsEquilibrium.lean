/- For every game and weights the law on IsEquilibrium answers true. -/
import Derived.Test.YteikfmoklpokhaaQbx0
import Derived.Test.YteikfmoklpokhaaQbx12
import Derived.Test.YteikfmoklpokhaaQbEqs
import Derived.Test.YteikfmoklpokhaaQbEqsG
import Derived.Test.YteikfmoklpokhaaQbEquil
import Derived.Test.YteikfmoklpokhaaQbGame
import Derived.Test.YteikfmoklpokhaaQbRowsIn
import Derived.Test.YteikfmoklpokhaaQbToInt
import Derived.Test.YteikfmoklpokhaaQbWeights
namespace Go.Proofs.Yteikfmoklpokhaa.Pure
open Go.RowKit Go.Proofs.Yteikfmoklpokhaa.All Go.Proofs.Yteikfmoklpokhaa.Eqs Go.Proofs.Yteikfmoklpokhaa.Games Go.Proofs.Yteikfmoklpokhaa.RowsIn Go.Proofs.YteikfmoklpokhaaW.PrintWords Go.Proofs.YteikfmoklpokhaaW.PrintLast
theorem toldIsEquilibrium (a b : List (List Int)) (x y : List Int) (ha : a.length ≤ maxLen) (hb : b.length ≤ maxLen) (hma : ∀ l ∈ a, l.length ≤ maxLen) (hmb : ∀ l ∈ b, l.length ≤ maxLen) : ∃ k, laws_FnExactIsEquilibrium.f k a b x y = some true := by
  by_cases g1 : (x.length : Int) > 1048576
  · exact ⟨1, by unfold laws_FnExactIsEquilibrium.f; rw [if_pos g1]⟩
  by_cases g2 : (y.length : Int) > 1048576
  · exact ⟨1, by unfold laws_FnExactIsEquilibrium.f; rw [if_neg g1, if_pos g2]⟩
  obtain ⟨r, hs, hr⟩ := szGame_is a b ha hb hma hmb
  by_cases h : r < 0
  · exact ⟨4000000, by unfold laws_FnExactIsEquilibrium.f; rw [if_neg g1, if_neg g2, hr _ (by omega), Option.bind_some, if_pos h]⟩
  obtain ⟨h1, h2⟩ := hs (by omega)
  obtain ⟨p, t, K, hk⟩ := isEquilibrium_same a b x y h1 h2 (by omega) (by omega)
  have hK := hk (K + 4000000) (by omega)
  have hq : 4000000 ≤ K + 4000000 := by omega
  refine ⟨K + 4000000, ?_⟩
  generalize K + 4000000 = q at hK hq
  unfold laws_FnExactIsEquilibrium.f
  rw [if_neg g1, if_neg g2, hr _ (by omega), Option.bind_some]
  rw [if_neg h, toGame_is a b h1 h2 _ (by omega), toIntS_is x (by omega) _ (by omega), toIntS_is y (by omega) _ (by omega)]
  simp only [Option.bind_some]
  rw [hK.1, hK.2]
  obtain ⟨q, rfl⟩ : ∃ m, q = m + 1 := ⟨q - 1, by omega⟩
  simp only [Option.bind_some, if_true, bne_self_eq_false, laws_FnExactIsEquilibrium.j0, Bool.false_eq_true, if_false]
  rw [toGame_is a b h1 h2 _ (by omega)]
  simp only [Option.bind_some]
  rw [eqGame_same a b h1 h2 _ (by omega), toIntS_is x (by omega) _ (by omega), toIntS_is y (by omega) _ (by omega)]
  simp only [Option.bind_some, if_true]
  rw [eqIntS_same x (by omega) _ (by omega), eqIntS_same y (by omega) _ (by omega)]
  simp
theorem FnExactIsEquilibrium (A0 : Option Addr) (len0 cap0 : Nat) (l0 : List (List Int)) (B0 : Option Addr) (lenb0 capb0 : Nat) (m0 : List (List Int)) (A1 : Option Addr) (len1 cap1 : Nat) (l1 : List Int) (A2 : Option Addr) (len2 cap2 : Nat) (l2 : List Int) (w : World) (H0 : Lists w A0 len0 cap0 l0) (J0 : Lists w B0 lenb0 capb0 m0) (H1 : Ints w A1 len1 cap1 l1) (H2 : Ints w A2 len2 cap2 l2) :
    Calls Try.prog 11 #[.agg #[.slice A0 len0 cap0, .slice B0 lenb0 capb0], .slice A1 len1 cap1, .slice A2 len2 cap2] w fun e w' => e = .returned (.bool true) ∧ Below w.heap.size w w' := by
  obtain ⟨rfl, hr1, hc1, hm1, hml1, _⟩ := H0
  obtain ⟨rfl, hr2, hc2, hm2, hml2, _⟩ := J0
  obtain ⟨rfl, hr3, hc3, _, _⟩ := H1
  obtain ⟨rfl, hr4, hc4, _, _⟩ := H2
  obtain ⟨k, hk⟩ := toldIsEquilibrium l0 m0 l1 l2 hm1 hm2 hml1 hml2
  exact laws_FnExactIsEquilibrium.calls k A0 cap0 l0 B0 capb0 m0 A1 cap1 l1 A2 cap2 l2 true w hr1 hc1 hr2 hc2 hr3 hc3 hr4 hc4 hk
end Go.Proofs.Yteikfmoklpokhaa.Pure

