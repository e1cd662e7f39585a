/- impl.SwapPlayers: its two tables lie in ranges of blocks apart. -/
import Derived.Test.YteikfmoklpokhaaQAx0
import Derived.Test.YteikfmoklpokhaaQAx5
import Derived.Test.YteikfmoklpokhaaQAEqsR
import Derived.Test.YteikfmoklpokhaaQAOwn
import Derived.Test.YteikfmoklpokhaaQAOwnH
import Derived.Test.YteikfmoklpokhaaQAEqs
namespace Go.Proofs.Yteikfmoklpokhaa.Own
open Go.RowKit Go.Proofs.Yteikfmoklpokhaa.All Go.Proofs.Yteikfmoklpokhaa.Eqs Go.Proofs.YteikfmoklpokhaaW.PrintWords Go.Proofs.YteikfmoklpokhaaW.PrintLast Go.Proofs.YteikfmoklpokhaaW.PrintMore
set_option linter.unusedVariables false
set_option linter.unusedSimpArgs false


attribute [local go_sem] max2_int min2_int max_two min_two max_three min_three max_four min_four
theorem heldG (k : Nat) (w : World) (lo hi lo2 hi2 : Nat) (A : Option Addr) (n c : Nat) (A2 : Option Addr) (n2 c2 : Nat) (ls ms : List (List Int)) (a m : Int) (h : OS w lo hi (.slice A n c) (marksS ls a)) (h2 : OS w lo2 hi2 (.slice A2 n2 c2) (marksS ms (a + (total ls : Int)))) (hs : Small ls) (hs2 : Small ms) (ha : 0 ≤ a) (ha2 : a ≤ 562949953421312) (hm : m = a + (total ls : Int) + (total ms : Int)) (hk : 3000000 < k) :
    Calls Try.prog 30 #[.agg #[.slice A n c, .slice A2 n2 c2], .int .i64 a] w fun e w' => e = .returned (.int .i64 m) ∧ Below w.heap.size w w' := by
  subst hm
  have hr := h.reads
  have hr2 := h2.reads
  have e : n = (marksS ls a).length := hr.1
  have e2 : n2 = (marksS ms (a + (total ls : Int))).length := hr2.1
  subst e e2
  have ht := total_small hs
  have hf : laws_heldGame.f k (marksS ls a) (marksS ms (a + (total ls : Int))) a = some (a + (total ls : Int) + (total ms : Int)) := by
    have q1 := heldSS_is ls hs a ha (by omega) k hk
    have q2 := heldSS_is ms hs2 (a + (total ls : Int)) (by omega) (by omega) k hk
    unfold laws_heldGame.f
    have t2 := total_small hs2
    rw [q1, Option.bind_some, if_neg (by omega), q2, Option.bind_some, if_neg (by omega)]
  refine (laws_heldGame.calls k A c (marksS ls a) A2 c2 (marksS ms (a + (total ls : Int))) a (a + (total ls : Int) + (total ms : Int)) w hr.2.2 hr.2.1 hr2.2.2 hr2.2.1 hf).mono ?_
  rintro e w' ⟨rfl, hd⟩
  refine ⟨rfl, ?_⟩
  first | exact hd | (obtain ⟨q, rfl⟩ := hd; exact pw_below_drewN (Below.refl _ _) _)

end Go.Proofs.Yteikfmoklpokhaa.Own

