/- Weights and signs of fixed points: the reference's and the program's come to the same. -/
import Derived.Test.YtmodnjljgcmdlaaQWx0
import Derived.Test.YtmodnjljgcmdlaaQWx7
import Derived.Test.YtmodnjljgcmdlaaQWx1
import Derived.Test.YtmodnjljgcmdlaaQWEqsR
import Derived.Test.YtmodnjljgcmdlaaQWMapA
import Derived.Test.YtmodnjljgcmdlaaQWMapMs0
import Derived.Test.YtmodnjljgcmdlaaQWMapMs2
import Derived.Test.YtmodnjljgcmdlaaQWMapWs0
namespace Go.Proofs.Ytmodnjljgcmdlaa.Maps
open Go.RowKit Go.Proofs.Ytmodnjljgcmdlaa.All Go.Proofs.Ytmodnjljgcmdlaa.Eqs Go.Proofs.Ytmodnjljgcmdlaa.L1 Go.Proofs.YtmodnjljgcmdlaaW.PrintWords Go.Proofs.YtmodnjljgcmdlaaW.PrintLast Go.Proofs.YtmodnjljgcmdlaaW.PrintMore
/-! #### divisors -/












/-! #### a cell -/






theorem fixedS (n : Int) (ls : List (List Int)) (hs : Small ls) (c : Int) : goodP n ls = false ∨ inB 0 (topCell n) c = false → Ev (fun k => spec_fxFixed.f k n ls c) false := by
  intro h
  have h1 := specAsked n ls hs c
  rw [show (goodP n ls && inB 0 (topCell n) c) = false by rcases h with h | h <;> simp [h]] at h1
  refine Ev.congr (fun k => by unfold spec_fxFixed.f; rfl) (Ev.bind h1 ?_)
  exact Ev.now _

/-! #### signs -/






/-! #### regular images, told -/






end Go.Proofs.Ytmodnjljgcmdlaa.Maps

