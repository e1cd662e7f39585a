/-
  No cell of these rows narrows 'for every input' (looked for: loops, veiled, ifaces, maps, wideKeys, modest, calm, conditions, laid).
  DERIVED. THE GIVEN ROWS OF THIS SEAT. 11 by the template 'for every input the law returns true; each argument reads behind the call as it read before'; 0 by the template 'total and deterministic' (their statements: YteikfmoklpokhaaTotals.lean).
  GIVEN WITH THE SEED: the statements are not yours to turn. If you find one false, say at which input.
  Laid BY PROGRAM, IN A SANDBOX (cutbox-rows.mjs): the forced cells as the released guide's own fill.sh prints them over the translation b5767579c789e20d… (all of the seat's roots in one cut). By AI agents, Wed Nov 11 2026. No macro, syntax, notation, axiom, sorry.
-/
import Derived.Test.YteikfmoklpokhaaChecked
import GoSem.Claim
import GoSem.ClaimJoined
import GoSem.ClaimMapViews
import Derived.JoinedTies
import Derived.KernelRfl
namespace Go.Proofs.Yteikfmoklpokhaa
/- THE CELL 'sum', in the pinned program and in every row, IS THE sha256 OF THE DUMP (.gsa) THAT YteikfmoklpokhaaProg.lean LOADS. Nothing in Lean hashes anything: it is a label: what it is worth is what the hold of that sum in a sandbox is worth. -/
noncomputable def Try.pinned : Pinned := { name := "yteikfmoklpokhaa", sum := "b5767579c789e20d30aa00049e1e51e0667ae9639db7fab63108c9f33427da8c", checked := Try.checked }
namespace Rows
def none {H : Type} : Left H := { results := [], args := [] }

/-- 'laws.FnExactAreWeights': WHATEVER THE INPUT: true; the input reads as it did. -/
def fnExactAreWeightsSpec : ChangeSpec := { name := "fnExactAreWeights", fn := fun _ => fun
  | [d1, d2] => { results := [.lit (.bool true)], args := [d1, d2] }
  | _ => none }
def fnExactAreWeightsRow : OpenClaim := { program := "yteikfmoklpokhaa", sum := "b5767579c789e20d30aa00049e1e51e0667ae9639db7fab63108c9f33427da8c", func := "loop.example/g01160/laws.FnExactAreWeights", spec := "fnExactAreWeights", unfollowed := true, recurses := true, apart := false }
def FnExactAreWeightsSaid : Prop := fnExactAreWeightsRow.holds Try.pinned (OpenSpec.ofChange fnExactAreWeightsSpec)

/-- ITS FALSE NEIGHBOUR: 'it returns false'. Refute it at one input. -/
def fnExactAreWeightsWrong : ChangeSpec := { name := "fnExactAreWeights", fn := fun _ => fun
  | [d1, d2] => { results := [.lit (.bool false)], args := [d1, d2] }
  | _ => none }
def FnExactAreWeightsWrongFalsely : Prop := fnExactAreWeightsRow.holds Try.pinned (OpenSpec.ofChange fnExactAreWeightsWrong)

/-- 'laws.FnExactIsGame': WHATEVER THE INPUT: true; the input reads as it did. -/
def fnExactIsGameSpec : ChangeSpec := { name := "fnExactIsGame", fn := fun _ => fun
  | [d] => { results := [.lit (.bool true)], args := [d] }
  | _ => none }
def fnExactIsGameRow : OpenClaim := { program := "yteikfmoklpokhaa", sum := "b5767579c789e20d30aa00049e1e51e0667ae9639db7fab63108c9f33427da8c", func := "loop.example/g01160/laws.FnExactIsGame", spec := "fnExactIsGame", unfollowed := true, recurses := true, apart := false }
def FnExactIsGameSaid : Prop := fnExactIsGameRow.holds Try.pinned (OpenSpec.ofChange fnExactIsGameSpec)

/-- ITS FALSE NEIGHBOUR: 'it returns false'. Refute it at one input. -/
def fnExactIsGameWrong : ChangeSpec := { name := "fnExactIsGame", fn := fun _ => fun
  | [d] => { results := [.lit (.bool false)], args := [d] }
  | _ => none }
def FnExactIsGameWrongFalsely : Prop := fnExactIsGameRow.holds Try.pinned (OpenSpec.ofChange fnExactIsGameWrong)

/-- 'laws.FnExactZeroSum': WHATEVER THE INPUT: true; the input reads as it did. -/
def fnExactZeroSumSpec : ChangeSpec := { name := "fnExactZeroSum", fn := fun _ => fun
  | [d] => { results := [.lit (.bool true)], args := [d] }
  | _ => none }
def fnExactZeroSumRow : OpenClaim := { program := "yteikfmoklpokhaa", sum := "b5767579c789e20d30aa00049e1e51e0667ae9639db7fab63108c9f33427da8c", func := "loop.example/g01160/laws.FnExactZeroSum", spec := "fnExactZeroSum", unfollowed := true, recurses := true, apart := false }
def FnExactZeroSumSaid : Prop := fnExactZeroSumRow.holds Try.pinned (OpenSpec.ofChange fnExactZeroSumSpec)

/-- ITS FALSE NEIGHBOUR: 'it returns false'. Refute it at one input. -/
def fnExactZeroSumWrong : ChangeSpec := { name := "fnExactZeroSum", fn := fun _ => fun
  | [d] => { results := [.lit (.bool false)], args := [d] }
  | _ => none }
def FnExactZeroSumWrongFalsely : Prop := fnExactZeroSumRow.holds Try.pinned (OpenSpec.ofChange fnExactZeroSumWrong)

/-- 'laws.FnExactSwapPlayers': WHATEVER THE INPUT: true; the input reads as it did. -/
def fnExactSwapPlayersSpec : ChangeSpec := { name := "fnExactSwapPlayers", fn := fun _ => fun
  | [d] => { results := [.lit (.bool true)], args := [d] }
  | _ => none }
def fnExactSwapPlayersRow : OpenClaim := { program := "yteikfmoklpokhaa", sum := "b5767579c789e20d30aa00049e1e51e0667ae9639db7fab63108c9f33427da8c", func := "loop.example/g01160/laws.FnExactSwapPlayers", spec := "fnExactSwapPlayers", unfollowed := true, recurses := true, apart := false }
def FnExactSwapPlayersSaid : Prop := fnExactSwapPlayersRow.holds Try.pinned (OpenSpec.ofChange fnExactSwapPlayersSpec)

/-- ITS FALSE NEIGHBOUR: 'it returns false'. Refute it at one input. -/
def fnExactSwapPlayersWrong : ChangeSpec := { name := "fnExactSwapPlayers", fn := fun _ => fun
  | [d] => { results := [.lit (.bool false)], args := [d] }
  | _ => none }
def FnExactSwapPlayersWrongFalsely : Prop := fnExactSwapPlayersRow.holds Try.pinned (OpenSpec.ofChange fnExactSwapPlayersWrong)

/-- 'laws.FnExactPayOf': WHATEVER THE INPUT: true; the input reads as it did. -/
def fnExactPayOfSpec : ChangeSpec := { name := "fnExactPayOf", fn := fun _ => fun
  | [d1, d2, d3] => { results := [.lit (.bool true)], args := [d1, d2, d3] }
  | _ => none }
def fnExactPayOfRow : OpenClaim := { program := "yteikfmoklpokhaa", sum := "b5767579c789e20d30aa00049e1e51e0667ae9639db7fab63108c9f33427da8c", func := "loop.example/g01160/laws.FnExactPayOf", spec := "fnExactPayOf", unfollowed := true, recurses := true, apart := false }
def FnExactPayOfSaid : Prop := fnExactPayOfRow.holds Try.pinned (OpenSpec.ofChange fnExactPayOfSpec)

/-- ITS FALSE NEIGHBOUR: 'it returns false'. Refute it at one input. -/
def fnExactPayOfWrong : ChangeSpec := { name := "fnExactPayOf", fn := fun _ => fun
  | [d1, d2, d3] => { results := [.lit (.bool false)], args := [d1, d2, d3] }
  | _ => none }
def FnExactPayOfWrongFalsely : Prop := fnExactPayOfRow.holds Try.pinned (OpenSpec.ofChange fnExactPayOfWrong)

/-- 'laws.FnExactAddToColumn': WHATEVER THE INPUT: true; the input reads as it did. -/
def fnExactAddToColumnSpec : ChangeSpec := { name := "fnExactAddToColumn", fn := fun _ => fun
  | [d1, d2, d3] => { results := [.lit (.bool true)], args := [d1, d2, d3] }
  | _ => none }
def fnExactAddToColumnRow : OpenClaim := { program := "yteikfmoklpokhaa", sum := "b5767579c789e20d30aa00049e1e51e0667ae9639db7fab63108c9f33427da8c", func := "loop.example/g01160/laws.FnExactAddToColumn", spec := "fnExactAddToColumn", unfollowed := true, recurses := true, apart := false }
def FnExactAddToColumnSaid : Prop := fnExactAddToColumnRow.holds Try.pinned (OpenSpec.ofChange fnExactAddToColumnSpec)

/-- ITS FALSE NEIGHBOUR: 'it returns false'. Refute it at one input. -/
def fnExactAddToColumnWrong : ChangeSpec := { name := "fnExactAddToColumn", fn := fun _ => fun
  | [d1, d2, d3] => { results := [.lit (.bool false)], args := [d1, d2, d3] }
  | _ => none }
def FnExactAddToColumnWrongFalsely : Prop := fnExactAddToColumnRow.holds Try.pinned (OpenSpec.ofChange fnExactAddToColumnWrong)

/-- 'laws.FnExactRowReplies': WHATEVER THE INPUT: true; the input reads as it did. -/
def fnExactRowRepliesSpec : ChangeSpec := { name := "fnExactRowReplies", fn := fun _ => fun
  | [d1, d2] => { results := [.lit (.bool true)], args := [d1, d2] }
  | _ => none }
def fnExactRowRepliesRow : OpenClaim := { program := "yteikfmoklpokhaa", sum := "b5767579c789e20d30aa00049e1e51e0667ae9639db7fab63108c9f33427da8c", func := "loop.example/g01160/laws.FnExactRowReplies", spec := "fnExactRowReplies", unfollowed := true, recurses := true, apart := false }
def FnExactRowRepliesSaid : Prop := fnExactRowRepliesRow.holds Try.pinned (OpenSpec.ofChange fnExactRowRepliesSpec)

/-- ITS FALSE NEIGHBOUR: 'it returns false'. Refute it at one input. -/
def fnExactRowRepliesWrong : ChangeSpec := { name := "fnExactRowReplies", fn := fun _ => fun
  | [d1, d2] => { results := [.lit (.bool false)], args := [d1, d2] }
  | _ => none }
def FnExactRowRepliesWrongFalsely : Prop := fnExactRowRepliesRow.holds Try.pinned (OpenSpec.ofChange fnExactRowRepliesWrong)

/-- 'laws.FnExactColumnReplies': WHATEVER THE INPUT: true; the input reads as it did. -/
def fnExactColumnRepliesSpec : ChangeSpec := { name := "fnExactColumnReplies", fn := fun _ => fun
  | [d1, d2] => { results := [.lit (.bool true)], args := [d1, d2] }
  | _ => none }
def fnExactColumnRepliesRow : OpenClaim := { program := "yteikfmoklpokhaa", sum := "b5767579c789e20d30aa00049e1e51e0667ae9639db7fab63108c9f33427da8c", func := "loop.example/g01160/laws.FnExactColumnReplies", spec := "fnExactColumnReplies", unfollowed := true, recurses := true, apart := false }
def FnExactColumnRepliesSaid : Prop := fnExactColumnRepliesRow.holds Try.pinned (OpenSpec.ofChange fnExactColumnRepliesSpec)

/-- ITS FALSE NEIGHBOUR: 'it returns false'. Refute it at one input. -/
def fnExactColumnRepliesWrong : ChangeSpec := { name := "fnExactColumnReplies", fn := fun _ => fun
  | [d1, d2] => { results := [.lit (.bool false)], args := [d1, d2] }
  | _ => none }
def FnExactColumnRepliesWrongFalsely : Prop := fnExactColumnRepliesRow.holds Try.pinned (OpenSpec.ofChange fnExactColumnRepliesWrong)

/-- 'laws.FnExactIsEquilibrium': WHATEVER THE INPUT: true; the input reads as it did. -/
def fnExactIsEquilibriumSpec : ChangeSpec := { name := "fnExactIsEquilibrium", fn := fun _ => fun
  | [d1, d2, d3] => { results := [.lit (.bool true)], args := [d1, d2, d3] }
  | _ => none }
def fnExactIsEquilibriumRow : OpenClaim := { program := "yteikfmoklpokhaa", sum := "b5767579c789e20d30aa00049e1e51e0667ae9639db7fab63108c9f33427da8c", func := "loop.example/g01160/laws.FnExactIsEquilibrium", spec := "fnExactIsEquilibrium", unfollowed := true, recurses := true, apart := false }
def FnExactIsEquilibriumSaid : Prop := fnExactIsEquilibriumRow.holds Try.pinned (OpenSpec.ofChange fnExactIsEquilibriumSpec)

/-- ITS FALSE NEIGHBOUR: 'it returns false'. Refute it at one input. -/
def fnExactIsEquilibriumWrong : ChangeSpec := { name := "fnExactIsEquilibrium", fn := fun _ => fun
  | [d1, d2, d3] => { results := [.lit (.bool false)], args := [d1, d2, d3] }
  | _ => none }
def FnExactIsEquilibriumWrongFalsely : Prop := fnExactIsEquilibriumRow.holds Try.pinned (OpenSpec.ofChange fnExactIsEquilibriumWrong)

/-- 'laws.FnExactPureEquilibria': WHATEVER THE INPUT: true; the input reads as it did. -/
def fnExactPureEquilibriaSpec : ChangeSpec := { name := "fnExactPureEquilibria", fn := fun _ => fun
  | [d] => { results := [.lit (.bool true)], args := [d] }
  | _ => none }
def fnExactPureEquilibriaRow : OpenClaim := { program := "yteikfmoklpokhaa", sum := "b5767579c789e20d30aa00049e1e51e0667ae9639db7fab63108c9f33427da8c", func := "loop.example/g01160/laws.FnExactPureEquilibria", spec := "fnExactPureEquilibria", unfollowed := true, recurses := true, apart := false }
def FnExactPureEquilibriaSaid : Prop := fnExactPureEquilibriaRow.holds Try.pinned (OpenSpec.ofChange fnExactPureEquilibriaSpec)

/-- ITS FALSE NEIGHBOUR: 'it returns false'. Refute it at one input. -/
def fnExactPureEquilibriaWrong : ChangeSpec := { name := "fnExactPureEquilibria", fn := fun _ => fun
  | [d] => { results := [.lit (.bool false)], args := [d] }
  | _ => none }
def FnExactPureEquilibriaWrongFalsely : Prop := fnExactPureEquilibriaRow.holds Try.pinned (OpenSpec.ofChange fnExactPureEquilibriaWrong)

/-- 'laws.FnBestReplies': WHATEVER THE INPUT: true; the input reads as it did. -/
def fnBestRepliesSpec : ChangeSpec := { name := "fnBestReplies", fn := fun _ => fun
  | [d1, d2] => { results := [.lit (.bool true)], args := [d1, d2] }
  | _ => none }
def fnBestRepliesRow : OpenClaim := { program := "yteikfmoklpokhaa", sum := "b5767579c789e20d30aa00049e1e51e0667ae9639db7fab63108c9f33427da8c", func := "loop.example/g01160/laws.FnBestReplies", spec := "fnBestReplies", unfollowed := true, recurses := true, apart := false }
def FnBestRepliesSaid : Prop := fnBestRepliesRow.holds Try.pinned (OpenSpec.ofChange fnBestRepliesSpec)

/-- ITS FALSE NEIGHBOUR: 'it returns false'. Refute it at one input. -/
def fnBestRepliesWrong : ChangeSpec := { name := "fnBestReplies", fn := fun _ => fun
  | [d1, d2] => { results := [.lit (.bool false)], args := [d1, d2] }
  | _ => none }
def FnBestRepliesWrongFalsely : Prop := fnBestRepliesRow.holds Try.pinned (OpenSpec.ofChange fnBestRepliesWrong)

/- THE SECOND FORM. 'bulk': how many values and letters a reading holds, each counted each time it is reached (what is shared counts as often as it is met; a slice's spare places count too). A statement '..UptoSaid' is the law's where the arguments, and the package variables that the reading takes, are together of bulk at most 1048576: NARROWER than '..Said'. Prove '..Said' where nothing that the law and all that it calls make is longer than what came in: it says more and counts as full. Else prove '..UptoSaid'. A law counts once. -/
mutual
def uptoBulk {H : Type} : DataW H → Nat
  | .lit (.string bytes) => bytes.length + 1
  | .lit _ => 1
  | .nil => 1
  | .ptr d => uptoBulk d + 1
  | .slice elems spare => uptoBulkAll elems + uptoBulkAll spare + 1
  | .agg parts => uptoBulkAll parts + 1
  | .iface _ d => uptoBulk d + 1
  | .map entries => uptoBulkEntries entries + 1
  | .held _ => 1
def uptoBulkAll {H : Type} : List (DataW H) → Nat
  | [] => 0
  | d :: r => uptoBulk d + uptoBulkAll r
def uptoBulkEntries {H : Type} : List (Lit × DataW H) → Nat
  | [] => 0
  | x :: r => uptoBulkEntry x + uptoBulkEntries r
def uptoBulkEntry {H : Type} : Lit × DataW H → Nat
  | (.string bytes, d) => bytes.length + uptoBulk d + 1
  | (_, d) => uptoBulk d + 1
 end
def uptoSmall : (H : Type) → List (DataW H) → Bool := fun _ ds => decide (uptoBulkAll ds ≤ 1048576)
def OpenSpec.upto (s : _root_.Go.ChangeSpec) : _root_.Go.OpenSpec := { _root_.Go.OpenSpec.ofChange s with cond := some uptoSmall }

/-- 'laws.FnExactAreWeights', WHERE WHAT IT READS IS OF BULK AT MOST 1048576: true; the input reads as it did. -/
def fnExactAreWeightsUptoRow : OpenClaim := { program := "yteikfmoklpokhaa", sum := "b5767579c789e20d30aa00049e1e51e0667ae9639db7fab63108c9f33427da8c", func := "loop.example/g01160/laws.FnExactAreWeights", spec := "fnExactAreWeights", unfollowed := true, recurses := true, apart := false, narrowed := true }
def FnExactAreWeightsUptoSaid : Prop := fnExactAreWeightsUptoRow.holds Try.pinned (OpenSpec.upto fnExactAreWeightsSpec)

/-- 'laws.FnExactIsGame', WHERE WHAT IT READS IS OF BULK AT MOST 1048576: true; the input reads as it did. -/
def fnExactIsGameUptoRow : OpenClaim := { program := "yteikfmoklpokhaa", sum := "b5767579c789e20d30aa00049e1e51e0667ae9639db7fab63108c9f33427da8c", func := "loop.example/g01160/laws.FnExactIsGame", spec := "fnExactIsGame", unfollowed := true, recurses := true, apart := false, narrowed := true }
def FnExactIsGameUptoSaid : Prop := fnExactIsGameUptoRow.holds Try.pinned (OpenSpec.upto fnExactIsGameSpec)

/-- 'laws.FnExactZeroSum', WHERE WHAT IT READS IS OF BULK AT MOST 1048576: true; the input reads as it did. -/
def fnExactZeroSumUptoRow : OpenClaim := { program := "yteikfmoklpokhaa", sum := "b5767579c789e20d30aa00049e1e51e0667ae9639db7fab63108c9f33427da8c", func := "loop.example/g01160/laws.FnExactZeroSum", spec := "fnExactZeroSum", unfollowed := true, recurses := true, apart := false, narrowed := true }
def FnExactZeroSumUptoSaid : Prop := fnExactZeroSumUptoRow.holds Try.pinned (OpenSpec.upto fnExactZeroSumSpec)

/-- 'laws.FnExactSwapPlayers', WHERE WHAT IT READS IS OF BULK AT MOST 1048576: true; the input reads as it did. -/
def fnExactSwapPlayersUptoRow : OpenClaim := { program := "yteikfmoklpokhaa", sum := "b5767579c789e20d30aa00049e1e51e0667ae9639db7fab63108c9f33427da8c", func := "loop.example/g01160/laws.FnExactSwapPlayers", spec := "fnExactSwapPlayers", unfollowed := true, recurses := true, apart := false, narrowed := true }
def FnExactSwapPlayersUptoSaid : Prop := fnExactSwapPlayersUptoRow.holds Try.pinned (OpenSpec.upto fnExactSwapPlayersSpec)

/-- 'laws.FnExactPayOf', WHERE WHAT IT READS IS OF BULK AT MOST 1048576: true; the input reads as it did. -/
def fnExactPayOfUptoRow : OpenClaim := { program := "yteikfmoklpokhaa", sum := "b5767579c789e20d30aa00049e1e51e0667ae9639db7fab63108c9f33427da8c", func := "loop.example/g01160/laws.FnExactPayOf", spec := "fnExactPayOf", unfollowed := true, recurses := true, apart := false, narrowed := true }
def FnExactPayOfUptoSaid : Prop := fnExactPayOfUptoRow.holds Try.pinned (OpenSpec.upto fnExactPayOfSpec)

/-- 'laws.FnExactAddToColumn', WHERE WHAT IT READS IS OF BULK AT MOST 1048576: true; the input reads as it did. -/
def fnExactAddToColumnUptoRow : OpenClaim := { program := "yteikfmoklpokhaa", sum := "b5767579c789e20d30aa00049e1e51e0667ae9639db7fab63108c9f33427da8c", func := "loop.example/g01160/laws.FnExactAddToColumn", spec := "fnExactAddToColumn", unfollowed := true, recurses := true, apart := false, narrowed := true }
def FnExactAddToColumnUptoSaid : Prop := fnExactAddToColumnUptoRow.holds Try.pinned (OpenSpec.upto fnExactAddToColumnSpec)

/-- 'laws.FnExactRowReplies', WHERE WHAT IT READS IS OF BULK AT MOST 1048576: true; the input reads as it did. -/
def fnExactRowRepliesUptoRow : OpenClaim := { program := "yteikfmoklpokhaa", sum := "b5767579c789e20d30aa00049e1e51e0667ae9639db7fab63108c9f33427da8c", func := "loop.example/g01160/laws.FnExactRowReplies", spec := "fnExactRowReplies", unfollowed := true, recurses := true, apart := false, narrowed := true }
def FnExactRowRepliesUptoSaid : Prop := fnExactRowRepliesUptoRow.holds Try.pinned (OpenSpec.upto fnExactRowRepliesSpec)

/-- 'laws.FnExactColumnReplies', WHERE WHAT IT READS IS OF BULK AT MOST 1048576: true; the input reads as it did. -/
def fnExactColumnRepliesUptoRow : OpenClaim := { program := "yteikfmoklpokhaa", sum := "b5767579c789e20d30aa00049e1e51e0667ae9639db7fab63108c9f33427da8c", func := "loop.example/g01160/laws.FnExactColumnReplies", spec := "fnExactColumnReplies", unfollowed := true, recurses := true, apart := false, narrowed := true }
def FnExactColumnRepliesUptoSaid : Prop := fnExactColumnRepliesUptoRow.holds Try.pinned (OpenSpec.upto fnExactColumnRepliesSpec)

/-- 'laws.FnExactIsEquilibrium', WHERE WHAT IT READS IS OF BULK AT MOST 1048576: true; the input reads as it did. -/
def fnExactIsEquilibriumUptoRow : OpenClaim := { program := "yteikfmoklpokhaa", sum := "b5767579c789e20d30aa00049e1e51e0667ae9639db7fab63108c9f33427da8c", func := "loop.example/g01160/laws.FnExactIsEquilibrium", spec := "fnExactIsEquilibrium", unfollowed := true, recurses := true, apart := false, narrowed := true }
def FnExactIsEquilibriumUptoSaid : Prop := fnExactIsEquilibriumUptoRow.holds Try.pinned (OpenSpec.upto fnExactIsEquilibriumSpec)

/-- 'laws.FnExactPureEquilibria', WHERE WHAT IT READS IS OF BULK AT MOST 1048576: true; the input reads as it did. -/
def fnExactPureEquilibriaUptoRow : OpenClaim := { program := "yteikfmoklpokhaa", sum := "b5767579c789e20d30aa00049e1e51e0667ae9639db7fab63108c9f33427da8c", func := "loop.example/g01160/laws.FnExactPureEquilibria", spec := "fnExactPureEquilibria", unfollowed := true, recurses := true, apart := false, narrowed := true }
def FnExactPureEquilibriaUptoSaid : Prop := fnExactPureEquilibriaUptoRow.holds Try.pinned (OpenSpec.upto fnExactPureEquilibriaSpec)

/-- 'laws.FnBestReplies', WHERE WHAT IT READS IS OF BULK AT MOST 1048576: true; the input reads as it did. -/
def fnBestRepliesUptoRow : OpenClaim := { program := "yteikfmoklpokhaa", sum := "b5767579c789e20d30aa00049e1e51e0667ae9639db7fab63108c9f33427da8c", func := "loop.example/g01160/laws.FnBestReplies", spec := "fnBestReplies", unfollowed := true, recurses := true, apart := false, narrowed := true }
def FnBestRepliesUptoSaid : Prop := fnBestRepliesUptoRow.holds Try.pinned (OpenSpec.upto fnBestRepliesSpec)

end Rows
end Go.Proofs.Yteikfmoklpokhaa
