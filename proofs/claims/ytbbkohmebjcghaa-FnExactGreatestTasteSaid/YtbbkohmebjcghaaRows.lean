/-
  No cell of these rows narrows 'for every input' (looked for: loops, veiled, ifaces, maps, wideKeys, modest, calm, conditions, laid).
  DERIVED. THE GIVEN ROWS OF THIS SEAT. 11 by the template 'for every input the law returns true; each argument reads behind the call as it read before'; 0 by the template 'total and deterministic' (their statements: YtbbkohmebjcghaaTotals.lean).
  GIVEN WITH THE SEED: the statements are not yours to turn. If you find one false, say at which input.
  Laid BY PROGRAM, IN A SANDBOX (cutbox-rows.mjs): the forced cells as the released guide's own fill.sh prints them over the translation 00922184e612b791… (all of the seat's roots in one cut). By AI agents, Wed Nov 11 2026. No macro, syntax, notation, axiom, sorry.
-/
import Derived.Test.YtbbkohmebjcghaaChecked
import GoSem.Claim
import GoSem.ClaimJoined
import GoSem.ClaimMapViews
import Derived.JoinedTies
import Derived.KernelRfl
namespace Go.Proofs.Ytbbkohmebjcghaa
/- THE CELL 'sum', in the pinned program and in every row, IS THE sha256 OF THE DUMP (.gsa) THAT YtbbkohmebjcghaaProg.lean LOADS. Nothing in Lean hashes anything: it is a label: what it is worth is what the hold of that sum in a sandbox is worth. -/
noncomputable def Try.pinned : Pinned := { name := "ytbbkohmebjcghaa", sum := "00922184e612b791b6c621a3e4989a6182c3ae620d117335464a974ba3662be8", checked := Try.checked }
namespace Rows
def none {H : Type} : Left H := { results := [], args := [] }

/-- 'laws.FnExactBestRooms': WHATEVER THE INPUT: true; the input reads as it did. -/
def fnExactBestRoomsSpec : ChangeSpec := { name := "fnExactBestRooms", fn := fun _ => fun
  | [d] => { results := [.lit (.bool true)], args := [d] }
  | _ => none }
def fnExactBestRoomsRow : OpenClaim := { program := "ytbbkohmebjcghaa", sum := "00922184e612b791b6c621a3e4989a6182c3ae620d117335464a974ba3662be8", func := "loop.example/g01160/laws.FnExactBestRooms", spec := "fnExactBestRooms", unfollowed := true, recurses := true, apart := false }
def FnExactBestRoomsSaid : Prop := fnExactBestRoomsRow.holds Try.pinned (OpenSpec.ofChange fnExactBestRoomsSpec)

/-- ITS FALSE NEIGHBOUR: 'it returns false'. Refute it at one input. -/
def fnExactBestRoomsWrong : ChangeSpec := { name := "fnExactBestRooms", fn := fun _ => fun
  | [d] => { results := [.lit (.bool false)], args := [d] }
  | _ => none }
def FnExactBestRoomsWrongFalsely : Prop := fnExactBestRoomsRow.holds Try.pinned (OpenSpec.ofChange fnExactBestRoomsWrong)

/-- 'laws.FnExactGreatestTaste': WHATEVER THE INPUT: true; the input reads as it did. -/
def fnExactGreatestTasteSpec : ChangeSpec := { name := "fnExactGreatestTaste", fn := fun _ => fun
  | [d1, d2] => { results := [.lit (.bool true)], args := [d1, d2] }
  | _ => none }
def fnExactGreatestTasteRow : OpenClaim := { program := "ytbbkohmebjcghaa", sum := "00922184e612b791b6c621a3e4989a6182c3ae620d117335464a974ba3662be8", func := "loop.example/g01160/laws.FnExactGreatestTaste", spec := "fnExactGreatestTaste", unfollowed := true, recurses := true, apart := false }
def FnExactGreatestTasteSaid : Prop := fnExactGreatestTasteRow.holds Try.pinned (OpenSpec.ofChange fnExactGreatestTasteSpec)

/-- ITS FALSE NEIGHBOUR: 'it returns false'. Refute it at one input. -/
def fnExactGreatestTasteWrong : ChangeSpec := { name := "fnExactGreatestTaste", fn := fun _ => fun
  | [d1, d2] => { results := [.lit (.bool false)], args := [d1, d2] }
  | _ => none }
def FnExactGreatestTasteWrongFalsely : Prop := fnExactGreatestTasteRow.holds Try.pinned (OpenSpec.ofChange fnExactGreatestTasteWrong)

/-- 'laws.FnExactFavouriteOf': WHATEVER THE INPUT: true; the input reads as it did. -/
def fnExactFavouriteOfSpec : ChangeSpec := { name := "fnExactFavouriteOf", fn := fun _ => fun
  | [d1, d2, d3, d4] => { results := [.lit (.bool true)], args := [d1, d2, d3, d4] }
  | _ => none }
def fnExactFavouriteOfRow : OpenClaim := { program := "ytbbkohmebjcghaa", sum := "00922184e612b791b6c621a3e4989a6182c3ae620d117335464a974ba3662be8", func := "loop.example/g01160/laws.FnExactFavouriteOf", spec := "fnExactFavouriteOf", unfollowed := true, recurses := true, apart := false }
def FnExactFavouriteOfSaid : Prop := fnExactFavouriteOfRow.holds Try.pinned (OpenSpec.ofChange fnExactFavouriteOfSpec)

/-- ITS FALSE NEIGHBOUR: 'it returns false'. Refute it at one input. -/
def fnExactFavouriteOfWrong : ChangeSpec := { name := "fnExactFavouriteOf", fn := fun _ => fun
  | [d1, d2, d3, d4] => { results := [.lit (.bool false)], args := [d1, d2, d3, d4] }
  | _ => none }
def FnExactFavouriteOfWrongFalsely : Prop := fnExactFavouriteOfRow.holds Try.pinned (OpenSpec.ofChange fnExactFavouriteOfWrong)

/-- 'laws.FnExactPiecesOf': WHATEVER THE INPUT: true; the input reads as it did. -/
def fnExactPiecesOfSpec : ChangeSpec := { name := "fnExactPiecesOf", fn := fun _ => fun
  | [d1, d2, d3, d4] => { results := [.lit (.bool true)], args := [d1, d2, d3, d4] }
  | _ => none }
def fnExactPiecesOfRow : OpenClaim := { program := "ytbbkohmebjcghaa", sum := "00922184e612b791b6c621a3e4989a6182c3ae620d117335464a974ba3662be8", func := "loop.example/g01160/laws.FnExactPiecesOf", spec := "fnExactPiecesOf", unfollowed := true, recurses := true, apart := false }
def FnExactPiecesOfSaid : Prop := fnExactPiecesOfRow.holds Try.pinned (OpenSpec.ofChange fnExactPiecesOfSpec)

/-- ITS FALSE NEIGHBOUR: 'it returns false'. Refute it at one input. -/
def fnExactPiecesOfWrong : ChangeSpec := { name := "fnExactPiecesOf", fn := fun _ => fun
  | [d1, d2, d3, d4] => { results := [.lit (.bool false)], args := [d1, d2, d3, d4] }
  | _ => none }
def FnExactPiecesOfWrongFalsely : Prop := fnExactPiecesOfRow.holds Try.pinned (OpenSpec.ofChange fnExactPiecesOfWrong)

/-- 'laws.FnExactRentEnvy': WHATEVER THE INPUT: true; the input reads as it did. -/
def fnExactRentEnvySpec : ChangeSpec := { name := "fnExactRentEnvy", fn := fun _ => fun
  | [d1, d2, d3, d4] => { results := [.lit (.bool true)], args := [d1, d2, d3, d4] }
  | _ => none }
def fnExactRentEnvyRow : OpenClaim := { program := "ytbbkohmebjcghaa", sum := "00922184e612b791b6c621a3e4989a6182c3ae620d117335464a974ba3662be8", func := "loop.example/g01160/laws.FnExactRentEnvy", spec := "fnExactRentEnvy", unfollowed := true, recurses := true, apart := false }
def FnExactRentEnvySaid : Prop := fnExactRentEnvyRow.holds Try.pinned (OpenSpec.ofChange fnExactRentEnvySpec)

/-- ITS FALSE NEIGHBOUR: 'it returns false'. Refute it at one input. -/
def fnExactRentEnvyWrong : ChangeSpec := { name := "fnExactRentEnvy", fn := fun _ => fun
  | [d1, d2, d3, d4] => { results := [.lit (.bool false)], args := [d1, d2, d3, d4] }
  | _ => none }
def FnExactRentEnvyWrongFalsely : Prop := fnExactRentEnvyRow.holds Try.pinned (OpenSpec.ofChange fnExactRentEnvyWrong)

/-- 'laws.FnExactSumAt': WHATEVER THE INPUT: true; the input reads as it did. -/
def fnExactSumAtSpec : ChangeSpec := { name := "fnExactSumAt", fn := fun _ => fun
  | [d1, d2, d3, d4] => { results := [.lit (.bool true)], args := [d1, d2, d3, d4] }
  | _ => none }
def fnExactSumAtRow : OpenClaim := { program := "ytbbkohmebjcghaa", sum := "00922184e612b791b6c621a3e4989a6182c3ae620d117335464a974ba3662be8", func := "loop.example/g01160/laws.FnExactSumAt", spec := "fnExactSumAt", unfollowed := true, recurses := true, apart := false }
def FnExactSumAtSaid : Prop := fnExactSumAtRow.holds Try.pinned (OpenSpec.ofChange fnExactSumAtSpec)

/-- ITS FALSE NEIGHBOUR: 'it returns false'. Refute it at one input. -/
def fnExactSumAtWrong : ChangeSpec := { name := "fnExactSumAt", fn := fun _ => fun
  | [d1, d2, d3, d4] => { results := [.lit (.bool false)], args := [d1, d2, d3, d4] }
  | _ => none }
def FnExactSumAtWrongFalsely : Prop := fnExactSumAtRow.holds Try.pinned (OpenSpec.ofChange fnExactSumAtWrong)

/-- 'laws.FnExactCakeLabels': WHATEVER THE INPUT: true; the input reads as it did. -/
def fnExactCakeLabelsSpec : ChangeSpec := { name := "fnExactCakeLabels", fn := fun _ => fun
  | [d1, d2] => { results := [.lit (.bool true)], args := [d1, d2] }
  | _ => none }
def fnExactCakeLabelsRow : OpenClaim := { program := "ytbbkohmebjcghaa", sum := "00922184e612b791b6c621a3e4989a6182c3ae620d117335464a974ba3662be8", func := "loop.example/g01160/laws.FnExactCakeLabels", spec := "fnExactCakeLabels", unfollowed := true, recurses := true, apart := false }
def FnExactCakeLabelsSaid : Prop := fnExactCakeLabelsRow.holds Try.pinned (OpenSpec.ofChange fnExactCakeLabelsSpec)

/-- ITS FALSE NEIGHBOUR: 'it returns false'. Refute it at one input. -/
def fnExactCakeLabelsWrong : ChangeSpec := { name := "fnExactCakeLabels", fn := fun _ => fun
  | [d1, d2] => { results := [.lit (.bool false)], args := [d1, d2] }
  | _ => none }
def FnExactCakeLabelsWrongFalsely : Prop := fnExactCakeLabelsRow.holds Try.pinned (OpenSpec.ofChange fnExactCakeLabelsWrong)

/-- 'laws.FnExactEnvyAt': WHATEVER THE INPUT: true; the input reads as it did. -/
def fnExactEnvyAtSpec : ChangeSpec := { name := "fnExactEnvyAt", fn := fun _ => fun
  | [d1, d2, d3, d4] => { results := [.lit (.bool true)], args := [d1, d2, d3, d4] }
  | _ => none }
def fnExactEnvyAtRow : OpenClaim := { program := "ytbbkohmebjcghaa", sum := "00922184e612b791b6c621a3e4989a6182c3ae620d117335464a974ba3662be8", func := "loop.example/g01160/laws.FnExactEnvyAt", spec := "fnExactEnvyAt", unfollowed := true, recurses := true, apart := false }
def FnExactEnvyAtSaid : Prop := fnExactEnvyAtRow.holds Try.pinned (OpenSpec.ofChange fnExactEnvyAtSpec)

/-- ITS FALSE NEIGHBOUR: 'it returns false'. Refute it at one input. -/
def fnExactEnvyAtWrong : ChangeSpec := { name := "fnExactEnvyAt", fn := fun _ => fun
  | [d1, d2, d3, d4] => { results := [.lit (.bool false)], args := [d1, d2, d3, d4] }
  | _ => none }
def FnExactEnvyAtWrongFalsely : Prop := fnExactEnvyAtRow.holds Try.pinned (OpenSpec.ofChange fnExactEnvyAtWrong)

/-- 'laws.FnExactFairRent': WHATEVER THE INPUT: true; the input reads as it did. -/
def fnExactFairRentSpec : ChangeSpec := { name := "fnExactFairRent", fn := fun _ => fun
  | [d1, d2] => { results := [.lit (.bool true)], args := [d1, d2] }
  | _ => none }
def fnExactFairRentRow : OpenClaim := { program := "ytbbkohmebjcghaa", sum := "00922184e612b791b6c621a3e4989a6182c3ae620d117335464a974ba3662be8", func := "loop.example/g01160/laws.FnExactFairRent", spec := "fnExactFairRent", unfollowed := true, recurses := true, apart := false }
def FnExactFairRentSaid : Prop := fnExactFairRentRow.holds Try.pinned (OpenSpec.ofChange fnExactFairRentSpec)

/-- ITS FALSE NEIGHBOUR: 'it returns false'. Refute it at one input. -/
def fnExactFairRentWrong : ChangeSpec := { name := "fnExactFairRent", fn := fun _ => fun
  | [d1, d2] => { results := [.lit (.bool false)], args := [d1, d2] }
  | _ => none }
def FnExactFairRentWrongFalsely : Prop := fnExactFairRentRow.holds Try.pinned (OpenSpec.ofChange fnExactFairRentWrong)

/-- 'laws.FnExactLeastEnvy': WHATEVER THE INPUT: true; the input reads as it did. -/
def fnExactLeastEnvySpec : ChangeSpec := { name := "fnExactLeastEnvy", fn := fun _ => fun
  | [d1, d2] => { results := [.lit (.bool true)], args := [d1, d2] }
  | _ => none }
def fnExactLeastEnvyRow : OpenClaim := { program := "ytbbkohmebjcghaa", sum := "00922184e612b791b6c621a3e4989a6182c3ae620d117335464a974ba3662be8", func := "loop.example/g01160/laws.FnExactLeastEnvy", spec := "fnExactLeastEnvy", unfollowed := true, recurses := true, apart := false }
def FnExactLeastEnvySaid : Prop := fnExactLeastEnvyRow.holds Try.pinned (OpenSpec.ofChange fnExactLeastEnvySpec)

/-- ITS FALSE NEIGHBOUR: 'it returns false'. Refute it at one input. -/
def fnExactLeastEnvyWrong : ChangeSpec := { name := "fnExactLeastEnvy", fn := fun _ => fun
  | [d1, d2] => { results := [.lit (.bool false)], args := [d1, d2] }
  | _ => none }
def FnExactLeastEnvyWrongFalsely : Prop := fnExactLeastEnvyRow.holds Try.pinned (OpenSpec.ofChange fnExactLeastEnvyWrong)

/-- 'laws.FnExactBestCut': WHATEVER THE INPUT: true; the input reads as it did. -/
def fnExactBestCutSpec : ChangeSpec := { name := "fnExactBestCut", fn := fun _ => fun
  | [d1, d2] => { results := [.lit (.bool true)], args := [d1, d2] }
  | _ => none }
def fnExactBestCutRow : OpenClaim := { program := "ytbbkohmebjcghaa", sum := "00922184e612b791b6c621a3e4989a6182c3ae620d117335464a974ba3662be8", func := "loop.example/g01160/laws.FnExactBestCut", spec := "fnExactBestCut", unfollowed := true, recurses := true, apart := false }
def FnExactBestCutSaid : Prop := fnExactBestCutRow.holds Try.pinned (OpenSpec.ofChange fnExactBestCutSpec)

/-- ITS FALSE NEIGHBOUR: 'it returns false'. Refute it at one input. -/
def fnExactBestCutWrong : ChangeSpec := { name := "fnExactBestCut", fn := fun _ => fun
  | [d1, d2] => { results := [.lit (.bool false)], args := [d1, d2] }
  | _ => none }
def FnExactBestCutWrongFalsely : Prop := fnExactBestCutRow.holds Try.pinned (OpenSpec.ofChange fnExactBestCutWrong)

/- THE SECOND FORM. 'bulk': how many values and letters a reading holds, each counted each time it is reached (what is shared counts as often as it is met; a slice's spare places count too). A statement '..UptoSaid' is the law's where the arguments, and the package variables that the reading takes, are together of bulk at most 1048576: NARROWER than '..Said'. Prove '..Said' where nothing that the law and all that it calls make is longer than what came in: it says more and counts as full. Else prove '..UptoSaid'. A law counts once. -/
mutual
def uptoBulk {H : Type} : DataW H → Nat
  | .lit (.string bytes) => bytes.length + 1
  | .lit _ => 1
  | .nil => 1
  | .ptr d => uptoBulk d + 1
  | .slice elems spare => uptoBulkAll elems + uptoBulkAll spare + 1
  | .agg parts => uptoBulkAll parts + 1
  | .iface _ d => uptoBulk d + 1
  | .map entries => uptoBulkEntries entries + 1
  | .held _ => 1
def uptoBulkAll {H : Type} : List (DataW H) → Nat
  | [] => 0
  | d :: r => uptoBulk d + uptoBulkAll r
def uptoBulkEntries {H : Type} : List (Lit × DataW H) → Nat
  | [] => 0
  | x :: r => uptoBulkEntry x + uptoBulkEntries r
def uptoBulkEntry {H : Type} : Lit × DataW H → Nat
  | (.string bytes, d) => bytes.length + uptoBulk d + 1
  | (_, d) => uptoBulk d + 1
 end
def uptoSmall : (H : Type) → List (DataW H) → Bool := fun _ ds => decide (uptoBulkAll ds ≤ 1048576)
def OpenSpec.upto (s : _root_.Go.ChangeSpec) : _root_.Go.OpenSpec := { _root_.Go.OpenSpec.ofChange s with cond := some uptoSmall }

/-- 'laws.FnExactBestRooms', WHERE WHAT IT READS IS OF BULK AT MOST 1048576: true; the input reads as it did. -/
def fnExactBestRoomsUptoRow : OpenClaim := { program := "ytbbkohmebjcghaa", sum := "00922184e612b791b6c621a3e4989a6182c3ae620d117335464a974ba3662be8", func := "loop.example/g01160/laws.FnExactBestRooms", spec := "fnExactBestRooms", unfollowed := true, recurses := true, apart := false, narrowed := true }
def FnExactBestRoomsUptoSaid : Prop := fnExactBestRoomsUptoRow.holds Try.pinned (OpenSpec.upto fnExactBestRoomsSpec)

/-- 'laws.FnExactGreatestTaste', WHERE WHAT IT READS IS OF BULK AT MOST 1048576: true; the input reads as it did. -/
def fnExactGreatestTasteUptoRow : OpenClaim := { program := "ytbbkohmebjcghaa", sum := "00922184e612b791b6c621a3e4989a6182c3ae620d117335464a974ba3662be8", func := "loop.example/g01160/laws.FnExactGreatestTaste", spec := "fnExactGreatestTaste", unfollowed := true, recurses := true, apart := false, narrowed := true }
def FnExactGreatestTasteUptoSaid : Prop := fnExactGreatestTasteUptoRow.holds Try.pinned (OpenSpec.upto fnExactGreatestTasteSpec)

/-- 'laws.FnExactFavouriteOf', WHERE WHAT IT READS IS OF BULK AT MOST 1048576: true; the input reads as it did. -/
def fnExactFavouriteOfUptoRow : OpenClaim := { program := "ytbbkohmebjcghaa", sum := "00922184e612b791b6c621a3e4989a6182c3ae620d117335464a974ba3662be8", func := "loop.example/g01160/laws.FnExactFavouriteOf", spec := "fnExactFavouriteOf", unfollowed := true, recurses := true, apart := false, narrowed := true }
def FnExactFavouriteOfUptoSaid : Prop := fnExactFavouriteOfUptoRow.holds Try.pinned (OpenSpec.upto fnExactFavouriteOfSpec)

/-- 'laws.FnExactPiecesOf', WHERE WHAT IT READS IS OF BULK AT MOST 1048576: true; the input reads as it did. -/
def fnExactPiecesOfUptoRow : OpenClaim := { program := "ytbbkohmebjcghaa", sum := "00922184e612b791b6c621a3e4989a6182c3ae620d117335464a974ba3662be8", func := "loop.example/g01160/laws.FnExactPiecesOf", spec := "fnExactPiecesOf", unfollowed := true, recurses := true, apart := false, narrowed := true }
def FnExactPiecesOfUptoSaid : Prop := fnExactPiecesOfUptoRow.holds Try.pinned (OpenSpec.upto fnExactPiecesOfSpec)

/-- 'laws.FnExactRentEnvy', WHERE WHAT IT READS IS OF BULK AT MOST 1048576: true; the input reads as it did. -/
def fnExactRentEnvyUptoRow : OpenClaim := { program := "ytbbkohmebjcghaa", sum := "00922184e612b791b6c621a3e4989a6182c3ae620d117335464a974ba3662be8", func := "loop.example/g01160/laws.FnExactRentEnvy", spec := "fnExactRentEnvy", unfollowed := true, recurses := true, apart := false, narrowed := true }
def FnExactRentEnvyUptoSaid : Prop := fnExactRentEnvyUptoRow.holds Try.pinned (OpenSpec.upto fnExactRentEnvySpec)

/-- 'laws.FnExactSumAt', WHERE WHAT IT READS IS OF BULK AT MOST 1048576: true; the input reads as it did. -/
def fnExactSumAtUptoRow : OpenClaim := { program := "ytbbkohmebjcghaa", sum := "00922184e612b791b6c621a3e4989a6182c3ae620d117335464a974ba3662be8", func := "loop.example/g01160/laws.FnExactSumAt", spec := "fnExactSumAt", unfollowed := true, recurses := true, apart := false, narrowed := true }
def FnExactSumAtUptoSaid : Prop := fnExactSumAtUptoRow.holds Try.pinned (OpenSpec.upto fnExactSumAtSpec)

/-- 'laws.FnExactCakeLabels', WHERE WHAT IT READS IS OF BULK AT MOST 1048576: true; the input reads as it did. -/
def fnExactCakeLabelsUptoRow : OpenClaim := { program := "ytbbkohmebjcghaa", sum := "00922184e612b791b6c621a3e4989a6182c3ae620d117335464a974ba3662be8", func := "loop.example/g01160/laws.FnExactCakeLabels", spec := "fnExactCakeLabels", unfollowed := true, recurses := true, apart := false, narrowed := true }
def FnExactCakeLabelsUptoSaid : Prop := fnExactCakeLabelsUptoRow.holds Try.pinned (OpenSpec.upto fnExactCakeLabelsSpec)

/-- 'laws.FnExactEnvyAt', WHERE WHAT IT READS IS OF BULK AT MOST 1048576: true; the input reads as it did. -/
def fnExactEnvyAtUptoRow : OpenClaim := { program := "ytbbkohmebjcghaa", sum := "00922184e612b791b6c621a3e4989a6182c3ae620d117335464a974ba3662be8", func := "loop.example/g01160/laws.FnExactEnvyAt", spec := "fnExactEnvyAt", unfollowed := true, recurses := true, apart := false, narrowed := true }
def FnExactEnvyAtUptoSaid : Prop := fnExactEnvyAtUptoRow.holds Try.pinned (OpenSpec.upto fnExactEnvyAtSpec)

/-- 'laws.FnExactFairRent', WHERE WHAT IT READS IS OF BULK AT MOST 1048576: true; the input reads as it did. -/
def fnExactFairRentUptoRow : OpenClaim := { program := "ytbbkohmebjcghaa", sum := "00922184e612b791b6c621a3e4989a6182c3ae620d117335464a974ba3662be8", func := "loop.example/g01160/laws.FnExactFairRent", spec := "fnExactFairRent", unfollowed := true, recurses := true, apart := false, narrowed := true }
def FnExactFairRentUptoSaid : Prop := fnExactFairRentUptoRow.holds Try.pinned (OpenSpec.upto fnExactFairRentSpec)

/-- 'laws.FnExactLeastEnvy', WHERE WHAT IT READS IS OF BULK AT MOST 1048576: true; the input reads as it did. -/
def fnExactLeastEnvyUptoRow : OpenClaim := { program := "ytbbkohmebjcghaa", sum := "00922184e612b791b6c621a3e4989a6182c3ae620d117335464a974ba3662be8", func := "loop.example/g01160/laws.FnExactLeastEnvy", spec := "fnExactLeastEnvy", unfollowed := true, recurses := true, apart := false, narrowed := true }
def FnExactLeastEnvyUptoSaid : Prop := fnExactLeastEnvyUptoRow.holds Try.pinned (OpenSpec.upto fnExactLeastEnvySpec)

/-- 'laws.FnExactBestCut', WHERE WHAT IT READS IS OF BULK AT MOST 1048576: true; the input reads as it did. -/
def fnExactBestCutUptoRow : OpenClaim := { program := "ytbbkohmebjcghaa", sum := "00922184e612b791b6c621a3e4989a6182c3ae620d117335464a974ba3662be8", func := "loop.example/g01160/laws.FnExactBestCut", spec := "fnExactBestCut", unfollowed := true, recurses := true, apart := false, narrowed := true }
def FnExactBestCutUptoSaid : Prop := fnExactBestCutUptoRow.holds Try.pinned (OpenSpec.upto fnExactBestCutSpec)

end Rows
end Go.Proofs.Ytbbkohmebjcghaa
