/-
  No cell of these rows narrows 'for every input' (looked for: loops, veiled, ifaces, maps, wideKeys, modest, calm, conditions, laid).
  DERIVED. THE GIVEN ROWS OF THIS SEAT. 5 by the template 'for every input the law returns true; each argument reads behind the call as it read before'; 0 by the template 'total and deterministic' (their statements: YtggiicplcglalaaGreatTotals.lean).
  GIVEN WITH THE SEED: the statements are not yours to turn. If you find one false, say at which input.
  Laid BY PROGRAM, IN A SANDBOX (cutbox-rows.mjs): the forced cells as the released guide's own fill.sh prints them over the translation 559560c467430d80… (all of the seat's roots in one cut). By AI agents, Wed Nov 11 2026. No macro, syntax, notation, axiom, sorry.
-/
import Derived.Test.YtggiicplcglalaaGreatChecked
import GoSem.Claim
import GoSem.ClaimJoined
import GoSem.ClaimMapViews
import Derived.JoinedTies
import Derived.KernelRfl
namespace Go.Proofs.YtggiicplcglalaaGreat
/- THE CELL 'sum', in the pinned program and in every row, IS THE sha256 OF THE DUMP (.gsa) THAT YtggiicplcglalaaGreatProg.lean LOADS. Nothing in Lean hashes anything: it is a label: what it is worth is what the hold of that sum in a sandbox is worth. -/
noncomputable def Tryz.pinned : Pinned := { name := "ytggiicplcglalaagreat", sum := "559560c467430d80caacb412f50c696b53f9dd2f33f45c3a05116e6e034b54da", checked := Tryz.checked }
namespace Rows
def none {H : Type} : Left H := { results := [], args := [] }

/-- 'laws.FnExactAllEquilibria': WHATEVER THE INPUT: true; the input reads as it did. -/
def fnExactAllEquilibriaSpec : ChangeSpec := { name := "fnExactAllEquilibria", fn := fun _ => fun
  | [d] => { results := [.lit (.bool true)], args := [d] }
  | _ => none }
def fnExactAllEquilibriaRow : OpenClaim := { program := "ytggiicplcglalaagreat", sum := "559560c467430d80caacb412f50c696b53f9dd2f33f45c3a05116e6e034b54da", func := "loop.example/g01160/laws.FnExactAllEquilibria", spec := "fnExactAllEquilibria", unfollowed := true, recurses := true, apart := false }
def FnExactAllEquilibriaSaid : Prop := fnExactAllEquilibriaRow.holds Tryz.pinned (OpenSpec.ofChange fnExactAllEquilibriaSpec)

/-- ITS FALSE NEIGHBOUR: 'it returns false'. Refute it at one input. -/
def fnExactAllEquilibriaWrong : ChangeSpec := { name := "fnExactAllEquilibria", fn := fun _ => fun
  | [d] => { results := [.lit (.bool false)], args := [d] }
  | _ => none }
def FnExactAllEquilibriaWrongFalsely : Prop := fnExactAllEquilibriaRow.holds Tryz.pinned (OpenSpec.ofChange fnExactAllEquilibriaWrong)

/-- 'laws.FnOddEquilibria': WHATEVER THE INPUT: true; the input reads as it did. -/
def fnOddEquilibriaSpec : ChangeSpec := { name := "fnOddEquilibria", fn := fun _ => fun
  | [d1, d2] => { results := [.lit (.bool true)], args := [d1, d2] }
  | _ => none }
def fnOddEquilibriaRow : OpenClaim := { program := "ytggiicplcglalaagreat", sum := "559560c467430d80caacb412f50c696b53f9dd2f33f45c3a05116e6e034b54da", func := "loop.example/g01160/laws.FnOddEquilibria", spec := "fnOddEquilibria", unfollowed := true, recurses := true, apart := false }
def FnOddEquilibriaSaid : Prop := fnOddEquilibriaRow.holds Tryz.pinned (OpenSpec.ofChange fnOddEquilibriaSpec)

/-- ITS FALSE NEIGHBOUR: 'it returns false'. Refute it at one input. -/
def fnOddEquilibriaWrong : ChangeSpec := { name := "fnOddEquilibria", fn := fun _ => fun
  | [d1, d2] => { results := [.lit (.bool false)], args := [d1, d2] }
  | _ => none }
def FnOddEquilibriaWrongFalsely : Prop := fnOddEquilibriaRow.holds Tryz.pinned (OpenSpec.ofChange fnOddEquilibriaWrong)

/-- 'laws.FnWalksToEquilibria': WHATEVER THE INPUT: true; the input reads as it did. -/
def fnWalksToEquilibriaSpec : ChangeSpec := { name := "fnWalksToEquilibria", fn := fun _ => fun
  | [d1, d2] => { results := [.lit (.bool true)], args := [d1, d2] }
  | _ => none }
def fnWalksToEquilibriaRow : OpenClaim := { program := "ytggiicplcglalaagreat", sum := "559560c467430d80caacb412f50c696b53f9dd2f33f45c3a05116e6e034b54da", func := "loop.example/g01160/laws.FnWalksToEquilibria", spec := "fnWalksToEquilibria", unfollowed := true, recurses := true, apart := false }
def FnWalksToEquilibriaSaid : Prop := fnWalksToEquilibriaRow.holds Tryz.pinned (OpenSpec.ofChange fnWalksToEquilibriaSpec)

/-- ITS FALSE NEIGHBOUR: 'it returns false'. Refute it at one input. -/
def fnWalksToEquilibriaWrong : ChangeSpec := { name := "fnWalksToEquilibria", fn := fun _ => fun
  | [d1, d2] => { results := [.lit (.bool false)], args := [d1, d2] }
  | _ => none }
def FnWalksToEquilibriaWrongFalsely : Prop := fnWalksToEquilibriaRow.holds Tryz.pinned (OpenSpec.ofChange fnWalksToEquilibriaWrong)

/-- 'laws.FnExactWalkSteps': WHATEVER THE INPUT: true; the input reads as it did. -/
def fnExactWalkStepsSpec : ChangeSpec := { name := "fnExactWalkSteps", fn := fun _ => fun
  | [d1, d2] => { results := [.lit (.bool true)], args := [d1, d2] }
  | _ => none }
def fnExactWalkStepsRow : OpenClaim := { program := "ytggiicplcglalaagreat", sum := "559560c467430d80caacb412f50c696b53f9dd2f33f45c3a05116e6e034b54da", func := "loop.example/g01160/laws.FnExactWalkSteps", spec := "fnExactWalkSteps", unfollowed := true, recurses := true, apart := false }
def FnExactWalkStepsSaid : Prop := fnExactWalkStepsRow.holds Tryz.pinned (OpenSpec.ofChange fnExactWalkStepsSpec)

/-- ITS FALSE NEIGHBOUR: 'it returns false'. Refute it at one input. -/
def fnExactWalkStepsWrong : ChangeSpec := { name := "fnExactWalkSteps", fn := fun _ => fun
  | [d1, d2] => { results := [.lit (.bool false)], args := [d1, d2] }
  | _ => none }
def FnExactWalkStepsWrongFalsely : Prop := fnExactWalkStepsRow.holds Tryz.pinned (OpenSpec.ofChange fnExactWalkStepsWrong)

/-- 'laws.FnExactWalkFromLabel': WHATEVER THE INPUT: true; the input reads as it did. -/
def fnExactWalkFromLabelSpec : ChangeSpec := { name := "fnExactWalkFromLabel", fn := fun _ => fun
  | [d1, d2] => { results := [.lit (.bool true)], args := [d1, d2] }
  | _ => none }
def fnExactWalkFromLabelRow : OpenClaim := { program := "ytggiicplcglalaagreat", sum := "559560c467430d80caacb412f50c696b53f9dd2f33f45c3a05116e6e034b54da", func := "loop.example/g01160/laws.FnExactWalkFromLabel", spec := "fnExactWalkFromLabel", unfollowed := true, recurses := true, apart := false }
def FnExactWalkFromLabelSaid : Prop := fnExactWalkFromLabelRow.holds Tryz.pinned (OpenSpec.ofChange fnExactWalkFromLabelSpec)

/-- ITS FALSE NEIGHBOUR: 'it returns false'. Refute it at one input. -/
def fnExactWalkFromLabelWrong : ChangeSpec := { name := "fnExactWalkFromLabel", fn := fun _ => fun
  | [d1, d2] => { results := [.lit (.bool false)], args := [d1, d2] }
  | _ => none }
def FnExactWalkFromLabelWrongFalsely : Prop := fnExactWalkFromLabelRow.holds Tryz.pinned (OpenSpec.ofChange fnExactWalkFromLabelWrong)

/- THE SECOND FORM. 'bulk': how many values and letters a reading holds, each counted each time it is reached (what is shared counts as often as it is met; a slice's spare places count too). A statement '..UptoSaid' is the law's where the arguments, and the package variables that the reading takes, are together of bulk at most 1048576: NARROWER than '..Said'. Prove '..Said' where nothing that the law and all that it calls make is longer than what came in: it says more and counts as full. Else prove '..UptoSaid'. A law counts once. -/
mutual
def uptoBulk {H : Type} : DataW H → Nat
  | .lit (.string bytes) => bytes.length + 1
  | .lit _ => 1
  | .nil => 1
  | .ptr d => uptoBulk d + 1
  | .slice elems spare => uptoBulkAll elems + uptoBulkAll spare + 1
  | .agg parts => uptoBulkAll parts + 1
  | .iface _ d => uptoBulk d + 1
  | .map entries => uptoBulkEntries entries + 1
  | .held _ => 1
def uptoBulkAll {H : Type} : List (DataW H) → Nat
  | [] => 0
  | d :: r => uptoBulk d + uptoBulkAll r
def uptoBulkEntries {H : Type} : List (Lit × DataW H) → Nat
  | [] => 0
  | x :: r => uptoBulkEntry x + uptoBulkEntries r
def uptoBulkEntry {H : Type} : Lit × DataW H → Nat
  | (.string bytes, d) => bytes.length + uptoBulk d + 1
  | (_, d) => uptoBulk d + 1
 end
def uptoSmall : (H : Type) → List (DataW H) → Bool := fun _ ds => decide (uptoBulkAll ds ≤ 1048576)
def OpenSpec.upto (s : _root_.Go.ChangeSpec) : _root_.Go.OpenSpec := { _root_.Go.OpenSpec.ofChange s with cond := some uptoSmall }

/-- 'laws.FnExactAllEquilibria', WHERE WHAT IT READS IS OF BULK AT MOST 1048576: true; the input reads as it did. -/
def fnExactAllEquilibriaUptoRow : OpenClaim := { program := "ytggiicplcglalaagreat", sum := "559560c467430d80caacb412f50c696b53f9dd2f33f45c3a05116e6e034b54da", func := "loop.example/g01160/laws.FnExactAllEquilibria", spec := "fnExactAllEquilibria", unfollowed := true, recurses := true, apart := false, narrowed := true }
def FnExactAllEquilibriaUptoSaid : Prop := fnExactAllEquilibriaUptoRow.holds Tryz.pinned (OpenSpec.upto fnExactAllEquilibriaSpec)

/-- 'laws.FnOddEquilibria', WHERE WHAT IT READS IS OF BULK AT MOST 1048576: true; the input reads as it did. -/
def fnOddEquilibriaUptoRow : OpenClaim := { program := "ytggiicplcglalaagreat", sum := "559560c467430d80caacb412f50c696b53f9dd2f33f45c3a05116e6e034b54da", func := "loop.example/g01160/laws.FnOddEquilibria", spec := "fnOddEquilibria", unfollowed := true, recurses := true, apart := false, narrowed := true }
def FnOddEquilibriaUptoSaid : Prop := fnOddEquilibriaUptoRow.holds Tryz.pinned (OpenSpec.upto fnOddEquilibriaSpec)

/-- 'laws.FnWalksToEquilibria', WHERE WHAT IT READS IS OF BULK AT MOST 1048576: true; the input reads as it did. -/
def fnWalksToEquilibriaUptoRow : OpenClaim := { program := "ytggiicplcglalaagreat", sum := "559560c467430d80caacb412f50c696b53f9dd2f33f45c3a05116e6e034b54da", func := "loop.example/g01160/laws.FnWalksToEquilibria", spec := "fnWalksToEquilibria", unfollowed := true, recurses := true, apart := false, narrowed := true }
def FnWalksToEquilibriaUptoSaid : Prop := fnWalksToEquilibriaUptoRow.holds Tryz.pinned (OpenSpec.upto fnWalksToEquilibriaSpec)

/-- 'laws.FnExactWalkSteps', WHERE WHAT IT READS IS OF BULK AT MOST 1048576: true; the input reads as it did. -/
def fnExactWalkStepsUptoRow : OpenClaim := { program := "ytggiicplcglalaagreat", sum := "559560c467430d80caacb412f50c696b53f9dd2f33f45c3a05116e6e034b54da", func := "loop.example/g01160/laws.FnExactWalkSteps", spec := "fnExactWalkSteps", unfollowed := true, recurses := true, apart := false, narrowed := true }
def FnExactWalkStepsUptoSaid : Prop := fnExactWalkStepsUptoRow.holds Tryz.pinned (OpenSpec.upto fnExactWalkStepsSpec)

/-- 'laws.FnExactWalkFromLabel', WHERE WHAT IT READS IS OF BULK AT MOST 1048576: true; the input reads as it did. -/
def fnExactWalkFromLabelUptoRow : OpenClaim := { program := "ytggiicplcglalaagreat", sum := "559560c467430d80caacb412f50c696b53f9dd2f33f45c3a05116e6e034b54da", func := "loop.example/g01160/laws.FnExactWalkFromLabel", spec := "fnExactWalkFromLabel", unfollowed := true, recurses := true, apart := false, narrowed := true }
def FnExactWalkFromLabelUptoSaid : Prop := fnExactWalkFromLabelUptoRow.holds Tryz.pinned (OpenSpec.upto fnExactWalkFromLabelSpec)

end Rows
end Go.Proofs.YtggiicplcglalaaGreat
