/-
  No cell of these rows narrows 'for every input' (looked for: loops, veiled, ifaces, maps, wideKeys, modest, calm, conditions, laid).
  DERIVED. THE GIVEN ROWS OF THIS SEAT. 3 by the template 'for every input the law returns true; each argument reads behind the call as it read before'; 0 by the template 'total and deterministic' (their statements: YtdcdjhbmdbghiaaTotals.lean).
  GIVEN WITH THE SEED: the statements are not yours to turn. If you find one false, say at which input.
  Laid BY PROGRAM, IN A SANDBOX (cutbox-rows.mjs): the forced cells as the released guide's own fill.sh prints them over the translation bbee0150ea38aaa1… (all of the seat's roots in one cut). By AI agents, Wed Nov 11 2026. No macro, syntax, notation, axiom, sorry.
-/
import Derived.Test.YtdcdjhbmdbghiaaChecked
import GoSem.Claim
import GoSem.ClaimJoined
import GoSem.ClaimMapViews
import Derived.JoinedTies
import Derived.KernelRfl
namespace Go.Proofs.Ytdcdjhbmdbghiaa
/- THE CELL 'sum', in the pinned program and in every row, IS THE sha256 OF THE DUMP (.gsa) THAT YtdcdjhbmdbghiaaProg.lean LOADS. Nothing in Lean hashes anything: it is a label: what it is worth is what the hold of that sum in a sandbox is worth. -/
noncomputable def Try.pinned : Pinned := { name := "ytdcdjhbmdbghiaa", sum := "bbee0150ea38aaa1922fa1bbd570fe5139f21165153c99dfa28b671a78ffe288", checked := Try.checked }
namespace Rows
def none {H : Type} : Left H := { results := [], args := [] }

/-- 'laws.FnExactSignsOfFixed': WHATEVER THE INPUT: true; the input reads as it did. -/
def fnExactSignsOfFixedSpec : ChangeSpec := { name := "fnExactSignsOfFixed", fn := fun _ => fun
  | [d1, d2] => { results := [.lit (.bool true)], args := [d1, d2] }
  | _ => none }
def fnExactSignsOfFixedRow : OpenClaim := { program := "ytdcdjhbmdbghiaa", sum := "bbee0150ea38aaa1922fa1bbd570fe5139f21165153c99dfa28b671a78ffe288", func := "loop.example/g01160/laws.FnExactSignsOfFixed", spec := "fnExactSignsOfFixed", unfollowed := true, recurses := true, apart := false }
def FnExactSignsOfFixedSaid : Prop := fnExactSignsOfFixedRow.holds Try.pinned (OpenSpec.ofChange fnExactSignsOfFixedSpec)

/-- ITS FALSE NEIGHBOUR: 'it returns false'. Refute it at one input. -/
def fnExactSignsOfFixedWrong : ChangeSpec := { name := "fnExactSignsOfFixed", fn := fun _ => fun
  | [d1, d2] => { results := [.lit (.bool false)], args := [d1, d2] }
  | _ => none }
def FnExactSignsOfFixedWrongFalsely : Prop := fnExactSignsOfFixedRow.holds Try.pinned (OpenSpec.ofChange fnExactSignsOfFixedWrong)

/-- 'laws.FnImagesMade': WHATEVER THE INPUT: true; the input reads as it did. -/
def fnImagesMadeSpec : ChangeSpec := { name := "fnImagesMade", fn := fun _ => fun
  | [d1, d2] => { results := [.lit (.bool true)], args := [d1, d2] }
  | _ => none }
def fnImagesMadeRow : OpenClaim := { program := "ytdcdjhbmdbghiaa", sum := "bbee0150ea38aaa1922fa1bbd570fe5139f21165153c99dfa28b671a78ffe288", func := "loop.example/g01160/laws.FnImagesMade", spec := "fnImagesMade", unfollowed := true, recurses := true, apart := false }
def FnImagesMadeSaid : Prop := fnImagesMadeRow.holds Try.pinned (OpenSpec.ofChange fnImagesMadeSpec)

/-- ITS FALSE NEIGHBOUR: 'it returns false'. Refute it at one input. -/
def fnImagesMadeWrong : ChangeSpec := { name := "fnImagesMade", fn := fun _ => fun
  | [d1, d2] => { results := [.lit (.bool false)], args := [d1, d2] }
  | _ => none }
def FnImagesMadeWrongFalsely : Prop := fnImagesMadeRow.holds Try.pinned (OpenSpec.ofChange fnImagesMadeWrong)

/-- 'laws.FnFixedPointsExact': WHATEVER THE INPUT: true; the input reads as it did. -/
def fnFixedPointsExactSpec : ChangeSpec := { name := "fnFixedPointsExact", fn := fun _ => fun
  | [d1, d2] => { results := [.lit (.bool true)], args := [d1, d2] }
  | _ => none }
def fnFixedPointsExactRow : OpenClaim := { program := "ytdcdjhbmdbghiaa", sum := "bbee0150ea38aaa1922fa1bbd570fe5139f21165153c99dfa28b671a78ffe288", func := "loop.example/g01160/laws.FnFixedPointsExact", spec := "fnFixedPointsExact", unfollowed := true, recurses := true, apart := false }
def FnFixedPointsExactSaid : Prop := fnFixedPointsExactRow.holds Try.pinned (OpenSpec.ofChange fnFixedPointsExactSpec)

/-- ITS FALSE NEIGHBOUR: 'it returns false'. Refute it at one input. -/
def fnFixedPointsExactWrong : ChangeSpec := { name := "fnFixedPointsExact", fn := fun _ => fun
  | [d1, d2] => { results := [.lit (.bool false)], args := [d1, d2] }
  | _ => none }
def FnFixedPointsExactWrongFalsely : Prop := fnFixedPointsExactRow.holds Try.pinned (OpenSpec.ofChange fnFixedPointsExactWrong)

/- THE SECOND FORM. 'bulk': how many values and letters a reading holds, each counted each time it is reached (what is shared counts as often as it is met; a slice's spare places count too). A statement '..UptoSaid' is the law's where the arguments, and the package variables that the reading takes, are together of bulk at most 1048576: NARROWER than '..Said'. Prove '..Said' where nothing that the law and all that it calls make is longer than what came in: it says more and counts as full. Else prove '..UptoSaid'. A law counts once. -/
mutual
def uptoBulk {H : Type} : DataW H → Nat
  | .lit (.string bytes) => bytes.length + 1
  | .lit _ => 1
  | .nil => 1
  | .ptr d => uptoBulk d + 1
  | .slice elems spare => uptoBulkAll elems + uptoBulkAll spare + 1
  | .agg parts => uptoBulkAll parts + 1
  | .iface _ d => uptoBulk d + 1
  | .map entries => uptoBulkEntries entries + 1
  | .held _ => 1
def uptoBulkAll {H : Type} : List (DataW H) → Nat
  | [] => 0
  | d :: r => uptoBulk d + uptoBulkAll r
def uptoBulkEntries {H : Type} : List (Lit × DataW H) → Nat
  | [] => 0
  | x :: r => uptoBulkEntry x + uptoBulkEntries r
def uptoBulkEntry {H : Type} : Lit × DataW H → Nat
  | (.string bytes, d) => bytes.length + uptoBulk d + 1
  | (_, d) => uptoBulk d + 1
 end
def uptoSmall : (H : Type) → List (DataW H) → Bool := fun _ ds => decide (uptoBulkAll ds ≤ 1048576)
def OpenSpec.upto (s : _root_.Go.ChangeSpec) : _root_.Go.OpenSpec := { _root_.Go.OpenSpec.ofChange s with cond := some uptoSmall }

/-- 'laws.FnExactSignsOfFixed', WHERE WHAT IT READS IS OF BULK AT MOST 1048576: true; the input reads as it did. -/
def fnExactSignsOfFixedUptoRow : OpenClaim := { program := "ytdcdjhbmdbghiaa", sum := "bbee0150ea38aaa1922fa1bbd570fe5139f21165153c99dfa28b671a78ffe288", func := "loop.example/g01160/laws.FnExactSignsOfFixed", spec := "fnExactSignsOfFixed", unfollowed := true, recurses := true, apart := false, narrowed := true }
def FnExactSignsOfFixedUptoSaid : Prop := fnExactSignsOfFixedUptoRow.holds Try.pinned (OpenSpec.upto fnExactSignsOfFixedSpec)

/-- 'laws.FnImagesMade', WHERE WHAT IT READS IS OF BULK AT MOST 1048576: true; the input reads as it did. -/
def fnImagesMadeUptoRow : OpenClaim := { program := "ytdcdjhbmdbghiaa", sum := "bbee0150ea38aaa1922fa1bbd570fe5139f21165153c99dfa28b671a78ffe288", func := "loop.example/g01160/laws.FnImagesMade", spec := "fnImagesMade", unfollowed := true, recurses := true, apart := false, narrowed := true }
def FnImagesMadeUptoSaid : Prop := fnImagesMadeUptoRow.holds Try.pinned (OpenSpec.upto fnImagesMadeSpec)

/-- 'laws.FnFixedPointsExact', WHERE WHAT IT READS IS OF BULK AT MOST 1048576: true; the input reads as it did. -/
def fnFixedPointsExactUptoRow : OpenClaim := { program := "ytdcdjhbmdbghiaa", sum := "bbee0150ea38aaa1922fa1bbd570fe5139f21165153c99dfa28b671a78ffe288", func := "loop.example/g01160/laws.FnFixedPointsExact", spec := "fnFixedPointsExact", unfollowed := true, recurses := true, apart := false, narrowed := true }
def FnFixedPointsExactUptoSaid : Prop := fnFixedPointsExactUptoRow.holds Try.pinned (OpenSpec.upto fnFixedPointsExactSpec)

end Rows
end Go.Proofs.Ytdcdjhbmdbghiaa
