-- Written by wip/tools/xprint.py (a program of this claim's session, over the kit's print). Lean checks it.
import Derived.Test.YtjklbakimmnjdaaProg
import Derived.Below
import Derived.Deep.Draws
import Derived.Deep.AppendLies
import Derived.Maps.AppendAt
import Derived.OwnWalk
import Derived.Laws.BytesArg
import Derived.Laws.MakeOwn
import Derived.Laws.OwnMore
import Derived.Deep.OwnRows
import Derived.Tactics
import Derived.Lib.ConvBytes
import Derived.Laws.Slices
import Derived.WalkKit
import Derived.KernelRfl
import Derived.RowKit3
import Derived.Deep.LoopGhost
import Derived.Deep.QuietTactic
import Derived.BigQuiet
import Derived.WideLaws
import Derived.Deep.DeepCutAuto
import Derived.Deep.CutBlock
import Derived.Deep.RegionHeld3
import Derived.Laws.Rows
import Derived.Lib.AppendStr
import Derived.ArgAppend
import Derived.Laws.IdiomCopy
import Derived.OrdersHeld
import Derived.Laws.BitsLemmas
import Derived.RowKit
import Derived.Test.YtjklbakimmnjdaaWWords
import Derived.Test.YtjklbakimmnjdaaWLast
import Derived.Test.YtjklbakimmnjdaaWTab
import Derived.Test.YtjklbakimmnjdaaWFour
import Derived.Test.YtjklbakimmnjdaaWQPut
import Derived.Test.YtjklbakimmnjdaaWApart
import Derived.Test.YtjklbakimmnjdaaWArr
import Derived.Test.YtjklbakimmnjdaaWZeros
import Derived.Test.YtjklbakimmnjdaaWFoot
import Derived.Test.YtjklbakimmnjdaaWKept
import Derived.Test.YtjklbakimmnjdaaWShare
import Derived.Test.YtjklbakimmnjdaaWN
import Derived.Test.YtjklbakimmnjdaaWFootNe
import Derived.Test.YtjklbakimmnjdaaWAt
import Derived.Test.YtjklbakimmnjdaaWEqStruct
import Derived.Test.YtjklbakimmnjdaaWRepsOne
import Derived.Test.YtjklbakimmnjdaaWInv
import Derived.Test.YtjklbakimmnjdaaWInvWords
import Derived.Test.YtjklbakimmnjdaaWGuard
import Derived.Test.YtjklbakimmnjdaaWNEv
import Derived.Test.YtjklbakimmnjdaaWMore
namespace Go.Proofs.Ytjklbakimmnjdaa.All
open Go.RowKit Go.Proofs.YtjklbakimmnjdaaW.PrintWords Go.Proofs.YtjklbakimmnjdaaW.PrintLast Go.Proofs.YtjklbakimmnjdaaW.PrintMore
attribute [local go_sem] max2_int min2_int max_two min_two max_three min_three max_four min_four   -- for this text's walks alone
set_option linter.unusedVariables false
set_option linter.unusedSimpArgs false



def errW : Option Int → Value
  | none => .nilIface
  | some c => .iface 0 (.int .i64 c)
theorem errW_none : errW none = .nilIface := rfl
theorem errW_some (c : Int) : errW (some c) = .iface 0 (.int .i64 c) := rfl

theorem info3 : (Try.prog.info? 3).map (fun i => (i.zero, i.size, i.bytes)) = some (some (.int .i64 0), 1, 8) := by kernel_rfl
-- the values' own types

end Go.Proofs.Ytjklbakimmnjdaa.All
