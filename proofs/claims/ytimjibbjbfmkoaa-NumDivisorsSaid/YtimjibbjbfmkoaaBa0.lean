/- Contracts of functions of the given program (part Ba): what each call returns, and what becomes of the memory. No condition but those that stand in each. -/
import Derived.Test.YtimjibbjbfmkoaaProg
import Derived.Below
import Derived.Deep.Draws
import Derived.Deep.AppendLies
import Derived.Maps.AppendAt
import Derived.OwnWalk
import Derived.Laws.BytesArg
import Derived.Laws.MakeOwn
import Derived.Laws.OwnMore
import Derived.Deep.OwnRows
import Derived.Tactics
import Derived.Lib.ConvBytes
import Derived.Laws.Slices
import Derived.WalkKit
import Derived.KernelRfl
import Derived.RowKit3
import Derived.Deep.LoopGhost
import Derived.Deep.QuietTactic
import Derived.BigQuiet
import Derived.WideLaws
import Derived.Deep.DeepCutAuto
import Derived.Deep.CutBlock
import Derived.Deep.RegionHeld3
import Derived.Laws.Rows
import Derived.Lib.AppendStr
import Derived.ArgAppend
import Derived.Laws.IdiomCopy
import Derived.OrdersHeld
import Derived.Laws.BitsLemmas
import Derived.RowKit
import Derived.Test.YtimjibbjbfmkoaaWWords
import Derived.Test.YtimjibbjbfmkoaaWLast
import Derived.Test.YtimjibbjbfmkoaaWTab
import Derived.Test.YtimjibbjbfmkoaaWFour
import Derived.Test.YtimjibbjbfmkoaaWQPut
import Derived.Test.YtimjibbjbfmkoaaWApart
import Derived.Test.YtimjibbjbfmkoaaWArr
import Derived.Test.YtimjibbjbfmkoaaWZeros
import Derived.Test.YtimjibbjbfmkoaaWFoot
import Derived.Test.YtimjibbjbfmkoaaWKept
import Derived.Test.YtimjibbjbfmkoaaWShare
import Derived.Test.YtimjibbjbfmkoaaWN
import Derived.Test.YtimjibbjbfmkoaaWFootNe
import Derived.Test.YtimjibbjbfmkoaaWAt
import Derived.Test.YtimjibbjbfmkoaaWEqStruct
import Derived.Test.YtimjibbjbfmkoaaWRepsOne
import Derived.Test.YtimjibbjbfmkoaaWInv
import Derived.Test.YtimjibbjbfmkoaaWInvWords
import Derived.Test.YtimjibbjbfmkoaaWGuard
import Derived.Test.YtimjibbjbfmkoaaWNEv
import Derived.Test.YtimjibbjbfmkoaaWMore
namespace Go.Proofs.Ytimjibbjbfmkoaa.Ba
open Go.RowKit Go.Proofs.YtimjibbjbfmkoaaW.PrintWords Go.Proofs.YtimjibbjbfmkoaaW.PrintLast Go.Proofs.YtimjibbjbfmkoaaW.PrintMore
attribute [local go_sem] max2_int min2_int max_two min_two max_three min_three max_four min_four   -- for this text's walks alone
set_option linter.unusedVariables false
set_option linter.unusedSimpArgs false



def errW : Option Int → Value
  | none => .nilIface
  | some c => .iface 0 (.int .i64 c)
theorem errW_none : errW none = .nilIface := rfl
theorem errW_some (c : Int) : errW (some c) = .iface 0 (.int .i64 c) := rfl

-- the values' own types

end Go.Proofs.Ytimjibbjbfmkoaa.Ba
