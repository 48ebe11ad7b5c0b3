/- Contracts of functions of the given program (part Sc): what each call returns, and what becomes of the memory. No condition but those that stand in each. -/
import Derived.Test.YtmafphfajgoojaaProg
import Derived.Below
import Derived.Deep.Draws
import Derived.Deep.AppendLies
import Derived.Maps.AppendAt
import Derived.OwnWalk
import Derived.Laws.BytesArg
import Derived.Laws.MakeOwn
import Derived.Laws.OwnMore
import Derived.Deep.OwnRows
import Derived.Tactics
import Derived.Lib.ConvBytes
import Derived.Laws.Slices
import Derived.WalkKit
import Derived.KernelRfl
import Derived.RowKit3
import Derived.Deep.LoopGhost
import Derived.Deep.QuietTactic
import Derived.BigQuiet
import Derived.WideLaws
import Derived.Deep.DeepCutAuto
import Derived.Deep.CutBlock
import Derived.Deep.RegionHeld3
import Derived.Laws.Rows
import Derived.Lib.AppendStr
import Derived.ArgAppend
import Derived.Laws.IdiomCopy
import Derived.OrdersHeld
import Derived.Laws.BitsLemmas
import Derived.RowKit
import Derived.Test.YtmafphfajgoojaaVal
import Derived.Test.YtmafphfajgoojaaWWords
import Derived.Test.YtmafphfajgoojaaWLast
import Derived.Test.YtmafphfajgoojaaWTab
import Derived.Test.YtmafphfajgoojaaWQPut
import Derived.Test.YtmafphfajgoojaaWApart
import Derived.Test.YtmafphfajgoojaaWArr
import Derived.Test.YtmafphfajgoojaaWZeros
import Derived.Test.YtmafphfajgoojaaWFoot
import Derived.Test.YtmafphfajgoojaaWKept
import Derived.Test.YtmafphfajgoojaaWShare
import Derived.Test.YtmafphfajgoojaaWN
import Derived.Test.YtmafphfajgoojaaWGuard
import Derived.Test.YtmafphfajgoojaaWNEv
import Derived.Test.YtmafphfajgoojaaWMore
namespace Go.Proofs.Ytmafphfajgoojaa.Sc
open Go.RowKit Go.Proofs.YtmafphfajgoojaaW.PrintWords Go.Proofs.YtmafphfajgoojaaW.PrintLast Go.Proofs.YtmafphfajgoojaaW.PrintMore
attribute [local go_sem] max2_int min2_int max_two min_two max_three min_three max_four min_four   -- for this text's walks alone
set_option linter.unusedVariables false
set_option linter.unusedSimpArgs false



def errW : Option Int → Value
  | none => .nilIface
  | some c => .iface 0 (.int .i64 c)
theorem errW_none : errW none = .nilIface := rfl
theorem errW_some (c : Int) : errW (some c) = .iface 0 (.int .i64 c) := rfl

theorem info3 : (Try.prog.info? 3).map (fun i => (i.zero, i.size, i.bytes)) = some (some (.int .i64 0), 1, 8) := by kernel_rfl
-- the values' own types

end Go.Proofs.Ytmafphfajgoojaa.Sc
