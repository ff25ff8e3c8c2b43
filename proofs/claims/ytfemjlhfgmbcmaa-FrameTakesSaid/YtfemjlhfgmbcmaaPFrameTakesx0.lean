/- Printed by this session's own program myprint.py over the kit's print, with the contracts that are proved by hand laid in. -/
import Derived.Test.YtfemjlhfgmbcmaaProg
import Derived.Below
import Derived.Deep.Draws
import Derived.Deep.AppendLies
import Derived.Maps.AppendAt
import Derived.OwnWalk
import Derived.Laws.BytesArg
import Derived.Laws.MakeOwn
import Derived.Laws.OwnMore
import Derived.Deep.OwnRows
import Derived.Tactics
import Derived.Lib.ConvBytes
import Derived.Laws.Slices
import Derived.WalkKit
import Derived.KernelRfl
import Derived.RowKit3
import Derived.Deep.LoopGhost
import Derived.Deep.QuietTactic
import Derived.BigQuiet
import Derived.WideLaws
import Derived.Deep.DeepCutAuto
import Derived.Deep.CutBlock
import Derived.Deep.RegionHeld3
import Derived.Laws.Rows
import Derived.Lib.AppendStr
import Derived.ArgAppend
import Derived.Laws.IdiomCopy
import Derived.OrdersHeld
import Derived.Laws.BitsLemmas
import Derived.RowKit
import Derived.Test.YtfemjlhfgmbcmaaFf
import Derived.Test.YtfemjlhfgmbcmaaWWords
import Derived.Test.YtfemjlhfgmbcmaaWLast
import Derived.Test.YtfemjlhfgmbcmaaWTab
import Derived.Test.YtfemjlhfgmbcmaaWFour
import Derived.Test.YtfemjlhfgmbcmaaWQPut
import Derived.Test.YtfemjlhfgmbcmaaWApart
import Derived.Test.YtfemjlhfgmbcmaaWArr
import Derived.Test.YtfemjlhfgmbcmaaWZeros
import Derived.Test.YtfemjlhfgmbcmaaWFoot
import Derived.Test.YtfemjlhfgmbcmaaWKept
import Derived.Test.YtfemjlhfgmbcmaaWShare
import Derived.Test.YtfemjlhfgmbcmaaWN
import Derived.Test.YtfemjlhfgmbcmaaWFootNe
import Derived.Test.YtfemjlhfgmbcmaaWAt
import Derived.Test.YtfemjlhfgmbcmaaWEqStruct
import Derived.Test.YtfemjlhfgmbcmaaWRepsOne
import Derived.Test.YtfemjlhfgmbcmaaWInv
import Derived.Test.YtfemjlhfgmbcmaaWInvWords
import Derived.Test.YtfemjlhfgmbcmaaWGuard
import Derived.Test.YtfemjlhfgmbcmaaWNEv
import Derived.Test.YtfemjlhfgmbcmaaWMore
namespace Go.Proofs.Ytfemjlhfgmbcmaa.PFrameTakes
open Go.RowKit Go.Proofs.YtfemjlhfgmbcmaaW.PrintWords Go.Proofs.YtfemjlhfgmbcmaaW.PrintLast Go.Proofs.YtfemjlhfgmbcmaaW.PrintMore
attribute [local go_sem] max2_int min2_int max_two min_two max_three min_three max_four min_four   -- for this text's walks alone
set_option linter.unusedVariables false
set_option linter.unusedSimpArgs false



def errW : Option Int → Value
  | none => .nilIface
  | some c => .iface 0 (.int .i64 c)
theorem errW_none : errW none = .nilIface := rfl
theorem errW_some (c : Int) : errW (some c) = .iface 0 (.int .i64 c) := rfl

-- the values' own types

end Go.Proofs.Ytfemjlhfgmbcmaa.PFrameTakes
