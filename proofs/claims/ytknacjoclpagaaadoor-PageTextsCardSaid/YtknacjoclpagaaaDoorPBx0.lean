-- written by a program of mine (a changed copy of the printer): not the kit's print
import Derived.Test.YtknacjoclpagaaaDoorProg
import Derived.Below
import Derived.Deep.Draws
import Derived.Deep.AppendLies
import Derived.Maps.AppendAt
import Derived.OwnWalk
import Derived.Laws.BytesArg
import Derived.Laws.MakeOwn
import Derived.Laws.OwnMore
import Derived.Deep.OwnRows
import Derived.Tactics
import Derived.Lib.ConvBytes
import Derived.Laws.Slices
import Derived.WalkKit
import Derived.KernelRfl
import Derived.RowKit3
import Derived.Deep.LoopGhost
import Derived.Deep.QuietTactic
import Derived.BigQuiet
import Derived.WideLaws
import Derived.Deep.DeepCutAuto
import Derived.Deep.CutBlock
import Derived.Deep.RegionHeld3
import Derived.Laws.Rows
import Derived.Lib.AppendStr
import Derived.ArgAppend
import Derived.Laws.IdiomCopy
import Derived.OrdersHeld
import Derived.Laws.BitsLemmas
import Derived.RowKit
import Derived.Test.YtknacjoclpagaaaDoorMyCut
import Derived.Test.YtknacjoclpagaaaDoorWWords
import Derived.Test.YtknacjoclpagaaaDoorWLast
import Derived.Test.YtknacjoclpagaaaDoorWTab
import Derived.Test.YtknacjoclpagaaaDoorWFour
import Derived.Test.YtknacjoclpagaaaDoorWQPut
import Derived.Test.YtknacjoclpagaaaDoorWApart
import Derived.Test.YtknacjoclpagaaaDoorWArr
import Derived.Test.YtknacjoclpagaaaDoorWZeros
import Derived.Test.YtknacjoclpagaaaDoorWFoot
import Derived.Test.YtknacjoclpagaaaDoorWKept
import Derived.Test.YtknacjoclpagaaaDoorWShare
import Derived.Test.YtknacjoclpagaaaDoorWN
import Derived.Test.YtknacjoclpagaaaDoorWFootNe
import Derived.Test.YtknacjoclpagaaaDoorWAt
import Derived.Test.YtknacjoclpagaaaDoorWEqStruct
import Derived.Test.YtknacjoclpagaaaDoorWRepsOne
import Derived.Test.YtknacjoclpagaaaDoorWInv
import Derived.Test.YtknacjoclpagaaaDoorWInvWords
import Derived.Test.YtknacjoclpagaaaDoorWGuard
import Derived.Test.YtknacjoclpagaaaDoorWNEv
import Derived.Test.YtknacjoclpagaaaDoorWMore
namespace Go.Proofs.YtknacjoclpagaaaDoor.PB
open Go.Proofs.YtknacjoclpagaaaDoor.MyCut
open Go.RowKit Go.Proofs.YtknacjoclpagaaaDoorW.PrintWords Go.Proofs.YtknacjoclpagaaaDoorW.PrintLast Go.Proofs.YtknacjoclpagaaaDoorW.PrintMore
attribute [local go_sem] max2_int min2_int max_two min_two max_three min_three max_four min_four   -- for this text's walks alone
set_option linter.unusedVariables false
set_option linter.unusedSimpArgs false



def errW : Option Int → Value
  | none => .nilIface
  | some c => .iface 0 (.int .i64 c)
theorem errW_none : errW none = .nilIface := rfl
theorem errW_some (c : Int) : errW (some c) = .iface 0 (.int .i64 c) := rfl

-- the values' own types

end Go.Proofs.YtknacjoclpagaaaDoor.PB
