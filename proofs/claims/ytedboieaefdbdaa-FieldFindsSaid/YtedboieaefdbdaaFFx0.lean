-- written by a program of mine (a changed copy of the printer): not the kit's print
import Derived.Test.YtedboieaefdbdaaProg
import Derived.Below
import Derived.Deep.Draws
import Derived.Deep.AppendLies
import Derived.Maps.AppendAt
import Derived.OwnWalk
import Derived.Laws.BytesArg
import Derived.Laws.MakeOwn
import Derived.Laws.OwnMore
import Derived.Deep.OwnRows
import Derived.Tactics
import Derived.Lib.ConvBytes
import Derived.Laws.Slices
import Derived.WalkKit
import Derived.KernelRfl
import Derived.RowKit3
import Derived.Deep.LoopGhost
import Derived.Deep.QuietTactic
import Derived.BigQuiet
import Derived.WideLaws
import Derived.Deep.DeepCutAuto
import Derived.Deep.CutBlock
import Derived.Deep.RegionHeld3
import Derived.Laws.Rows
import Derived.Lib.AppendStr
import Derived.ArgAppend
import Derived.Laws.IdiomCopy
import Derived.OrdersHeld
import Derived.Laws.BitsLemmas
import Derived.RowKit
import Derived.Test.YtedboieaefdbdaaMyCut
import Derived.Test.YtedboieaefdbdaaWWords
import Derived.Test.YtedboieaefdbdaaWLast
import Derived.Test.YtedboieaefdbdaaWTab
import Derived.Test.YtedboieaefdbdaaWFour
import Derived.Test.YtedboieaefdbdaaWQPut
import Derived.Test.YtedboieaefdbdaaWApart
import Derived.Test.YtedboieaefdbdaaWArr
import Derived.Test.YtedboieaefdbdaaWZeros
import Derived.Test.YtedboieaefdbdaaWFoot
import Derived.Test.YtedboieaefdbdaaWKept
import Derived.Test.YtedboieaefdbdaaWShare
import Derived.Test.YtedboieaefdbdaaWN
import Derived.Test.YtedboieaefdbdaaWFootNe
import Derived.Test.YtedboieaefdbdaaWAt
import Derived.Test.YtedboieaefdbdaaWEqStruct
import Derived.Test.YtedboieaefdbdaaWRepsOne
import Derived.Test.YtedboieaefdbdaaWInv
import Derived.Test.YtedboieaefdbdaaWInvWords
import Derived.Test.YtedboieaefdbdaaWGuard
import Derived.Test.YtedboieaefdbdaaWNEv
import Derived.Test.YtedboieaefdbdaaWMore
namespace Go.Proofs.Ytedboieaefdbdaa.FF
open Go.Proofs.Ytedboieaefdbdaa.MyCut
open Go.RowKit Go.Proofs.YtedboieaefdbdaaW.PrintWords Go.Proofs.YtedboieaefdbdaaW.PrintLast Go.Proofs.YtedboieaefdbdaaW.PrintMore
attribute [local go_sem] max2_int min2_int max_two min_two max_three min_three max_four min_four   -- for this text's walks alone
set_option linter.unusedVariables false
set_option linter.unusedSimpArgs false



def errW : Option Int → Value
  | none => .nilIface
  | some c => .iface 0 (.int .i64 c)
theorem errW_none : errW none = .nilIface := rfl
theorem errW_some (c : Int) : errW (some c) = .iface 0 (.int .i64 c) := rfl

theorem info5 : (Try.prog.info? 5).map (fun i => (i.zero, i.size, i.bytes)) = some (some (.int .u8 0), 1, 1) := by kernel_rfl
-- the values' own types

end Go.Proofs.Ytedboieaefdbdaa.FF
