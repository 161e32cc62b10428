-- written by a program of mine (a changed copy of the printer): not the kit's print
import Derived.Test.YtpmiofjhgmdghaaProg
import Derived.Below
import Derived.Deep.Draws
import Derived.Deep.AppendLies
import Derived.Maps.AppendAt
import Derived.OwnWalk
import Derived.Laws.BytesArg
import Derived.Laws.MakeOwn
import Derived.Laws.OwnMore
import Derived.Deep.OwnRows
import Derived.Tactics
import Derived.Lib.ConvBytes
import Derived.Laws.Slices
import Derived.WalkKit
import Derived.KernelRfl
import Derived.RowKit3
import Derived.Deep.LoopGhost
import Derived.Deep.QuietTactic
import Derived.BigQuiet
import Derived.WideLaws
import Derived.Deep.DeepCutAuto
import Derived.Deep.CutBlock
import Derived.Deep.RegionHeld3
import Derived.Laws.Rows
import Derived.Lib.AppendStr
import Derived.ArgAppend
import Derived.Laws.IdiomCopy
import Derived.OrdersHeld
import Derived.Laws.BitsLemmas
import Derived.RowKit
import Derived.Test.YtpmiofjhgmdghaaMyCut
import Derived.Test.YtpmiofjhgmdghaaWWords
import Derived.Test.YtpmiofjhgmdghaaWLast
import Derived.Test.YtpmiofjhgmdghaaWTab
import Derived.Test.YtpmiofjhgmdghaaWFour
import Derived.Test.YtpmiofjhgmdghaaWQPut
import Derived.Test.YtpmiofjhgmdghaaWApart
import Derived.Test.YtpmiofjhgmdghaaWArr
import Derived.Test.YtpmiofjhgmdghaaWZeros
import Derived.Test.YtpmiofjhgmdghaaWFoot
import Derived.Test.YtpmiofjhgmdghaaWKept
import Derived.Test.YtpmiofjhgmdghaaWShare
import Derived.Test.YtpmiofjhgmdghaaWN
import Derived.Test.YtpmiofjhgmdghaaWFootNe
import Derived.Test.YtpmiofjhgmdghaaWAt
import Derived.Test.YtpmiofjhgmdghaaWEqStruct
import Derived.Test.YtpmiofjhgmdghaaWRepsOne
import Derived.Test.YtpmiofjhgmdghaaWInv
import Derived.Test.YtpmiofjhgmdghaaWInvWords
import Derived.Test.YtpmiofjhgmdghaaWGuard
import Derived.Test.YtpmiofjhgmdghaaWNEv
import Derived.Test.YtpmiofjhgmdghaaWMore
namespace Go.Proofs.Ytpmiofjhgmdghaa.RC
open Go.Proofs.Ytpmiofjhgmdghaa.MyCut
open Go.RowKit Go.Proofs.YtpmiofjhgmdghaaW.PrintWords Go.Proofs.YtpmiofjhgmdghaaW.PrintLast Go.Proofs.YtpmiofjhgmdghaaW.PrintMore
attribute [local go_sem] max2_int min2_int max_two min_two max_three min_three max_four min_four   -- for this text's walks alone
set_option linter.unusedVariables false
set_option linter.unusedSimpArgs false



def errW : Option Int → Value
  | none => .nilIface
  | some c => .iface 0 (.int .i64 c)
theorem errW_none : errW none = .nilIface := rfl
theorem errW_some (c : Int) : errW (some c) = .iface 0 (.int .i64 c) := rfl

theorem info5 : (Try.prog.info? 5).map (fun i => (i.zero, i.size, i.bytes)) = some (some (.int .u8 0), 1, 1) := by kernel_rfl
-- the values' own types

end Go.Proofs.Ytpmiofjhgmdghaa.RC
