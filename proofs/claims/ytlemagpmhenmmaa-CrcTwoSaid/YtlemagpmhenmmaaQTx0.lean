-- written by a program of mine (a changed copy of the printer): not the kit's print
import Derived.Test.YtlemagpmhenmmaaProg
import Derived.Below
import Derived.Deep.Draws
import Derived.Deep.AppendLies
import Derived.Maps.AppendAt
import Derived.OwnWalk
import Derived.Laws.BytesArg
import Derived.Laws.MakeOwn
import Derived.Laws.OwnMore
import Derived.Deep.OwnRows
import Derived.Tactics
import Derived.Lib.ConvBytes
import Derived.Laws.Slices
import Derived.WalkKit
import Derived.KernelRfl
import Derived.RowKit3
import Derived.Deep.LoopGhost
import Derived.Deep.QuietTactic
import Derived.BigQuiet
import Derived.WideLaws
import Derived.Deep.DeepCutAuto
import Derived.Deep.CutBlock
import Derived.Deep.RegionHeld3
import Derived.Laws.Rows
import Derived.Lib.AppendStr
import Derived.ArgAppend
import Derived.Laws.IdiomCopy
import Derived.OrdersHeld
import Derived.Laws.BitsLemmas
import Derived.RowKit
import Derived.Test.YtlemagpmhenmmaaCrcLives0
import Derived.Test.YtlemagpmhenmmaaMyCut
import Derived.Test.YtlemagpmhenmmaaWWords
import Derived.Test.YtlemagpmhenmmaaWLast
import Derived.Test.YtlemagpmhenmmaaWTab
import Derived.Test.YtlemagpmhenmmaaWFour
import Derived.Test.YtlemagpmhenmmaaWQPut
import Derived.Test.YtlemagpmhenmmaaWApart
import Derived.Test.YtlemagpmhenmmaaWArr
import Derived.Test.YtlemagpmhenmmaaWZeros
import Derived.Test.YtlemagpmhenmmaaWFoot
import Derived.Test.YtlemagpmhenmmaaWKept
import Derived.Test.YtlemagpmhenmmaaWShare
import Derived.Test.YtlemagpmhenmmaaWN
import Derived.Test.YtlemagpmhenmmaaWFootNe
import Derived.Test.YtlemagpmhenmmaaWAt
import Derived.Test.YtlemagpmhenmmaaWEqStruct
import Derived.Test.YtlemagpmhenmmaaWRepsOne
import Derived.Test.YtlemagpmhenmmaaWInv
import Derived.Test.YtlemagpmhenmmaaWInvWords
import Derived.Test.YtlemagpmhenmmaaWGuard
import Derived.Test.YtlemagpmhenmmaaWNEv
import Derived.Test.YtlemagpmhenmmaaWMore
namespace Go.Proofs.Ytlemagpmhenmmaa.QT
open Go.Proofs.Ytlemagpmhenmmaa.MyCut
open Go.RowKit Go.Proofs.YtlemagpmhenmmaaW.PrintWords Go.Proofs.YtlemagpmhenmmaaW.PrintLast Go.Proofs.YtlemagpmhenmmaaW.PrintMore
attribute [local go_sem] max2_int min2_int max_two min_two max_three min_three max_four min_four   -- for this text's walks alone
set_option linter.unusedVariables false
set_option linter.unusedSimpArgs false



def errW : Option Int → Value
  | none => .nilIface
  | some c => .iface 0 (.int .i64 c)
theorem errW_none : errW none = .nilIface := rfl
theorem errW_some (c : Int) : errW (some c) = .iface 0 (.int .i64 c) := rfl

theorem info5 : (Try.prog.info? 5).map (fun i => (i.zero, i.size, i.bytes)) = some (some (.int .u8 0), 1, 1) := by kernel_rfl
-- the values' own types

end Go.Proofs.Ytlemagpmhenmmaa.QT
