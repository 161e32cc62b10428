-- written by a program of mine (a changed copy of the printer): not the kit's print
import Derived.Test.YtbbmcfbfkpnelaaProg
import Derived.Below
import Derived.Deep.Draws
import Derived.Deep.AppendLies
import Derived.Maps.AppendAt
import Derived.OwnWalk
import Derived.Laws.BytesArg
import Derived.Laws.MakeOwn
import Derived.Laws.OwnMore
import Derived.Deep.OwnRows
import Derived.Tactics
import Derived.Lib.ConvBytes
import Derived.Laws.Slices
import Derived.WalkKit
import Derived.KernelRfl
import Derived.RowKit3
import Derived.Deep.LoopGhost
import Derived.Deep.QuietTactic
import Derived.BigQuiet
import Derived.WideLaws
import Derived.Deep.DeepCutAuto
import Derived.Deep.CutBlock
import Derived.Deep.RegionHeld3
import Derived.Laws.Rows
import Derived.Lib.AppendStr
import Derived.ArgAppend
import Derived.Laws.IdiomCopy
import Derived.OrdersHeld
import Derived.Laws.BitsLemmas
import Derived.RowKit
import Derived.Test.YtbbmcfbfkpnelaaMyCut
import Derived.Test.YtbbmcfbfkpnelaaShelf
import Derived.Test.YtbbmcfbfkpnelaaProbeTwins2
import Derived.Test.YtbbmcfbfkpnelaaWWords
import Derived.Test.YtbbmcfbfkpnelaaWLast
import Derived.Test.YtbbmcfbfkpnelaaWTab
import Derived.Test.YtbbmcfbfkpnelaaWFour
import Derived.Test.YtbbmcfbfkpnelaaWQPut
import Derived.Test.YtbbmcfbfkpnelaaWApart
import Derived.Test.YtbbmcfbfkpnelaaWArr
import Derived.Test.YtbbmcfbfkpnelaaWZeros
import Derived.Test.YtbbmcfbfkpnelaaWFoot
import Derived.Test.YtbbmcfbfkpnelaaWKept
import Derived.Test.YtbbmcfbfkpnelaaWShare
import Derived.Test.YtbbmcfbfkpnelaaWN
import Derived.Test.YtbbmcfbfkpnelaaWFootNe
import Derived.Test.YtbbmcfbfkpnelaaWAt
import Derived.Test.YtbbmcfbfkpnelaaWEqStruct
import Derived.Test.YtbbmcfbfkpnelaaWRepsOne
import Derived.Test.YtbbmcfbfkpnelaaWInv
import Derived.Test.YtbbmcfbfkpnelaaWInvWords
import Derived.Test.YtbbmcfbfkpnelaaWGuard
import Derived.Test.YtbbmcfbfkpnelaaWNEv
import Derived.Test.YtbbmcfbfkpnelaaWMore
namespace Go.Proofs.Ytbbmcfbfkpnelaa.QA
open Go.Proofs.Ytbbmcfbfkpnelaa.MyCut
open Go.RowKit Go.Proofs.YtbbmcfbfkpnelaaW.PrintWords Go.Proofs.YtbbmcfbfkpnelaaW.PrintLast Go.Proofs.YtbbmcfbfkpnelaaW.PrintMore
attribute [local go_sem] max2_int min2_int max_two min_two max_three min_three max_four min_four   -- for this text's walks alone
set_option linter.unusedVariables false
set_option linter.unusedSimpArgs false



def errW : Option Int → Value
  | none => .nilIface
  | some c => .iface 0 (.int .i64 c)
theorem errW_none : errW none = .nilIface := rfl
theorem errW_some (c : Int) : errW (some c) = .iface 0 (.int .i64 c) := rfl

theorem info3 : (Try.prog.info? 3).map (fun i => (i.zero, i.size, i.bytes)) = some (some (.int .i64 0), 1, 8) := by kernel_rfl
theorem info5 : (Try.prog.info? 5).map (fun i => (i.zero, i.size, i.bytes)) = some (some (.int .u8 0), 1, 1) := by kernel_rfl
-- the values' own types

end Go.Proofs.Ytbbmcfbfkpnelaa.QA
