-- written by a program of mine (a changed copy of the printer): not the kit's print
import Derived.Test.YtknacjoclpagaaaProg
import Derived.Below
import Derived.Deep.Draws
import Derived.Deep.AppendLies
import Derived.Maps.AppendAt
import Derived.OwnWalk
import Derived.Laws.BytesArg
import Derived.Laws.MakeOwn
import Derived.Laws.OwnMore
import Derived.Deep.OwnRows
import Derived.Tactics
import Derived.Lib.ConvBytes
import Derived.Laws.Slices
import Derived.WalkKit
import Derived.KernelRfl
import Derived.RowKit3
import Derived.Deep.LoopGhost
import Derived.Deep.QuietTactic
import Derived.BigQuiet
import Derived.WideLaws
import Derived.Deep.DeepCutAuto
import Derived.Deep.CutBlock
import Derived.Deep.RegionHeld3
import Derived.Laws.Rows
import Derived.Lib.AppendStr
import Derived.ArgAppend
import Derived.Laws.IdiomCopy
import Derived.OrdersHeld
import Derived.Laws.BitsLemmas
import Derived.RowKit
import Derived.Test.YtknacjoclpagaaaMyCut
import Derived.Test.YtknacjoclpagaaaPageBuild0
import Derived.Test.YtknacjoclpagaaaPageUp0
import Derived.Test.YtknacjoclpagaaaWWords
import Derived.Test.YtknacjoclpagaaaWLast
import Derived.Test.YtknacjoclpagaaaWTab
import Derived.Test.YtknacjoclpagaaaWFour
import Derived.Test.YtknacjoclpagaaaWQPut
import Derived.Test.YtknacjoclpagaaaWApart
import Derived.Test.YtknacjoclpagaaaWArr
import Derived.Test.YtknacjoclpagaaaWZeros
import Derived.Test.YtknacjoclpagaaaWFoot
import Derived.Test.YtknacjoclpagaaaWKept
import Derived.Test.YtknacjoclpagaaaWShare
import Derived.Test.YtknacjoclpagaaaWN
import Derived.Test.YtknacjoclpagaaaWFootNe
import Derived.Test.YtknacjoclpagaaaWAt
import Derived.Test.YtknacjoclpagaaaWEqStruct
import Derived.Test.YtknacjoclpagaaaWRepsOne
import Derived.Test.YtknacjoclpagaaaWInv
import Derived.Test.YtknacjoclpagaaaWInvWords
import Derived.Test.YtknacjoclpagaaaWGuard
import Derived.Test.YtknacjoclpagaaaWNEv
import Derived.Test.YtknacjoclpagaaaWMore
namespace Go.Proofs.Ytknacjoclpagaaa.PB
open Go.Proofs.Ytknacjoclpagaaa.MyCut
open Go.RowKit Go.Proofs.YtknacjoclpagaaaW.PrintWords Go.Proofs.YtknacjoclpagaaaW.PrintLast Go.Proofs.YtknacjoclpagaaaW.PrintMore
attribute [local go_sem] max2_int min2_int max_two min_two max_three min_three max_four min_four   -- for this text's walks alone
set_option linter.unusedVariables false
set_option linter.unusedSimpArgs false



def errW : Option Int → Value
  | none => .nilIface
  | some c => .iface 0 (.int .i64 c)
theorem errW_none : errW none = .nilIface := rfl
theorem errW_some (c : Int) : errW (some c) = .iface 0 (.int .i64 c) := rfl

-- the values' own types

end Go.Proofs.Ytknacjoclpagaaa.PB
