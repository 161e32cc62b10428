/- What the library's contracts say for package report, in the printed functions' form; the table that strconv reads. -/
import Derived.Test.YtjhhgekpejdmoaaDoorShelf
import Derived.Test.YtjhhgekpejdmoaaDoorRepPlain
import Derived.Test.YtjhhgekpejdmoaaDoorDosBits
import Derived.Lib.AppendIntMem
namespace Go.Proofs.YtjhhgekpejdmoaaDoor.Rp
open Go Go.RowKit Go.Proofs.YtjhhgekpejdmoaaDoorW.PrintWords Go.Proofs.YtjhhgekpejdmoaaDoorW.PrintLast Go.Proofs.YtjhhgekpejdmoaaDoorW.PrintMore
set_option linter.unusedVariables false
def Tabs (w : World) : Prop := Lib.TabIs Tryd.prog w "internal/strconv.uint64pow10" .u64 Lib.pow10Tab
theorem Tabs_below {w w' : World} (h : Tabs w) (hb : Below w.heap.size w w') : Tabs w' := (Lib.tabBelow_of_tabIs h).on hb |>.here
theorem itoa_calls (n : Int) (h0 : -9223372036854775808 ≤ n) (h1 : n ≤ 9223372036854775807) (w : World) (hT : Tabs w) :
    Calls Tryd.prog 29 #[.int .i64 n] w fun e w' => e = .returned (.string ⟨(Lib.itoa n).toArray⟩) ∧ Below w.heap.size w w' :=
  (Tryd.strconv_Itoa n h0 h1 w hT).mono fun e w' ⟨he, k, os, hw⟩ => ⟨he, by rw [hw]; exact Lib.below_grow _ w (Nat.le_refl _) k os⟩
theorem repeat_calls (s : ByteArray) (n : Nat) (hn : s.size * n ≤ 140737488355328) (h2 : n ≤ 9223372036854775807) (w : World) :
    Calls Tryd.prog 43 #[.string s, .int .i64 n] w fun e w' => e = .returned (.string ⟨(Lib.repeatL s.data.toList n).toArray⟩) ∧ Below w.heap.size w w' :=
  Tryd.strings_Repeat s n w h2 hn
end Go.Proofs.YtjhhgekpejdmoaaDoor.Rp
