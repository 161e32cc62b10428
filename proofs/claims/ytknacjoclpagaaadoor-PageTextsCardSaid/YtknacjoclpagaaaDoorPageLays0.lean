/- Laying of the shelf at this seat: utf8.ValidString; the tables of unicode/utf8. -/
import Derived.Test.YtknacjoclpagaaaDoorProg
import Derived.Test.YtknacjoclpagaaaDoorRows
import Derived.Shelf.Unicode.ValidAny
import Derived.Lib.LaidU8T
import Derived.MakeChecks
namespace Go.Proofs.YtknacjoclpagaaaDoor.Pg
open Go Go.Proofs Go.Lib
set_option linter.unusedVariables false
def layVal_ren : Go.Shelf.Ren := ⟨fun | 196 => 15 | 259 => 25 | n => n, fun | 12 => 12 | 46 => 59 | 53 => 69 | 119 => 55 | 138 => 57 | 139 => 58 | n => n, fun | 3 => 0 | 4 => 1 | n => n⟩
theorem layVal : Go.Proofs.Lays.n196 Tryd.prog layVal_ren := {
  mixed := by kernel_rfl
  f196 := Tryd.func15.trans (congrArg some (by kernel_rfl))
  f259 := Tryd.func25.trans (congrArg some (by kernel_rfl))
  t0 := Tryd.underlying0
  a0 := Tryd.isAgg0
  z0 := Tryd.sizeOf0
  v0 := Tryd.zeroValue0
  t3 := Tryd.underlying3
  a3 := Tryd.isAgg3
  z3 := Tryd.sizeOf3
  v3 := Tryd.zeroValue3
  t4 := Tryd.underlying4
  a4 := Tryd.isAgg4
  z4 := Tryd.sizeOf4
  v4 := Tryd.zeroValue4
  t5 := Tryd.underlying5
  a5 := Tryd.isAgg5
  z5 := Tryd.sizeOf5
  v5 := Tryd.zeroValue5
  t9 := Tryd.underlying9
  a9 := Tryd.isAgg9
  z9 := Tryd.sizeOf9
  v9 := Tryd.zeroValue9
  t12 := Tryd.underlying12
  a12 := Tryd.isAgg12
  z12 := Tryd.sizeOf12
  v12 := Tryd.zeroValue12
  t46 := Tryd.underlying59
  a46 := Tryd.isAgg59
  z46 := Tryd.sizeOf59
  v46 := Tryd.zeroValue59
  t53 := Tryd.underlying69
  a53 := Tryd.isAgg69
  z53 := Tryd.sizeOf69
  v53 := Tryd.zeroValue69
  t119 := Tryd.underlying55
  a119 := Tryd.isAgg55
  z119 := Tryd.sizeOf55
  t138 := Tryd.underlying57
  a138 := Tryd.isAgg57
  z138 := Tryd.sizeOf57
  v138 := Tryd.zeroValue57
  t139 := Tryd.underlying58
  a139 := Tryd.isAgg58
  z139 := Tryd.sizeOf58
  v139 := Tryd.zeroValue58
  g3 := by kernel_rfl
  g4 := by kernel_rfl }
/-- the tables of unicode/utf8 -/
def Tabs (w : World) : Prop := Lib.Utf8Tabs 0 1 w
def u8_ren : Go.Shelf.Ren := ⟨fun n => n, fun | 119 => 55 | 138 => 57 | 139 => 58 | n => n, fun | 3 => 0 | 4 => 1 | n => n⟩
theorem u8_types : Go.Proofs.U8Types Tryd.prog u8_ren := { t5 := Tryd.underlying5, t119 := Tryd.underlying55, t138 := Tryd.underlying57, t139 := Tryd.underlying58 }
theorem u8_extra : Go.Proofs.U8Extra Tryd.prog u8_ren := { n3 := by kernel_rfl, n4 := by kernel_rfl, y3 := by kernel_rfl, y4 := by kernel_rfl, c5 := by kernel_rfl, c119 := by kernel_rfl, c138 := by kernel_rfl }
theorem tabs_size {w : World} (h : Tabs w) : 0 < w.heap.size ∧ 1 < w.heap.size := ⟨World.block_lt_of_cell? w _ (h.1 0 (by decide)), World.block_lt_of_cell? w _ (h.2 0 (by decide)).1⟩
theorem Tabs_below {w1 w2 : World} (h : Tabs w1) (hb : Go.RowKit.Below w1.heap.size w1 w2) : Tabs w2 := ⟨fun c hc => (hb.cell (p := ⟨0, c, none⟩) (tabs_size h).1).trans (h.1 c hc), fun i hi => ⟨(hb.cell (p := ⟨1, 2 * i, none⟩) (tabs_size h).2).trans (h.2 i hi).1, (hb.cell (p := ⟨1, 2 * i + 1, none⟩) (tabs_size h).2).trans (h.2 i hi).2⟩⟩
theorem tabs_of {l : List (String × DataW Unit)} {W : World} (h1 : ("unicode/utf8.first", firstData) ∈ l) (h2 : ("unicode/utf8.acceptRanges", acceptData) ∈ l) (h : laidMet Tryd.prog l W) : Tabs W :=
  utf8Tabs_of_readsT u8_types u8_extra (laidMet.reads h h1) (laidMet.reads h h2)
theorem valid_any (s : ByteArray) (w : World) (hs : s.size ≤ 9223372036854775807) (hT : Tabs w) : Calls Tryd.prog 15 #[.string s] w fun e w' => e = .returned (.bool (Lib.validD s.data.toList)) ∧ Go.RowKit.Below w.heap.size w w' := Any.utf8_ValidString layVal s w hs hT
theorem ttexts {W : World} (h : laidMetH Tryd.prog Rows.pageTextsRow.laid W) : Tabs W := by
  rw [MakeChecks.laidMetH_plain _ _ _ (by kernel_rfl)] at h
  exact tabs_of (l := Rows.pageTextsRow.laid) ((by kernel_rfl : Rows.pageTextsRow.laid = [("unicode/utf8.acceptRanges", acceptData), ("unicode/utf8.first", firstData)]) ▸ (.tail _ (.head _))) ((by kernel_rfl : Rows.pageTextsRow.laid = [("unicode/utf8.acceptRanges", acceptData), ("unicode/utf8.first", firstData)]) ▸ (.head _)) h
theorem tback {W : World} (h : laidMetH Tryd.prog Rows.pageBackRow.laid W) : Tabs W := by
  rw [MakeChecks.laidMetH_plain _ _ _ (by kernel_rfl)] at h
  exact tabs_of (l := Rows.pageBackRow.laid) ((by kernel_rfl : Rows.pageBackRow.laid = [("unicode/utf8.acceptRanges", acceptData), ("unicode/utf8.first", firstData)]) ▸ (.tail _ (.head _))) ((by kernel_rfl : Rows.pageBackRow.laid = [("unicode/utf8.acceptRanges", acceptData), ("unicode/utf8.first", firstData)]) ▸ (.head _)) h
end Go.Proofs.YtknacjoclpagaaaDoor.Pg
