/- Layings of the shelf at this seat: bytes.makeASCIISet, contains, utf8.DecodeRune; the tables of unicode/utf8. -/
import Derived.Test.YtlliomkjnhbbbaaDoorProg
import Derived.Test.YtlliomkjnhbbbaaDoorRows
import Derived.Shelf.Bytes.SlTrimWalks
import Derived.Shelf.Spec.DecodeRune
import Derived.Lib.LaidU8T
import Derived.MakeChecks
namespace Go.Proofs.YtlliomkjnhbbbaaDoor.Tx
open Go Go.Proofs Go.Lib
set_option linter.unusedVariables false
def laySet_ren : Go.Shelf.Ren := ⟨fun | 11 => 40 | n => n, fun | 27 => 50 | n => n, fun  | n => n⟩
theorem laySet : Go.Proofs.SlLaysV.n11 Tryd.prog laySet_ren := {
  mixed := by kernel_rfl
  f11 := Tryd.func40.trans (congrArg some (by kernel_rfl))
  t0 := Tryd.underlying0
  a0 := Tryd.isAgg0
  z0 := Tryd.sizeOf0
  v0 := Tryd.zeroValue0
  t3 := Tryd.underlying3
  a3 := Tryd.isAgg3
  z3 := Tryd.sizeOf3
  v3 := Tryd.zeroValue3
  t4 := Tryd.underlying4
  a4 := Tryd.isAgg4
  z4 := Tryd.sizeOf4
  v4 := Tryd.zeroValue4
  t5 := Tryd.underlying5
  a5 := Tryd.isAgg5
  z5 := Tryd.sizeOf5
  v5 := Tryd.zeroValue5
  t9 := Tryd.underlying9
  a9 := Tryd.isAgg9
  z9 := Tryd.sizeOf9
  v9 := Tryd.zeroValue9
  t27 := Tryd.underlying50
  a27 := Tryd.isAgg50
  z27 := Tryd.sizeOf50 }
def layHas_ren : Go.Shelf.Ren := ⟨fun | 16 => 41 | n => n, fun | 27 => 50 | 31 => 66 | n => n, fun  | n => n⟩
theorem layHas : Go.Proofs.SlLaysV.n16 Tryd.prog layHas_ren := {
  mixed := by kernel_rfl
  f16 := Tryd.func41.trans (congrArg some (by kernel_rfl))
  t0 := Tryd.underlying0
  a0 := Tryd.isAgg0
  z0 := Tryd.sizeOf0
  v0 := Tryd.zeroValue0
  t4 := Tryd.underlying4
  a4 := Tryd.isAgg4
  z4 := Tryd.sizeOf4
  v4 := Tryd.zeroValue4
  t5 := Tryd.underlying5
  a5 := Tryd.isAgg5
  z5 := Tryd.sizeOf5
  v5 := Tryd.zeroValue5
  t27 := Tryd.underlying50
  a27 := Tryd.isAgg50
  z27 := Tryd.sizeOf50
  t31 := Tryd.underlying66
  a31 := Tryd.isAgg66
  z31 := Tryd.sizeOf66
  v31 := Tryd.zeroValue66 }
def layDec_ren : Go.Shelf.Ren := ⟨fun | 32 => 42 | 49 => 50 | n => n, fun | 25 => 42 | 30 => 22 | 33 => 53 | 66 => 67 | 68 => 69 | 69 => 70 | n => n, fun | 2 => 1 | 3 => 2 | n => n⟩
theorem layDec : Go.Proofs.Lays7.n32 Tryd.prog layDec_ren := {
  mixed := by kernel_rfl
  f32 := Tryd.func42.trans (congrArg some (by kernel_rfl))
  f49 := Tryd.func50.trans (congrArg some (by kernel_rfl))
  t0 := Tryd.underlying0
  a0 := Tryd.isAgg0
  z0 := Tryd.sizeOf0
  v0 := Tryd.zeroValue0
  i0 := by kernel_rfl
  t3 := Tryd.underlying3
  a3 := Tryd.isAgg3
  z3 := Tryd.sizeOf3
  v3 := Tryd.zeroValue3
  i3 := by kernel_rfl
  t4 := Tryd.underlying4
  a4 := Tryd.isAgg4
  z4 := Tryd.sizeOf4
  v4 := Tryd.zeroValue4
  i4 := by kernel_rfl
  t5 := Tryd.underlying5
  a5 := Tryd.isAgg5
  z5 := Tryd.sizeOf5
  v5 := Tryd.zeroValue5
  i5 := by kernel_rfl
  t21 := Tryd.underlying21
  a21 := Tryd.isAgg21
  z21 := Tryd.sizeOf21
  v21 := Tryd.zeroValue21
  i21 := by kernel_rfl
  t25 := Tryd.underlying42
  a25 := Tryd.isAgg42
  z25 := Tryd.sizeOf42
  v25 := Tryd.zeroValue42
  i25 := by kernel_rfl
  t30 := Tryd.underlying22
  a30 := Tryd.isAgg22
  z30 := Tryd.sizeOf22
  v30 := Tryd.zeroValue22
  i30 := by kernel_rfl
  t33 := Tryd.underlying53
  a33 := Tryd.isAgg53
  z33 := Tryd.sizeOf53
  v33 := Tryd.zeroValue53
  i33 := by kernel_rfl
  t66 := Tryd.underlying67
  a66 := Tryd.isAgg67
  z66 := Tryd.sizeOf67
  t68 := Tryd.underlying69
  a68 := Tryd.isAgg69
  z68 := Tryd.sizeOf69
  v68 := Tryd.zeroValue69
  i68 := by kernel_rfl
  t69 := Tryd.underlying70
  a69 := Tryd.isAgg70
  z69 := Tryd.sizeOf70
  v69 := Tryd.zeroValue70
  i69 := by kernel_rfl
  g2 := by kernel_rfl
  g3 := by kernel_rfl }
theorem int_of_shape {P : Program} {w : World} {g : Nat} {t : TypeId} {k : IntKind} {zero : Array Value} (h : w.ShapedOpen P) (hg : g < P.globals.size)
    (h0 : ((begin P (fun _ _ => 0) default).world.heap[g]?).bind Obj.row? = some (zero, t)) (hz : zero.size = 1)
    (hb : P.buildable t = true) (hc : P.cellTypes P.depth t = some [t]) (hu : P.underlying t = some (.int k)) : ∃ p, w.cell? ⟨g, 0, none⟩ = some (.int k p) := by
  obtain ⟨cs, hh, hs, hr⟩ := h.1 g zero t hg h0
  obtain ⟨ts, hts, _, hall⟩ := hr hb
  rw [hc] at hts
  cases hts
  have h1 : 0 < cs.size := by omega
  obtain ⟨u, hu', hok⟩ := hall 0 cs[0] (by simp [h1])
  have : u = t := by simpa using hu'.symm
  subst this
  have hcell : w.cell? ⟨g, 0, none⟩ = some cs[0] := by simp [World.cell?, hh, h1]
  rw [hcell]
  unfold Cell.ok at hok
  rw [hu] at hok
  cases hv : cs[0] <;> rw [hv] at hok <;> first | exact ⟨_, rfl⟩ | (simp at hok; done) | (simp at hok; first | (subst hok; exact ⟨_, rfl⟩) | (obtain ⟨rfl, _⟩ := hok; exact ⟨_, rfl⟩) | (obtain rfl := hok.1; exact ⟨_, rfl⟩))
/-- the tables of unicode/utf8 -/
def Tabs (w : World) : Prop := Lib.Utf8Tabs 1 2 w ∧ ∃ m, w.cell? ⟨0, 0, none⟩ = some (.int .i64 m)
def u8_ren : Go.Shelf.Ren := ⟨fun n => n, fun | 119 => 67 | 138 => 69 | 139 => 70 | n => n, fun | 3 => 1 | 4 => 2 | n => n⟩
theorem u8_types : Go.Proofs.U8Types Tryd.prog u8_ren := { t5 := Tryd.underlying5, t119 := Tryd.underlying67, t138 := Tryd.underlying69, t139 := Tryd.underlying70 }
theorem u8_extra : Go.Proofs.U8Extra Tryd.prog u8_ren := { n3 := by kernel_rfl, n4 := by kernel_rfl, y3 := by kernel_rfl, y4 := by kernel_rfl, c5 := by kernel_rfl, c119 := by kernel_rfl, c138 := by kernel_rfl }
theorem tabs_size {w : World} (h : Tabs w) : 1 < w.heap.size ∧ 2 < w.heap.size := ⟨World.block_lt_of_cell? w _ (h.1.1 0 (by decide)), World.block_lt_of_cell? w _ (h.1.2 0 (by decide)).1⟩
theorem tabs_below {w1 w2 : World} (h : Tabs w1) (hb : Go.RowKit.Below w1.heap.size w1 w2) : Tabs w2 := ⟨⟨fun c hc => (hb.cell (p := ⟨1, c, none⟩) (tabs_size h).1).trans (h.1.1 c hc), fun i hi => ⟨(hb.cell (p := ⟨2, 2 * i, none⟩) (tabs_size h).2).trans (h.1.2 i hi).1, (hb.cell (p := ⟨2, 2 * i + 1, none⟩) (tabs_size h).2).trans (h.1.2 i hi).2⟩⟩, h.2.elim fun m hm => ⟨m, (hb.cell (p := ⟨0, 0, none⟩) (World.block_lt_of_cell? w1 _ hm)).trans hm⟩⟩
theorem tabs_of {l : List (String × DataW Unit)} {W : World} (h1 : ("unicode/utf8.first", firstData) ∈ l) (h2 : ("unicode/utf8.acceptRanges", acceptData) ∈ l) (h : laidMet Tryd.prog l W) (hs : W.ShapedOpen Tryd.prog) : Tabs W :=
  ⟨utf8Tabs_of_readsT u8_types u8_extra (laidMet.reads h h1) (laidMet.reads h h2), int_of_shape hs (g := 0) (t := 3) (zero := #[.int .i64 0]) (of_decide_eq_true (by kernel_rfl)) (by kernel_rfl) rfl (by kernel_rfl) (by kernel_rfl) Tryd.underlying3⟩
theorem tlines {W : World} (h : laidMetH Tryd.prog Rows.textLinesRow.laid W) (hs : W.ShapedOpen Tryd.prog) : Tabs W := by
  rw [MakeChecks.laidMetH_plain _ _ _ (by kernel_rfl)] at h
  exact tabs_of (l := Rows.textLinesRow.laid) ((by kernel_rfl : Rows.textLinesRow.laid = [("unicode/utf8.acceptRanges", acceptData), ("unicode/utf8.first", firstData)]) ▸ (.tail _ (.head _))) ((by kernel_rfl : Rows.textLinesRow.laid = [("unicode/utf8.acceptRanges", acceptData), ("unicode/utf8.first", firstData)]) ▸ (.head _)) h hs
theorem tback {W : World} (h : laidMetH Tryd.prog Rows.textBackRow.laid W) (hs : W.ShapedOpen Tryd.prog) : Tabs W := by
  rw [MakeChecks.laidMetH_plain _ _ _ (by kernel_rfl)] at h
  exact tabs_of (l := Rows.textBackRow.laid) ((by kernel_rfl : Rows.textBackRow.laid = [("unicode/utf8.acceptRanges", acceptData), ("unicode/utf8.first", firstData)]) ▸ (.tail _ (.head _))) ((by kernel_rfl : Rows.textBackRow.laid = [("unicode/utf8.acceptRanges", acceptData), ("unicode/utf8.first", firstData)]) ▸ (.head _)) h hs
end Go.Proofs.YtlliomkjnhbbbaaDoor.Tx
