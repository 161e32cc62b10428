/- RecordBack: what is written is read as it was, and nothing more (see Rows) -/
import Derived.Test.YtpmiofjhgmdghaaRows
import Derived.Test.YtpmiofjhgmdghaaLawRecordBack0
import Derived.WalkKit
import Derived.ProofKit
import Derived.OpenShut
import Derived.ShutString
import Derived.ChangeOld
import Derived.Below
import Derived.SizedLaws
import Derived.Test.YtpmiofjhgmdghaaMyOpen
import Derived.Test.YtpmiofjhgmdghaaMyNest
import Derived.Test.YtpmiofjhgmdghaaWSized
namespace Go.Proofs.Ytpmiofjhgmdghaa.recordBack
open Go.ChangeShapes Go.WideShapes Go.ChangeAt Go.RowKit Go.Proofs.Ytpmiofjhgmdghaa.MyOpen
open Go.ChangeMaps (open_string shut_string)
set_option linter.unusedVariables false
theorem own : ownKnob Try.prog.godebug = none := by kernel_rfl
theorem laidOut : laidOutB Try.prog = true := by kernel_rfl
def IsRow (k : IntKind) (w : World) (a : Option Addr) (len cap : Nat) (zs : List Int) : Prop :=
  (a = none ∧ len = 0 ∧ cap = 0 ∧ zs = []) ∨
  ∃ x, a = some x ∧ len ≤ cap ∧ cap ≤ maxLen ∧ zs.length = cap ∧ (∀ i, i < zs.length → w.cell? (x.add i) = some (.int k (zs.getD i 0))) ∧ ∀ n ∈ zs, (Lit.int k n).wf = true
theorem list7 (l : List Value) (h : l.length = 7) : ∃ x0 x1 x2 x3 x4 x5 x6, l = [x0, x1, x2, x3, x4, x5, x6] := by
  match l, h with
  | [x0, x1, x2, x3, x4, x5, x6], _ => exact ⟨x0, x1, x2, x3, x4, x5, x6, rfl⟩
theorem list10 (l : List Value) (h : l.length = 10) : ∃ x0 x1 x2 x3 x4 x5 x6 x7 x8 x9, l = [x0, x1, x2, x3, x4, x5, x6, x7, x8, x9] := by
  match l, h with
  | [x0, x1, x2, x3, x4, x5, x6, x7, x8, x9], _ => exact ⟨x0, x1, x2, x3, x4, x5, x6, x7, x8, x9, rfl⟩
theorem list16 (l : List Value) (h : l.length = 16) : ∃ x0 x1 x2 x3 x4 x5 x6 x7 x8 x9 x10 x11 x12 x13 x14 x15, l = [x0, x1, x2, x3, x4, x5, x6, x7, x8, x9, x10, x11, x12, x13, x14, x15] := by
  match l, h with
  | [x0, x1, x2, x3, x4, x5, x6, x7, x8, x9, x10, x11, x12, x13, x14, x15], _ => exact ⟨x0, x1, x2, x3, x4, x5, x6, x7, x8, x9, x10, x11, x12, x13, x14, x15, rfl⟩
set_option maxRecDepth 100000 in
theorem lifted (os : Os) (started : os.Started) (H : Type) (enc : TypeId × Value → H) :
    ReturnsInHanded {} Try.checked os 8 .any (Rows.recordBackSpec.pre6 enc Try.prog Try.f8 Rows.recordBackRow.domain false) (Rows.recordBackSpec.post enc Try.prog Try.f8 false true false false) := by
  refine returnsInHanded_of_change_sized (C := Try.checked) own started (by kernel_rfl) Try.func8
    (ChangeSpec.witness6 (enc := enc) (C := Try.checked) false ⟨#[], #[.agg #[.int .i64 0, .int .i64 0, .int .i64 0, .int .i64 0, .int .i64 0, .int .u32 0, .int .u32 0, .int .u32 0, .slice none 0 0, .slice none 0 0], .agg #[.int .i64 0, .int .i64 0, .int .i64 0, .int .i64 0, .int .i64 0, .int .u32 0, .int .u32 0, .int .u32 0, .slice none 0 0, .slice none 0 0, .int .i64 0, .int .i64 0, .int .i64 0, .int .u32 0, .int .u32 0, .slice none 0 0], .agg #[.int .i64 0, .int .i64 0, .int .i64 0, .int .i64 0, .int .u32 0, .int .u32 0, .slice none 0 0], .slice none 0 0], []⟩ 8 (by kernel_rfl) (by kernel_rfl) (by kernel_rfl) (by kernel_rfl)) ?_
  intro W base args ds gs before hval0 hW hcnd hsz0 _
  have hsz : (DataW.weightsEach Try.prog (Try.f8.params.toList ++ Rows.recordBackSpec.plain.varTypes Try.prog) (ds ++ gs)).all (· ≤ reachBytes) = true := hsz0
  have hval : ∀ (j : Nat) t v, Try.f8.params[j]? = some t → args[j]? = some v → OkW Try.prog W base t v := okw_of @hval0
  have hW' := hW
  obtain ⟨p, q, hA0, hV, rfl, hfz, hnd⟩ := hW
  have hA : DataW.TrodAll enc Try.prog W 0 (fun _ => true) true Try.f8.params.toList args.toList ds p := hA0
  rw [Try.params8] at hA hval hsz
  obtain ⟨v0, vs0, d0, ds0, p0, q0, hargs, rfl, rfl, h0, r0⟩ := trodAll_cons hA
  obtain ⟨v1, vs1, d1, ds1, p1, q1, rfl, rfl, rfl, h1, r1⟩ := trodAll_cons r0
  obtain ⟨v2, vs2, d2, ds2, p2, q2, rfl, rfl, rfl, h2, r2⟩ := trodAll_cons r1
  obtain ⟨v3, vs3, d3, ds3, p3, q3, rfl, rfl, rfl, h3, r3⟩ := trodAll_cons r2
  obtain ⟨rfl, rfl, rfl⟩ := trodAll_nil r3
  obtain rfl : args = #[v0, v1, v2, v3] := by cases args; simp_all
  obtain ⟨rfl, rfl⟩ := trodVars_none hV
  have k0 := h0
  have lt0 : ∀ x ∈ p0, x.block < W.heap.size := by obtain ⟨m, hm⟩ := k0; exact DataW.trod_lt m _ _ _ hm
  obtain ⟨l0, rfl, hl0, hf0⟩ := q_struct Try.underlying37 (by kernel_rfl) (by kernel_rfl) (hval 0 37 v0 rfl rfl) h0
  obtain ⟨c0_0, c0_1, c0_2, c0_3, c0_4, c0_5, c0_6, c0_7, c0_8, c0_9, rfl⟩ := list10 l0 (by simpa using hl0)
  obtain ⟨u0_0, n0_0, y0_0, g0_0, t0_0⟩ := hf0 0 _ rfl
  obtain rfl := Option.some.inj g0_0
  obtain ⟨a0_0, e0_0, _, w0_0⟩ := DataW.trod_int Try.underlying3 t0_0
  obtain rfl := (List.cons.inj e0_0).1
  obtain ⟨u0_1, n0_1, y0_1, g0_1, t0_1⟩ := hf0 1 _ rfl
  obtain rfl := Option.some.inj g0_1
  obtain ⟨a0_1, e0_1, _, w0_1⟩ := DataW.trod_int Try.underlying3 t0_1
  obtain rfl := (List.cons.inj e0_1).1
  obtain ⟨u0_2, n0_2, y0_2, g0_2, t0_2⟩ := hf0 2 _ rfl
  obtain rfl := Option.some.inj g0_2
  obtain ⟨a0_2, e0_2, _, w0_2⟩ := DataW.trod_int Try.underlying3 t0_2
  obtain rfl := (List.cons.inj e0_2).1
  obtain ⟨u0_3, n0_3, y0_3, g0_3, t0_3⟩ := hf0 3 _ rfl
  obtain rfl := Option.some.inj g0_3
  obtain ⟨a0_3, e0_3, _, w0_3⟩ := DataW.trod_int Try.underlying3 t0_3
  obtain rfl := (List.cons.inj e0_3).1
  obtain ⟨u0_4, n0_4, y0_4, g0_4, t0_4⟩ := hf0 4 _ rfl
  obtain rfl := Option.some.inj g0_4
  obtain ⟨a0_4, e0_4, _, w0_4⟩ := DataW.trod_int Try.underlying3 t0_4
  obtain rfl := (List.cons.inj e0_4).1
  obtain ⟨u0_5, n0_5, y0_5, g0_5, t0_5⟩ := hf0 5 _ rfl
  obtain rfl := Option.some.inj g0_5
  obtain ⟨a0_5, e0_5, _, w0_5⟩ := DataW.trod_int Try.underlying27 t0_5
  obtain rfl := (List.cons.inj e0_5).1
  obtain ⟨u0_6, n0_6, y0_6, g0_6, t0_6⟩ := hf0 6 _ rfl
  obtain rfl := Option.some.inj g0_6
  obtain ⟨a0_6, e0_6, _, w0_6⟩ := DataW.trod_int Try.underlying27 t0_6
  obtain rfl := (List.cons.inj e0_6).1
  obtain ⟨u0_7, n0_7, y0_7, g0_7, t0_7⟩ := hf0 7 _ rfl
  obtain rfl := Option.some.inj g0_7
  obtain ⟨a0_7, e0_7, _, w0_7⟩ := DataW.trod_int Try.underlying27 t0_7
  obtain rfl := (List.cons.inj e0_7).1
  obtain ⟨u0_8, n0_8, y0_8, g0_8, t0_8⟩ := hf0 8 _ rfl
  obtain rfl := Option.some.inj g0_8
  obtain ⟨a0_8, len0_8, cap0_8, z0_8, e0_8, w0_8⟩ : ∃ A len cap zs, c0_8 = .slice A len cap ∧ IsRow .u8 W A len cap zs := by
    rcases open_ints Try.underlying22 Try.underlying5 (by kernel_rfl) t0_8 with ⟨hcs, _⟩ | ⟨x, l, c, zs, hcs, _, hl, hm, hz, _, hcell, hwz⟩
    · exact ⟨none, 0, 0, [], by simpa using hcs, .inl ⟨rfl, rfl, rfl, rfl⟩⟩
    · exact ⟨some x, l, c, zs, by simpa using hcs, .inr ⟨x, rfl, hl, hm, hz, hcell, hwz⟩⟩
  obtain rfl := e0_8
  obtain ⟨l0_8, rfl, hr0_8, hm0_8, hw0_8, hc0_8⟩ := Go.Proofs.YtpmiofjhgmdghaaW.PrintWords.ReadsInt.ofRowC w0_8
  have C0_8 := Go.Proofs.YtpmiofjhgmdghaaW.PrintWords.Kd.C_of_reads (d := (0 : Int)) (h1 := fun _ => rfl) hr0_8
  obtain ⟨u0_9, n0_9, y0_9, g0_9, t0_9⟩ := hf0 9 _ rfl
  obtain rfl := Option.some.inj g0_9
  obtain ⟨a0_9, len0_9, cap0_9, z0_9, e0_9, w0_9⟩ : ∃ A len cap zs, c0_9 = .slice A len cap ∧ IsRow .u8 W A len cap zs := by
    rcases open_ints Try.underlying22 Try.underlying5 (by kernel_rfl) t0_9 with ⟨hcs, _⟩ | ⟨x, l, c, zs, hcs, _, hl, hm, hz, _, hcell, hwz⟩
    · exact ⟨none, 0, 0, [], by simpa using hcs, .inl ⟨rfl, rfl, rfl, rfl⟩⟩
    · exact ⟨some x, l, c, zs, by simpa using hcs, .inr ⟨x, rfl, hl, hm, hz, hcell, hwz⟩⟩
  obtain rfl := e0_9
  obtain ⟨l0_9, rfl, hr0_9, hm0_9, hw0_9, hc0_9⟩ := Go.Proofs.YtpmiofjhgmdghaaW.PrintWords.ReadsInt.ofRowC w0_9
  have C0_9 := Go.Proofs.YtpmiofjhgmdghaaW.PrintWords.Kd.C_of_reads (d := (0 : Int)) (h1 := fun _ => rfl) hr0_9
  have k1 := h1
  have lt1 : ∀ x ∈ p1, x.block < W.heap.size := by obtain ⟨m, hm⟩ := k1; exact DataW.trod_lt m _ _ _ hm
  obtain ⟨l1, rfl, hl1, hf1⟩ := cells_struct (n := 16) Try.underlying39 (by kernel_rfl) (hval 1 39 v1 rfl rfl) h1
  obtain ⟨c1_0, c1_1, c1_2, c1_3, c1_4, c1_5, c1_6, c1_7, c1_8, c1_9, c1_10, c1_11, c1_12, c1_13, c1_14, c1_15, rfl⟩ := list16 l1 (by simpa using hl1)
  have hf1_0 : CellsAt _ _ _ _ _ _ 37 [c1_0, c1_1, c1_2, c1_3, c1_4, c1_5, c1_6, c1_7, c1_8, c1_9] := cells_field hf1 Try.underlying39 0 37 0 10 rfl (by kernel_rfl)
  have hf1_0_0 : CellsAt _ _ _ _ _ _ 3 [c1_0] := cells_field hf1_0 Try.underlying37 0 3 0 1 rfl (by kernel_rfl)
  obtain ⟨a1_0, rfl, w1_0⟩ := cells_int hf1_0_0 Try.underlying3
  have hf1_0_1 : CellsAt _ _ _ _ _ _ 3 [c1_1] := cells_field hf1_0 Try.underlying37 1 3 1 1 rfl (by kernel_rfl)
  obtain ⟨a1_1, rfl, w1_1⟩ := cells_int hf1_0_1 Try.underlying3
  have hf1_0_2 : CellsAt _ _ _ _ _ _ 3 [c1_2] := cells_field hf1_0 Try.underlying37 2 3 2 1 rfl (by kernel_rfl)
  obtain ⟨a1_2, rfl, w1_2⟩ := cells_int hf1_0_2 Try.underlying3
  have hf1_0_3 : CellsAt _ _ _ _ _ _ 3 [c1_3] := cells_field hf1_0 Try.underlying37 3 3 3 1 rfl (by kernel_rfl)
  obtain ⟨a1_3, rfl, w1_3⟩ := cells_int hf1_0_3 Try.underlying3
  have hf1_0_4 : CellsAt _ _ _ _ _ _ 3 [c1_4] := cells_field hf1_0 Try.underlying37 4 3 4 1 rfl (by kernel_rfl)
  obtain ⟨a1_4, rfl, w1_4⟩ := cells_int hf1_0_4 Try.underlying3
  have hf1_0_5 : CellsAt _ _ _ _ _ _ 27 [c1_5] := cells_field hf1_0 Try.underlying37 5 27 5 1 rfl (by kernel_rfl)
  obtain ⟨a1_5, rfl, w1_5⟩ := cells_int hf1_0_5 Try.underlying27
  have hf1_0_6 : CellsAt _ _ _ _ _ _ 27 [c1_6] := cells_field hf1_0 Try.underlying37 6 27 6 1 rfl (by kernel_rfl)
  obtain ⟨a1_6, rfl, w1_6⟩ := cells_int hf1_0_6 Try.underlying27
  have hf1_0_7 : CellsAt _ _ _ _ _ _ 27 [c1_7] := cells_field hf1_0 Try.underlying37 7 27 7 1 rfl (by kernel_rfl)
  obtain ⟨a1_7, rfl, w1_7⟩ := cells_int hf1_0_7 Try.underlying27
  have hf1_0_8 : CellsAt _ _ _ _ _ _ 22 [c1_8] := cells_field hf1_0 Try.underlying37 8 22 8 1 rfl (by kernel_rfl)
  obtain ⟨m1_8, y1_8, t1_8⟩ := hf1_0_8
  obtain ⟨a1_8, len1_8, cap1_8, z1_8, e1_8, w1_8⟩ : ∃ A len cap zs, c1_8 = .slice A len cap ∧ IsRow .u8 W A len cap zs := by
    rcases open_ints Try.underlying22 Try.underlying5 (by kernel_rfl) t1_8 with ⟨hcs, _⟩ | ⟨x, l, c, zs, hcs, _, hl, hm, hz, _, hcell, hwz⟩
    · exact ⟨none, 0, 0, [], by simpa using hcs, .inl ⟨rfl, rfl, rfl, rfl⟩⟩
    · exact ⟨some x, l, c, zs, by simpa using hcs, .inr ⟨x, rfl, hl, hm, hz, hcell, hwz⟩⟩
  obtain rfl := e1_8
  obtain ⟨l1_8, rfl, hr1_8, hm1_8, hw1_8, hc1_8⟩ := Go.Proofs.YtpmiofjhgmdghaaW.PrintWords.ReadsInt.ofRowC w1_8
  have C1_8 := Go.Proofs.YtpmiofjhgmdghaaW.PrintWords.Kd.C_of_reads (d := (0 : Int)) (h1 := fun _ => rfl) hr1_8
  have hf1_0_9 : CellsAt _ _ _ _ _ _ 22 [c1_9] := cells_field hf1_0 Try.underlying37 9 22 9 1 rfl (by kernel_rfl)
  obtain ⟨m1_9, y1_9, t1_9⟩ := hf1_0_9
  obtain ⟨a1_9, len1_9, cap1_9, z1_9, e1_9, w1_9⟩ : ∃ A len cap zs, c1_9 = .slice A len cap ∧ IsRow .u8 W A len cap zs := by
    rcases open_ints Try.underlying22 Try.underlying5 (by kernel_rfl) t1_9 with ⟨hcs, _⟩ | ⟨x, l, c, zs, hcs, _, hl, hm, hz, _, hcell, hwz⟩
    · exact ⟨none, 0, 0, [], by simpa using hcs, .inl ⟨rfl, rfl, rfl, rfl⟩⟩
    · exact ⟨some x, l, c, zs, by simpa using hcs, .inr ⟨x, rfl, hl, hm, hz, hcell, hwz⟩⟩
  obtain rfl := e1_9
  obtain ⟨l1_9, rfl, hr1_9, hm1_9, hw1_9, hc1_9⟩ := Go.Proofs.YtpmiofjhgmdghaaW.PrintWords.ReadsInt.ofRowC w1_9
  have C1_9 := Go.Proofs.YtpmiofjhgmdghaaW.PrintWords.Kd.C_of_reads (d := (0 : Int)) (h1 := fun _ => rfl) hr1_9
  have hf1_1 : CellsAt _ _ _ _ _ _ 3 [c1_10] := cells_field hf1 Try.underlying39 1 3 10 1 rfl (by kernel_rfl)
  obtain ⟨a1_10, rfl, w1_10⟩ := cells_int hf1_1 Try.underlying3
  have hf1_2 : CellsAt _ _ _ _ _ _ 3 [c1_11] := cells_field hf1 Try.underlying39 2 3 11 1 rfl (by kernel_rfl)
  obtain ⟨a1_11, rfl, w1_11⟩ := cells_int hf1_2 Try.underlying3
  have hf1_3 : CellsAt _ _ _ _ _ _ 3 [c1_12] := cells_field hf1 Try.underlying39 3 3 12 1 rfl (by kernel_rfl)
  obtain ⟨a1_12, rfl, w1_12⟩ := cells_int hf1_3 Try.underlying3
  have hf1_4 : CellsAt _ _ _ _ _ _ 27 [c1_13] := cells_field hf1 Try.underlying39 4 27 13 1 rfl (by kernel_rfl)
  obtain ⟨a1_13, rfl, w1_13⟩ := cells_int hf1_4 Try.underlying27
  have hf1_5 : CellsAt _ _ _ _ _ _ 27 [c1_14] := cells_field hf1 Try.underlying39 5 27 14 1 rfl (by kernel_rfl)
  obtain ⟨a1_14, rfl, w1_14⟩ := cells_int hf1_5 Try.underlying27
  have hf1_6 : CellsAt _ _ _ _ _ _ 22 [c1_15] := cells_field hf1 Try.underlying39 6 22 15 1 rfl (by kernel_rfl)
  obtain ⟨m1_15, y1_15, t1_15⟩ := hf1_6
  obtain ⟨a1_15, len1_15, cap1_15, z1_15, e1_15, w1_15⟩ : ∃ A len cap zs, c1_15 = .slice A len cap ∧ IsRow .u8 W A len cap zs := by
    rcases open_ints Try.underlying22 Try.underlying5 (by kernel_rfl) t1_15 with ⟨hcs, _⟩ | ⟨x, l, c, zs, hcs, _, hl, hm, hz, _, hcell, hwz⟩
    · exact ⟨none, 0, 0, [], by simpa using hcs, .inl ⟨rfl, rfl, rfl, rfl⟩⟩
    · exact ⟨some x, l, c, zs, by simpa using hcs, .inr ⟨x, rfl, hl, hm, hz, hcell, hwz⟩⟩
  obtain rfl := e1_15
  obtain ⟨l1_15, rfl, hr1_15, hm1_15, hw1_15, hc1_15⟩ := Go.Proofs.YtpmiofjhgmdghaaW.PrintWords.ReadsInt.ofRowC w1_15
  have C1_15 := Go.Proofs.YtpmiofjhgmdghaaW.PrintWords.Kd.C_of_reads (d := (0 : Int)) (h1 := fun _ => rfl) hr1_15
  have k2 := h2
  have lt2 : ∀ x ∈ p2, x.block < W.heap.size := by obtain ⟨m, hm⟩ := k2; exact DataW.trod_lt m _ _ _ hm
  obtain ⟨l2, rfl, hl2, hf2⟩ := q_struct Try.underlying29 (by kernel_rfl) (by kernel_rfl) (hval 2 29 v2 rfl rfl) h2
  obtain ⟨c2_0, c2_1, c2_2, c2_3, c2_4, c2_5, c2_6, rfl⟩ := list7 l2 (by simpa using hl2)
  obtain ⟨u2_0, n2_0, y2_0, g2_0, t2_0⟩ := hf2 0 _ rfl
  obtain rfl := Option.some.inj g2_0
  obtain ⟨a2_0, e2_0, _, w2_0⟩ := DataW.trod_int Try.underlying3 t2_0
  obtain rfl := (List.cons.inj e2_0).1
  obtain ⟨u2_1, n2_1, y2_1, g2_1, t2_1⟩ := hf2 1 _ rfl
  obtain rfl := Option.some.inj g2_1
  obtain ⟨a2_1, e2_1, _, w2_1⟩ := DataW.trod_int Try.underlying3 t2_1
  obtain rfl := (List.cons.inj e2_1).1
  obtain ⟨u2_2, n2_2, y2_2, g2_2, t2_2⟩ := hf2 2 _ rfl
  obtain rfl := Option.some.inj g2_2
  obtain ⟨a2_2, e2_2, _, w2_2⟩ := DataW.trod_int Try.underlying3 t2_2
  obtain rfl := (List.cons.inj e2_2).1
  obtain ⟨u2_3, n2_3, y2_3, g2_3, t2_3⟩ := hf2 3 _ rfl
  obtain rfl := Option.some.inj g2_3
  obtain ⟨a2_3, e2_3, _, w2_3⟩ := DataW.trod_int Try.underlying3 t2_3
  obtain rfl := (List.cons.inj e2_3).1
  obtain ⟨u2_4, n2_4, y2_4, g2_4, t2_4⟩ := hf2 4 _ rfl
  obtain rfl := Option.some.inj g2_4
  obtain ⟨a2_4, e2_4, _, w2_4⟩ := DataW.trod_int Try.underlying27 t2_4
  obtain rfl := (List.cons.inj e2_4).1
  obtain ⟨u2_5, n2_5, y2_5, g2_5, t2_5⟩ := hf2 5 _ rfl
  obtain rfl := Option.some.inj g2_5
  obtain ⟨a2_5, e2_5, _, w2_5⟩ := DataW.trod_int Try.underlying27 t2_5
  obtain rfl := (List.cons.inj e2_5).1
  obtain ⟨u2_6, n2_6, y2_6, g2_6, t2_6⟩ := hf2 6 _ rfl
  obtain rfl := Option.some.inj g2_6
  obtain ⟨a2_6, len2_6, cap2_6, z2_6, e2_6, w2_6⟩ : ∃ A len cap zs, c2_6 = .slice A len cap ∧ IsRow .u8 W A len cap zs := by
    rcases open_ints Try.underlying22 Try.underlying5 (by kernel_rfl) t2_6 with ⟨hcs, _⟩ | ⟨x, l, c, zs, hcs, _, hl, hm, hz, _, hcell, hwz⟩
    · exact ⟨none, 0, 0, [], by simpa using hcs, .inl ⟨rfl, rfl, rfl, rfl⟩⟩
    · exact ⟨some x, l, c, zs, by simpa using hcs, .inr ⟨x, rfl, hl, hm, hz, hcell, hwz⟩⟩
  obtain rfl := e2_6
  obtain ⟨l2_6, rfl, hr2_6, hm2_6, hw2_6, hc2_6⟩ := Go.Proofs.YtpmiofjhgmdghaaW.PrintWords.ReadsInt.ofRowC w2_6
  have C2_6 := Go.Proofs.YtpmiofjhgmdghaaW.PrintWords.Kd.C_of_reads (d := (0 : Int)) (h1 := fun _ => rfl) hr2_6
  have k3 := h3
  have lt3 : ∀ x ∈ p3, x.block < W.heap.size := by obtain ⟨m, hm⟩ := k3; exact DataW.trod_lt m _ _ _ hm
  obtain ⟨a3, len3, cap3, rfl⟩ := q_slice Try.underlying22 (hval 3 22 v3 rfl rfl)
  obtain ⟨z3, w3⟩ : ∃ zs, IsRow .u8 W a3 len3 cap3 zs := by
    obtain ⟨fuel, hf⟩ := h3
    rcases open_ints Try.underlying22 Try.underlying5 (by kernel_rfl) hf with ⟨hcs, _⟩ | ⟨x, l, c, zs, hcs, _, hl, hm, hz, _, hcell, hwz⟩
    · simp [Value.cells] at hcs
      obtain ⟨rfl, rfl, rfl⟩ := hcs
      exact ⟨[], .inl ⟨rfl, rfl, rfl, rfl⟩⟩
    · simp [Value.cells] at hcs
      obtain ⟨rfl, rfl, rfl⟩ := hcs
      exact ⟨zs, .inr ⟨x, rfl, hl, hm, hz, hcell, hwz⟩⟩
  have y3 : len3 * 1 ≤ 140737488351232 := Go.Proofs.YtpmiofjhgmdghaaW.PrintWords.sized_ints hsz (j := 3) (t := 22) rfl rfl Try.underlying22 Try.underlying5 (by kernel_rfl) (by kernel_rfl) h3
  obtain ⟨l3, rfl, hr3, hm3, hw3, hc3⟩ := Go.Proofs.YtpmiofjhgmdghaaW.PrintWords.ReadsInt.ofRowC w3
  have C3 := Go.Proofs.YtpmiofjhgmdghaaW.PrintWords.Kd.C_of_reads (d := (0 : Int)) (h1 := fun _ => rfl) hr3
  refine (Go.Proofs.Ytpmiofjhgmdghaa.Fld.back W a0_0 a0_1 a0_2 a0_3 a0_4 a0_5 a0_6 a0_7 a0_8 l0_8 cap0_8 a0_9 l0_9 cap0_9 a1_0 a1_1 a1_2 a1_3 a1_4 a1_5 a1_6 a1_7 a1_8 l1_8 cap1_8 a1_9 l1_9 cap1_9 a1_10 a1_11 a1_12 a1_13 a1_14 a1_15 l1_15 cap1_15 a2_0 a2_1 a2_2 a2_3 a2_4 a2_5 a2_6 l2_6 cap2_6 a3 l3 cap3 ⟨C0_8, hc0_8⟩ ⟨C0_9, hc0_9⟩ ⟨C1_8, hc1_8⟩ ⟨C1_9, hc1_9⟩ ⟨C1_15, hc1_15⟩ ⟨C2_6, hc2_6⟩ ⟨C3, hc3⟩ ⟨(bounds_u32 w0_5).1, Int.lt_of_le_of_lt (bounds_u32 w0_5).2 (by decide)⟩ ⟨(bounds_u32 w0_6).1, Int.lt_of_le_of_lt (bounds_u32 w0_6).2 (by decide)⟩ ⟨(bounds_u32 w0_7).1, Int.lt_of_le_of_lt (bounds_u32 w0_7).2 (by decide)⟩ ⟨(bounds_u32 w1_5).1, Int.lt_of_le_of_lt (bounds_u32 w1_5).2 (by decide)⟩ ⟨(bounds_u32 w1_6).1, Int.lt_of_le_of_lt (bounds_u32 w1_6).2 (by decide)⟩ ⟨(bounds_u32 w1_7).1, Int.lt_of_le_of_lt (bounds_u32 w1_7).2 (by decide)⟩ ⟨(bounds_u32 w1_13).1, Int.lt_of_le_of_lt (bounds_u32 w1_13).2 (by decide)⟩ ⟨(bounds_u32 w1_14).1, Int.lt_of_le_of_lt (bounds_u32 w1_14).2 (by decide)⟩ ⟨(bounds_u32 w2_4).1, Int.lt_of_le_of_lt (bounds_u32 w2_4).2 (by decide)⟩ ⟨(bounds_u32 w2_5).1, Int.lt_of_le_of_lt (bounds_u32 w2_5).2 (by decide)⟩ (fun x hx => bounds_u8 (hw0_8 x hx)) (fun x hx => bounds_u8 (hw0_9 x hx)) (fun x hx => bounds_u8 (hw1_8 x hx)) (fun x hx => bounds_u8 (hw1_9 x hx)) (fun x hx => bounds_u8 (hw1_15 x hx)) (fun x hx => bounds_u8 (hw2_6 x hx)) (fun x hx => bounds_u8 (hw3 x hx))).mono fun e W' ⟨he, bel⟩ => ?_
  subst he
  exact ⟨_, rfl, _, _, _, [], _, [], hW', trodAll_mk1 (shut_bool Try.underlying4 _), (trodAll_cons_mk (Below.trod laidOut (by kernel_rfl) (of_decide_eq_true (by kernel_rfl)) k0 bel lt0) (trodAll_cons_mk (Below.trod laidOut (by kernel_rfl) (of_decide_eq_true (by kernel_rfl)) k1 bel lt1) (trodAll_cons_mk (Below.trod laidOut (by kernel_rfl) (of_decide_eq_true (by kernel_rfl)) k2 bel lt2) (trodAll_cons_mk (Below.trod laidOut (by kernel_rfl) (of_decide_eq_true (by kernel_rfl)) k3 bel lt3) trodAll_mk0)))), rfl, bel.frame _, fun h => by cases h⟩
theorem over : Rows.recordBackRow.holds Try.pinned (OpenSpec.ofChange Rows.recordBackSpec) :=
  OpenClaim.holds_of_wide 8 Try.f8 rfl rfl rfl rfl rfl rfl rfl ⟨rfl, rfl, rfl, rfl, rfl⟩ rfl rfl rfl rfl rfl (by kernel_rfl) Try.func8 (by kernel_rfl)
    (of_decide_eq_true (by kernel_rfl)) (by unfold Func.isWrapper; first | (rw [if_pos (by decide +kernel)]; kernel_rfl) | (rw [if_neg (by decide +kernel)]; exact ⟨rfl, rfl⟩))
    (fun os started H enc _ => lifted os started H enc)
end Go.Proofs.Ytpmiofjhgmdghaa.recordBack
namespace Go.Proofs.Ytpmiofjhgmdghaa
/-- The row, under a short name, for the claim. -/
theorem recordBack_holds : Rows.RecordBackSaid := recordBack.over
end Go.Proofs.Ytpmiofjhgmdghaa
