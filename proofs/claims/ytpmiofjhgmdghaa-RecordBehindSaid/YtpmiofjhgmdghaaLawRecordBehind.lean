/- RecordBehind: behind whatever bytes an end is found (see Rows) -/
import Derived.Test.YtpmiofjhgmdghaaRows
import Derived.Test.YtpmiofjhgmdghaaPureRecordBehind
import Derived.WalkKit
import Derived.ProofKit
import Derived.OpenShut
import Derived.ShutString
import Derived.ChangeOld
import Derived.Below
import Derived.SizedLaws
import Derived.Test.YtpmiofjhgmdghaaMyOpen
import Derived.Test.YtpmiofjhgmdghaaWSized
namespace Go.Proofs.Ytpmiofjhgmdghaa.recordBehind
open Go.ChangeShapes Go.WideShapes Go.ChangeAt Go.RowKit Go.Proofs.Ytpmiofjhgmdghaa.MyOpen
open Go.ChangeMaps (open_string shut_string)
set_option linter.unusedVariables false
theorem own : ownKnob Try.prog.godebug = none := by kernel_rfl
theorem laidOut : laidOutB Try.prog = true := by kernel_rfl
def IsRow (k : IntKind) (w : World) (a : Option Addr) (len cap : Nat) (zs : List Int) : Prop :=
  (a = none ∧ len = 0 ∧ cap = 0 ∧ zs = []) ∨
  ∃ x, a = some x ∧ len ≤ cap ∧ cap ≤ maxLen ∧ zs.length = cap ∧ (∀ i, i < zs.length → w.cell? (x.add i) = some (.int k (zs.getD i 0))) ∧ ∀ n ∈ zs, (Lit.int k n).wf = true
theorem list7 (l : List Value) (h : l.length = 7) : ∃ x0 x1 x2 x3 x4 x5 x6, l = [x0, x1, x2, x3, x4, x5, x6] := by
  match l, h with
  | [x0, x1, x2, x3, x4, x5, x6], _ => exact ⟨x0, x1, x2, x3, x4, x5, x6, rfl⟩
set_option maxRecDepth 100000 in
theorem lifted (os : Os) (started : os.Started) (H : Type) (enc : TypeId × Value → H) :
    ReturnsInHanded {} Try.checked os 4 .any (Rows.recordBehindSpec.pre6 enc Try.prog Try.f4 Rows.recordBehindRow.domain false) (Rows.recordBehindSpec.post enc Try.prog Try.f4 false true false false) := by
  refine returnsInHanded_of_change_sized (C := Try.checked) own started (by kernel_rfl) Try.func4
    (ChangeSpec.witness6 (enc := enc) (C := Try.checked) false ⟨#[], #[.slice none 0 0, .agg #[.int .i64 0, .int .i64 0, .int .i64 0, .int .i64 0, .int .u32 0, .int .u32 0, .slice none 0 0]], []⟩ 8 (by kernel_rfl) (by kernel_rfl) (by kernel_rfl) (by kernel_rfl)) ?_
  intro W base args ds gs before hval0 hW hcnd hsz0 _
  have hsz : (DataW.weightsEach Try.prog (Try.f4.params.toList ++ Rows.recordBehindSpec.plain.varTypes Try.prog) (ds ++ gs)).all (· ≤ reachBytes) = true := hsz0
  have hval : ∀ (j : Nat) t v, Try.f4.params[j]? = some t → args[j]? = some v → Value.okWide Try.prog W .any base t v := hval0
  have hW' := hW
  obtain ⟨p, q, hA0, hV, rfl, hfz, hnd⟩ := hW
  have hA : DataW.TrodAll enc Try.prog W 0 (fun _ => true) true Try.f4.params.toList args.toList ds p := hA0
  rw [Try.params4] at hA hval hsz
  obtain ⟨v0, vs0, d0, ds0, p0, q0, hargs, rfl, rfl, h0, r0⟩ := trodAll_cons hA
  obtain ⟨v1, vs1, d1, ds1, p1, q1, rfl, rfl, rfl, h1, r1⟩ := trodAll_cons r0
  obtain ⟨rfl, rfl, rfl⟩ := trodAll_nil r1
  obtain rfl : args = #[v0, v1] := by cases args; simp_all
  obtain ⟨rfl, rfl⟩ := trodVars_none hV
  have k0 := h0
  have lt0 : ∀ x ∈ p0, x.block < W.heap.size := by obtain ⟨m, hm⟩ := k0; exact DataW.trod_lt m _ _ _ hm
  obtain ⟨a0, len0, cap0, rfl⟩ := okWide_slice Try.underlying22 (hval 0 22 v0 rfl rfl)
  obtain ⟨z0, w0⟩ : ∃ zs, IsRow .u8 W a0 len0 cap0 zs := by
    obtain ⟨fuel, hf⟩ := h0
    rcases open_ints Try.underlying22 Try.underlying5 (by kernel_rfl) hf with ⟨hcs, _⟩ | ⟨x, l, c, zs, hcs, _, hl, hm, hz, _, hcell, hwz⟩
    · simp [Value.cells] at hcs
      obtain ⟨rfl, rfl, rfl⟩ := hcs
      exact ⟨[], .inl ⟨rfl, rfl, rfl, rfl⟩⟩
    · simp [Value.cells] at hcs
      obtain ⟨rfl, rfl, rfl⟩ := hcs
      exact ⟨zs, .inr ⟨x, rfl, hl, hm, hz, hcell, hwz⟩⟩
  have y0 : len0 * 1 ≤ 140737488351232 := Go.Proofs.YtpmiofjhgmdghaaW.PrintWords.sized_ints hsz (j := 0) (t := 22) rfl rfl Try.underlying22 Try.underlying5 (by kernel_rfl) (by kernel_rfl) h0
  obtain ⟨l0, rfl, hr0, hm0, hw0, hc0⟩ := Go.Proofs.YtpmiofjhgmdghaaW.PrintWords.ReadsInt.ofRowC w0
  have C0 := Go.Proofs.YtpmiofjhgmdghaaW.PrintWords.Kd.C_of_reads (d := (0 : Int)) (h1 := fun _ => rfl) hr0
  have k1 := h1
  have lt1 : ∀ x ∈ p1, x.block < W.heap.size := by obtain ⟨m, hm⟩ := k1; exact DataW.trod_lt m _ _ _ hm
  obtain ⟨l1, rfl, hl1, hf1⟩ := open_struct Try.underlying29 (by kernel_rfl) (by kernel_rfl) (hval 1 29 v1 rfl rfl) h1
  obtain ⟨c1_0, c1_1, c1_2, c1_3, c1_4, c1_5, c1_6, rfl⟩ := list7 l1 (by simpa using hl1)
  obtain ⟨u1_0, n1_0, y1_0, g1_0, t1_0⟩ := hf1 0 _ rfl
  obtain rfl := Option.some.inj g1_0
  obtain ⟨a1_0, e1_0, _, w1_0⟩ := DataW.trod_int Try.underlying3 t1_0
  obtain rfl := (List.cons.inj e1_0).1
  obtain ⟨u1_1, n1_1, y1_1, g1_1, t1_1⟩ := hf1 1 _ rfl
  obtain rfl := Option.some.inj g1_1
  obtain ⟨a1_1, e1_1, _, w1_1⟩ := DataW.trod_int Try.underlying3 t1_1
  obtain rfl := (List.cons.inj e1_1).1
  obtain ⟨u1_2, n1_2, y1_2, g1_2, t1_2⟩ := hf1 2 _ rfl
  obtain rfl := Option.some.inj g1_2
  obtain ⟨a1_2, e1_2, _, w1_2⟩ := DataW.trod_int Try.underlying3 t1_2
  obtain rfl := (List.cons.inj e1_2).1
  obtain ⟨u1_3, n1_3, y1_3, g1_3, t1_3⟩ := hf1 3 _ rfl
  obtain rfl := Option.some.inj g1_3
  obtain ⟨a1_3, e1_3, _, w1_3⟩ := DataW.trod_int Try.underlying3 t1_3
  obtain rfl := (List.cons.inj e1_3).1
  obtain ⟨u1_4, n1_4, y1_4, g1_4, t1_4⟩ := hf1 4 _ rfl
  obtain rfl := Option.some.inj g1_4
  obtain ⟨a1_4, e1_4, _, w1_4⟩ := DataW.trod_int Try.underlying27 t1_4
  obtain rfl := (List.cons.inj e1_4).1
  obtain ⟨u1_5, n1_5, y1_5, g1_5, t1_5⟩ := hf1 5 _ rfl
  obtain rfl := Option.some.inj g1_5
  obtain ⟨a1_5, e1_5, _, w1_5⟩ := DataW.trod_int Try.underlying27 t1_5
  obtain rfl := (List.cons.inj e1_5).1
  obtain ⟨u1_6, n1_6, y1_6, g1_6, t1_6⟩ := hf1 6 _ rfl
  obtain rfl := Option.some.inj g1_6
  obtain ⟨a1_6, len1_6, cap1_6, z1_6, e1_6, w1_6⟩ : ∃ A len cap zs, c1_6 = .slice A len cap ∧ IsRow .u8 W A len cap zs := by
    rcases open_ints Try.underlying22 Try.underlying5 (by kernel_rfl) t1_6 with ⟨hcs, _⟩ | ⟨x, l, c, zs, hcs, _, hl, hm, hz, _, hcell, hwz⟩
    · exact ⟨none, 0, 0, [], by simpa using hcs, .inl ⟨rfl, rfl, rfl, rfl⟩⟩
    · exact ⟨some x, l, c, zs, by simpa using hcs, .inr ⟨x, rfl, hl, hm, hz, hcell, hwz⟩⟩
  obtain rfl := e1_6
  obtain ⟨l1_6, rfl, hr1_6, hm1_6, hw1_6, hc1_6⟩ := Go.Proofs.YtpmiofjhgmdghaaW.PrintWords.ReadsInt.ofRowC w1_6
  have C1_6 := Go.Proofs.YtpmiofjhgmdghaaW.PrintWords.Kd.C_of_reads (d := (0 : Int)) (h1 := fun _ => rfl) hr1_6
  refine (Go.Proofs.Ytpmiofjhgmdghaa.RB.duffellaw24_RecordBehind.calls 5000 a0 cap0 l0 a1_0 a1_1 a1_2 a1_3 a1_4 a1_5 a1_6 cap1_6 l1_6 true _ C0 hc0 C1_6 hc1_6 (Go.Proofs.Ytpmiofjhgmdghaa.RBR.RecordBehind l0 a1_0 a1_1 a1_2 a1_3 a1_4 a1_5 l1_6 (fun x hx => bounds_u8 (hw0 x hx)) (fun x hx => bounds_u8 (hw1_6 x hx)) (bounds_u32 w1_4).1 (bounds_u32 w1_5).1)).mono fun e W' ⟨he, bel⟩ => ?_
  subst he
  exact ⟨_, rfl, _, _, _, [], _, [], hW', trodAll_mk1 (shut_bool Try.underlying4 _), (trodAll_cons_mk (Below.trod laidOut (by kernel_rfl) (of_decide_eq_true (by kernel_rfl)) k0 bel lt0) (trodAll_cons_mk (Below.trod laidOut (by kernel_rfl) (of_decide_eq_true (by kernel_rfl)) k1 bel lt1) trodAll_mk0)), rfl, bel.frame _, fun h => by cases h⟩
theorem over : Rows.recordBehindRow.holds Try.pinned (OpenSpec.ofChange Rows.recordBehindSpec) :=
  OpenClaim.holds_of_wide 4 Try.f4 rfl rfl rfl rfl rfl rfl rfl ⟨rfl, rfl, rfl, rfl, rfl⟩ rfl rfl rfl rfl rfl (by kernel_rfl) Try.func4 (by kernel_rfl)
    (of_decide_eq_true (by kernel_rfl)) (by unfold Func.isWrapper; first | (rw [if_pos (by decide +kernel)]; kernel_rfl) | (rw [if_neg (by decide +kernel)]; exact ⟨rfl, rfl⟩))
    (fun os started H enc _ => lifted os started H enc)
end Go.Proofs.Ytpmiofjhgmdghaa.recordBehind
namespace Go.Proofs.Ytpmiofjhgmdghaa
/-- The row, under a short name, for the claim. -/
theorem recordBehind_holds : Rows.RecordBehindSaid := recordBehind.over
end Go.Proofs.Ytpmiofjhgmdghaa
