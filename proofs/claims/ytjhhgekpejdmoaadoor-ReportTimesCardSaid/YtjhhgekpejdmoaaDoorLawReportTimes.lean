/- ReportTimes: ReportX, how stamps, attributes are told -/
import Derived.Test.YtjhhgekpejdmoaaDoorRows
import Derived.Test.YtjhhgekpejdmoaaDoorCards
import Derived.Test.YtjhhgekpejdmoaaDoorTie
import Derived.Test.YtjhhgekpejdmoaaDoorPureReportTimes
import Derived.Test.YtjhhgekpejdmoaaDoorRepTabs
import Derived.WalkKit
import Derived.ProofKit
import Derived.OpenShut
import Derived.ShutString
import Derived.ChangeOld
import Derived.Below
import Derived.SizedLaws
import Derived.LaidMore
import Derived.SevenTiedAt
import Derived.MakeChecks
import Derived.LaidHandle
import Derived.Lay
import Derived.Test.YtjhhgekpejdmoaaDoorMyOpen
import Derived.Test.YtjhhgekpejdmoaaDoorMyDoor
namespace Go.Proofs.YtjhhgekpejdmoaaDoor.reportTimes
open Go.ChangeShapes Go.WideShapes Go.ChangeAt Go.RowKit Go.Proofs.YtjhhgekpejdmoaaDoor.MyOpen
open Go.ChangeMaps (open_string shut_string)
set_option linter.unusedVariables false
theorem own : ownKnob Tryd.prog.godebug = none := by kernel_rfl
theorem laidOut : laidOutB Tryd.prog = true := by kernel_rfl
theorem list6 (l : List Value) (h : l.length = 6) : ∃ x0 x1 x2 x3 x4 x5, l = [x0, x1, x2, x3, x4, x5] := by
  match l, h with
  | [x0, x1, x2, x3, x4, x5], _ => exact ⟨x0, x1, x2, x3, x4, x5, rfl⟩
set_option maxRecDepth 100000 in
theorem door_met (os : Os) (args : Array Value) : laidMetH Tryd.prog Rows.reportTimesRow.laid ((World.laidAll Tryd.prog os Rows.reportTimesRow.laid).forCall (fun _ _ => 0) ⟨#[], args, []⟩).memory := by
  rw [MakeChecks.laidMetH_plain _ _ _ (by kernel_rfl)]; exact laidMet_laidAll _ (by kernel_rfl) (by kernel_rfl)
theorem lifted (os : Os) (started : os.Started) (H : Type) (enc : TypeId × Value → H) :
    ReturnsInHanded {} Tryd.checked os 5 .any (fun w args => (Rows.reportTimesSpec.pre enc Tryd.prog Tryd.f5 [] false w args ∧ laidMetH Tryd.prog Rows.reportTimesRow.laid w) ∧ sizedMet enc Tryd.prog Tryd.f5 (OpenSpec.ofChange Rows.reportTimesSpec) false w args) (Rows.reportTimesSpec.post enc Tryd.prog Tryd.f5 false true false false) := by
  refine change_and_shaped (C := Tryd.checked) (X := fun w _ => laidMetH Tryd.prog Rows.reportTimesRow.laid w) (fun _ _ _ hh h => h.of_heap hh) own started (by kernel_rfl) Tryd.func5
    (ChangeSpec.witness_shaped (enc := enc) (C := Tryd.checked) (os := os) (X := fun w _ => laidMetH Tryd.prog Rows.reportTimesRow.laid w) false (World.laidAll Tryd.prog os Rows.reportTimesRow.laid) #[.agg #[.int .i64 0, .int .i64 0, .int .i64 0, .int .i64 0, .int .i64 0, .int .i64 0], .agg #[.bool false, .bool false, .bool false, .bool false, .bool false, .bool false]] 8 (World.laidAll_os _ _ _) (World.shaped_of_ZipB (by kernel_rfl) (by kernel_rfl)) (by kernel_rfl) (by kernel_rfl) (by kernel_rfl) (door_met os _)) ?_
  intro W base args ds gs before hval0 hW hcnd hsz0 hlaid hshp _
  have hsz : (DataW.weightsEach Tryd.prog (Tryd.f5.params.toList ++ Rows.reportTimesSpec.plain.varTypes Tryd.prog) (ds ++ gs)).all (· ≤ reachBytes) = true := hsz0
  have hval : ∀ (j : Nat) t v, Tryd.f5.params[j]? = some t → args[j]? = some v → OkW Tryd.prog W base t v := okw_of @hval0
  have hW' := hW
  obtain ⟨p, q, hA0, hV, rfl, hfz, hnd⟩ := hW
  have hA : DataW.TrodAll enc Tryd.prog W 0 (fun _ => true) true Tryd.f5.params.toList args.toList ds p := hA0
  rw [Tryd.params5] at hA hval hsz
  obtain ⟨v0, vs0, d0, ds0, p0, q0, hargs, rfl, rfl, h0, r0⟩ := trodAll_cons hA
  obtain ⟨v1, vs1, d1, ds1, p1, q1, rfl, rfl, rfl, h1, r1⟩ := trodAll_cons r0
  obtain ⟨rfl, rfl, rfl⟩ := trodAll_nil r1
  obtain rfl : args = #[v0, v1] := by cases args; simp_all
  obtain ⟨rfl, rfl⟩ := trodVars_none hV
  have k0 := h0
  have lt0 : ∀ x ∈ p0, x.block < W.heap.size := by obtain ⟨m, hm⟩ := k0; exact DataW.trod_lt m _ _ _ hm
  obtain ⟨l0, rfl, hl0, hf0⟩ := q_struct Tryd.underlying30 (by kernel_rfl) (by kernel_rfl) (hval 0 30 v0 rfl rfl) h0
  obtain ⟨c0_0, c0_1, c0_2, c0_3, c0_4, c0_5, rfl⟩ := list6 l0 (by simpa using hl0)
  obtain ⟨u0_0, n0_0, y0_0, g0_0, t0_0⟩ := hf0 0 _ rfl
  obtain rfl := Option.some.inj g0_0
  obtain ⟨a0_0, e0_0, _, w0_0⟩ := DataW.trod_int Tryd.underlying3 t0_0
  obtain rfl := (List.cons.inj e0_0).1
  obtain ⟨u0_1, n0_1, y0_1, g0_1, t0_1⟩ := hf0 1 _ rfl
  obtain rfl := Option.some.inj g0_1
  obtain ⟨a0_1, e0_1, _, w0_1⟩ := DataW.trod_int Tryd.underlying3 t0_1
  obtain rfl := (List.cons.inj e0_1).1
  obtain ⟨u0_2, n0_2, y0_2, g0_2, t0_2⟩ := hf0 2 _ rfl
  obtain rfl := Option.some.inj g0_2
  obtain ⟨a0_2, e0_2, _, w0_2⟩ := DataW.trod_int Tryd.underlying3 t0_2
  obtain rfl := (List.cons.inj e0_2).1
  obtain ⟨u0_3, n0_3, y0_3, g0_3, t0_3⟩ := hf0 3 _ rfl
  obtain rfl := Option.some.inj g0_3
  obtain ⟨a0_3, e0_3, _, w0_3⟩ := DataW.trod_int Tryd.underlying3 t0_3
  obtain rfl := (List.cons.inj e0_3).1
  obtain ⟨u0_4, n0_4, y0_4, g0_4, t0_4⟩ := hf0 4 _ rfl
  obtain rfl := Option.some.inj g0_4
  obtain ⟨a0_4, e0_4, _, w0_4⟩ := DataW.trod_int Tryd.underlying3 t0_4
  obtain rfl := (List.cons.inj e0_4).1
  obtain ⟨u0_5, n0_5, y0_5, g0_5, t0_5⟩ := hf0 5 _ rfl
  obtain rfl := Option.some.inj g0_5
  obtain ⟨a0_5, e0_5, _, w0_5⟩ := DataW.trod_int Tryd.underlying3 t0_5
  obtain rfl := (List.cons.inj e0_5).1
  have k1 := h1
  have lt1 : ∀ x ∈ p1, x.block < W.heap.size := by obtain ⟨m, hm⟩ := k1; exact DataW.trod_lt m _ _ _ hm
  obtain ⟨l1, rfl, hl1, hf1⟩ := q_struct Tryd.underlying32 (by kernel_rfl) (by kernel_rfl) (hval 1 32 v1 rfl rfl) h1
  obtain ⟨c1_0, c1_1, c1_2, c1_3, c1_4, c1_5, rfl⟩ := list6 l1 (by simpa using hl1)
  obtain ⟨u1_0, n1_0, y1_0, g1_0, t1_0⟩ := hf1 0 _ rfl
  obtain rfl := Option.some.inj g1_0
  obtain ⟨a1_0, e1_0, _⟩ := DataW.trod_bool Tryd.underlying4 t1_0
  obtain rfl := (List.cons.inj e1_0).1
  obtain ⟨u1_1, n1_1, y1_1, g1_1, t1_1⟩ := hf1 1 _ rfl
  obtain rfl := Option.some.inj g1_1
  obtain ⟨a1_1, e1_1, _⟩ := DataW.trod_bool Tryd.underlying4 t1_1
  obtain rfl := (List.cons.inj e1_1).1
  obtain ⟨u1_2, n1_2, y1_2, g1_2, t1_2⟩ := hf1 2 _ rfl
  obtain rfl := Option.some.inj g1_2
  obtain ⟨a1_2, e1_2, _⟩ := DataW.trod_bool Tryd.underlying4 t1_2
  obtain rfl := (List.cons.inj e1_2).1
  obtain ⟨u1_3, n1_3, y1_3, g1_3, t1_3⟩ := hf1 3 _ rfl
  obtain rfl := Option.some.inj g1_3
  obtain ⟨a1_3, e1_3, _⟩ := DataW.trod_bool Tryd.underlying4 t1_3
  obtain rfl := (List.cons.inj e1_3).1
  obtain ⟨u1_4, n1_4, y1_4, g1_4, t1_4⟩ := hf1 4 _ rfl
  obtain rfl := Option.some.inj g1_4
  obtain ⟨a1_4, e1_4, _⟩ := DataW.trod_bool Tryd.underlying4 t1_4
  obtain rfl := (List.cons.inj e1_4).1
  obtain ⟨u1_5, n1_5, y1_5, g1_5, t1_5⟩ := hf1 5 _ rfl
  obtain rfl := Option.some.inj g1_5
  obtain ⟨a1_5, e1_5, _⟩ := DataW.trod_bool Tryd.underlying4 t1_5
  obtain rfl := (List.cons.inj e1_5).1
  refine ((by obtain ⟨k_, hk_⟩ := (Pure.ReportTimes a0_0 a0_1 a0_2 a0_3 a0_4 a0_5 a1_0 a1_1 a1_2 a1_3 a1_4 a1_5 ); exact RB.duffellaw34_ReportTimes.calls k_ a0_0 a0_1 a0_2 a0_3 a0_4 a0_5 a1_0 a1_1 a1_2 a1_3 a1_4 a1_5 true W (RepTab.times hlaid) hk_ : Calls Tryd.prog 5 _ W fun e w' => e = .returned (.bool true) ∧ Below W.heap.size W w')).mono fun e W' ⟨he, bel⟩ => ?_
  subst he
  exact ⟨_, rfl, _, _, _, [], _, [], hW', trodAll_mk1 (shut_bool Tryd.underlying4 _), (trodAll_cons_mk (Below.trod laidOut (by kernel_rfl) (of_decide_eq_true (by kernel_rfl)) k0 bel lt0) (trodAll_cons_mk (Below.trod laidOut (by kernel_rfl) (of_decide_eq_true (by kernel_rfl)) k1 bel lt1) trodAll_mk0)), rfl, bel.frame _, fun h => by cases h⟩
theorem over : Rows.reportTimesRow.holds Tryd.pinned (OpenSpec.ofChange Rows.reportTimesSpec) :=
  OpenClaim.holds_of_wide 5 Tryd.f5 rfl rfl rfl rfl rfl rfl rfl ⟨rfl, rfl, rfl, rfl, rfl⟩ rfl rfl rfl rfl rfl (by kernel_rfl) Tryd.func5 (by kernel_rfl)
    (of_decide_eq_true (by kernel_rfl)) (by unfold Func.isWrapper; first | (rw [if_pos (by decide +kernel)]; kernel_rfl) | (rw [if_neg (by decide +kernel)]; exact ⟨rfl, rfl⟩))
    (fun os started H enc _ => lifted os started H enc)
end Go.Proofs.YtjhhgekpejdmoaaDoor.reportTimes
namespace Go.Proofs.YtjhhgekpejdmoaaDoor
/-- The card, closed: its row, tied to the text by the given tie. -/
theorem reportTimes_holds : Rows.ReportTimesCardSaid :=
  Claim7.holds_tied_plain_at .later [] [.data, .data, .data] true (true, "55c1d78dc66969c6b36774b3cfba6b00e33cf54d25944adc8660d51ed5cfc069") false
    reportTimes.over (fun _ h => by cases h) (by kernel_rfl) (fun _ h => by cases h) reportTimes_row_tie rfl ⟨rfl, rfl⟩ (by kernel_rfl) rfl
    (fun f fn hf hfn => by
      obtain rfl : f = 5 := Option.some.inj ((show Tryd.prog.funcNamed "duffel/duffellaw34.ReportTimes" = some 5 by kernel_rfl).symm.trans hf) |>.symm
      obtain rfl : fn = Tryd.f5 := (Option.some.inj (Tryd.func5.symm.trans hfn)).symm
      exact ⟨by kernel_rfl, fun j t ht => by
        rw [Tryd.params5] at ht
        have hm : t ∈ [30, 32] := by simpa using Array.mem_of_getElem? ht
        have hall : ([30, 32].all fun u => !Tryd.prog.wantsStandIn u) = true := by kernel_rfl
        exact (show Tryd.prog.wantsStandIn t = false by simpa using List.all_eq_true.1 hall t hm)⟩)
    (by kernel_rfl)
end Go.Proofs.YtjhhgekpejdmoaaDoor
