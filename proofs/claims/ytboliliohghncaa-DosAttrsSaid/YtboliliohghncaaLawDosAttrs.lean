/- DosAttrs: for every attributes and any two numbers the law returns true; no conditions. -/
import Derived.Test.YtboliliohghncaaRows
import Derived.Test.YtboliliohghncaaDosAttr3
import Derived.WalkKit
import Derived.ProofKit
import Derived.OpenShut
import Derived.ShutString
import Derived.ChangeOld
import Derived.Below
import Derived.SizedLaws
import Derived.Test.YtboliliohghncaaMyOpen
namespace Go.Proofs.Ytboliliohghncaa.dosAttrs
open Go.ChangeShapes Go.WideShapes Go.ChangeAt Go.RowKit Go.Proofs.Ytboliliohghncaa.MyOpen
open Go.ChangeMaps (open_string shut_string)
set_option linter.unusedVariables false
theorem own : ownKnob Try.prog.godebug = none := by kernel_rfl
theorem laidOut : laidOutB Try.prog = true := by kernel_rfl
theorem list6 (l : List Value) (h : l.length = 6) : ∃ x0 x1 x2 x3 x4 x5, l = [x0, x1, x2, x3, x4, x5] := by
  match l, h with
  | [x0, x1, x2, x3, x4, x5], _ => exact ⟨x0, x1, x2, x3, x4, x5, rfl⟩
set_option maxRecDepth 100000 in
theorem lifted (os : Os) (started : os.Started) (H : Type) (enc : TypeId × Value → H) :
    ReturnsInHanded {} Try.checked os 6 .any (Rows.dosAttrsSpec.pre6 enc Try.prog Try.f6 Rows.dosAttrsRow.domain false) (Rows.dosAttrsSpec.post enc Try.prog Try.f6 false true false false) := by
  refine returnsInHanded_of_change_sized (C := Try.checked) own started (by kernel_rfl) Try.func6
    (ChangeSpec.witness6 (enc := enc) (C := Try.checked) false ⟨#[], #[.agg #[.bool false, .bool false, .bool false, .bool false, .bool false, .bool false], .int .i64 0, .int .i64 0], []⟩ 8 (by kernel_rfl) (by kernel_rfl) (by kernel_rfl) (by kernel_rfl)) ?_
  intro W base args ds gs before hval0 hW hcnd hsz0 _
  have hsz : (DataW.weightsEach Try.prog (Try.f6.params.toList ++ Rows.dosAttrsSpec.plain.varTypes Try.prog) (ds ++ gs)).all (· ≤ reachBytes) = true := hsz0
  have hval : ∀ (j : Nat) t v, Try.f6.params[j]? = some t → args[j]? = some v → Value.okWide Try.prog W .any base t v := hval0
  have hW' := hW
  obtain ⟨p, q, hA0, hV, rfl, hfz, hnd⟩ := hW
  have hA : DataW.TrodAll enc Try.prog W 0 (fun _ => true) true Try.f6.params.toList args.toList ds p := hA0
  rw [Try.params6] at hA hval hsz
  obtain ⟨v0, vs0, d0, ds0, p0, q0, hargs, rfl, rfl, h0, r0⟩ := trodAll_cons hA
  obtain ⟨v1, vs1, d1, ds1, p1, q1, rfl, rfl, rfl, h1, r1⟩ := trodAll_cons r0
  obtain ⟨v2, vs2, d2, ds2, p2, q2, rfl, rfl, rfl, h2, r2⟩ := trodAll_cons r1
  obtain ⟨rfl, rfl, rfl⟩ := trodAll_nil r2
  obtain rfl : args = #[v0, v1, v2] := by cases args; simp_all
  obtain ⟨rfl, rfl⟩ := trodVars_none hV
  have k0 := h0
  have lt0 : ∀ x ∈ p0, x.block < W.heap.size := by obtain ⟨m, hm⟩ := k0; exact DataW.trod_lt m _ _ _ hm
  obtain ⟨l0, rfl, hl0, hf0⟩ := open_struct Try.underlying40 (by kernel_rfl) (by kernel_rfl) (hval 0 40 v0 rfl rfl) h0
  obtain ⟨c0_0, c0_1, c0_2, c0_3, c0_4, c0_5, rfl⟩ := list6 l0 (by simpa using hl0)
  obtain ⟨u0_0, n0_0, y0_0, g0_0, t0_0⟩ := hf0 0 _ rfl
  obtain rfl := Option.some.inj g0_0
  obtain ⟨a0_0, e0_0, _⟩ := DataW.trod_bool Try.underlying4 t0_0
  obtain rfl := (List.cons.inj e0_0).1
  obtain ⟨u0_1, n0_1, y0_1, g0_1, t0_1⟩ := hf0 1 _ rfl
  obtain rfl := Option.some.inj g0_1
  obtain ⟨a0_1, e0_1, _⟩ := DataW.trod_bool Try.underlying4 t0_1
  obtain rfl := (List.cons.inj e0_1).1
  obtain ⟨u0_2, n0_2, y0_2, g0_2, t0_2⟩ := hf0 2 _ rfl
  obtain rfl := Option.some.inj g0_2
  obtain ⟨a0_2, e0_2, _⟩ := DataW.trod_bool Try.underlying4 t0_2
  obtain rfl := (List.cons.inj e0_2).1
  obtain ⟨u0_3, n0_3, y0_3, g0_3, t0_3⟩ := hf0 3 _ rfl
  obtain rfl := Option.some.inj g0_3
  obtain ⟨a0_3, e0_3, _⟩ := DataW.trod_bool Try.underlying4 t0_3
  obtain rfl := (List.cons.inj e0_3).1
  obtain ⟨u0_4, n0_4, y0_4, g0_4, t0_4⟩ := hf0 4 _ rfl
  obtain rfl := Option.some.inj g0_4
  obtain ⟨a0_4, e0_4, _⟩ := DataW.trod_bool Try.underlying4 t0_4
  obtain rfl := (List.cons.inj e0_4).1
  obtain ⟨u0_5, n0_5, y0_5, g0_5, t0_5⟩ := hf0 5 _ rfl
  obtain rfl := Option.some.inj g0_5
  obtain ⟨a0_5, e0_5, _⟩ := DataW.trod_bool Try.underlying4 t0_5
  obtain rfl := (List.cons.inj e0_5).1
  have k1 := h1
  have lt1 : ∀ x ∈ p1, x.block < W.heap.size := by obtain ⟨m, hm⟩ := k1; exact DataW.trod_lt m _ _ _ hm
  obtain ⟨a1, rfl, rfl, rfl, w1⟩ := open_int Try.underlying3 (hval 1 3 v1 rfl rfl) h1
  have k2 := h2
  have lt2 : ∀ x ∈ p2, x.block < W.heap.size := by obtain ⟨m, hm⟩ := k2; exact DataW.trod_lt m _ _ _ hm
  obtain ⟨a2, rfl, rfl, rfl, w2⟩ := open_int Try.underlying3 (hval 2 3 v2 rfl rfl) h2
  refine (DosWalk.attrs_law a0_0 a0_1 a0_2 a0_3 a0_4 a0_5 a1 a2 W (bounds_i64 w1).1 (bounds_i64 w1).2).mono fun e W' ⟨he, bel⟩ => ?_
  subst he
  exact ⟨_, rfl, _, _, _, [], _, [], hW', trodAll_mk1 (shut_bool Try.underlying4 _), (trodAll_cons_mk (Below.trod laidOut (by kernel_rfl) (of_decide_eq_true (by kernel_rfl)) k0 bel lt0) (trodAll_cons_mk (Below.trod laidOut (by kernel_rfl) (of_decide_eq_true (by kernel_rfl)) k1 bel lt1) (trodAll_cons_mk (Below.trod laidOut (by kernel_rfl) (of_decide_eq_true (by kernel_rfl)) k2 bel lt2) trodAll_mk0))), rfl, bel.frame _, fun h => by cases h⟩
theorem over : Rows.dosAttrsRow.holds Try.pinned (OpenSpec.ofChange Rows.dosAttrsSpec) :=
  OpenClaim.holds_of_wide 6 Try.f6 rfl rfl rfl rfl rfl rfl rfl ⟨rfl, rfl, rfl, rfl, rfl⟩ rfl rfl rfl rfl rfl (by kernel_rfl) Try.func6 (by kernel_rfl)
    (of_decide_eq_true (by kernel_rfl)) (by unfold Func.isWrapper; first | (rw [if_pos (by decide +kernel)]; kernel_rfl) | (rw [if_neg (by decide +kernel)]; exact ⟨rfl, rfl⟩))
    (fun os started H enc _ => lifted os started H enc)
end Go.Proofs.Ytboliliohghncaa.dosAttrs
namespace Go.Proofs.Ytboliliohghncaa
/-- The row, under a short name, for the claim. -/
theorem dosAttrs_holds : Rows.DosAttrsSaid := dosAttrs.over
end Go.Proofs.Ytboliliohghncaa
