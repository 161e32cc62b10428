/- the reference's table, walked. -/
import Derived.Test.YtknacjoclpagaaaDoorPageRune0
import Derived.Great.BuildSlice
import Derived.Test.YtknacjoclpagaaaDoorWRepsOne
namespace Go.Proofs.YtknacjoclpagaaaDoor.Pg
open Go.RowKit Go.Proofs.YtknacjoclpagaaaDoorW.PrintWords Go.Proofs.YtknacjoclpagaaaDoorW.PrintLast Go.Proofs.YtknacjoclpagaaaDoorW.PrintMore
set_option linter.unusedVariables false
set_option linter.unusedSimpArgs false
theorem reps_ints {k : IntKind} {W : World} {base : Nat} {okp : Nat → Prop} : ∀ zs : List Int, Reps (Kd.M (Kd.int k) W base okp) 1 zs (zs.map (Value.int k))
  | [] => Reps.none _ _
  | z :: zs => Reps.one (show Kd.M (Kd.int k) _ _ _ z [.int k z] from rfl) (reps_ints zs)
theorem R_row {k : IntKind} {W : World} {base e : Nat} (zs : List Int) (hbase : base ≤ W.heap.size) (hm : zs.length ≤ 9223372036854775807) :
    Kd.R (Kd.int k) e (W.alloc (.cells (zs.map (Value.int k)).toArray e)) base (fun _ => True) (.slice (some ⟨W.heap.size, 0, none⟩) zs.length zs.length) zs := by
  refine ⟨fun k hk => trivial, zs.map (Value.int k), ?_, reps_ints zs⟩
  have h2 := World.ownsRow_lit (base := base) (e := e) (size := 1) W (zs.map (Value.int k)).toArray zs.length hbase (by simpa [maxLen] using hm) (by simp)
  have h3 : (Kd.int k).sz = 1 := rfl
  rw [h3]
  simpa using h2
set_option maxHeartbeats 4000000 in
set_option maxRecDepth 100000 in
theorem refup_any (w : World) : Calls Tryd.prog 30 #[] w fun e w' => ∃ v : Value, e = .returned v ∧ Kd.R (Kd.int .i64) 3 w' w.heap.size (fun _ => True) v upL ∧ Below w.heap.size w w' := by
  have HR := Aside0.mk (R_row (k := .i64) (W := w) (base := w.heap.size) (e := 3) upL (Nat.le_refl _) (by decide))
  have HB := Aside0.mk (below_alloc (Below.refl w.heap.size w) (.cells (upL.map (Value.int .i64)).toArray 3))
  go_enter Tryd.func30, Tryd.ntmps30
  go_wp2_with (refine wpList_buildFlat rfl 66 3 128 _ rfl .i64 upL Tryd.underlying66 (by kernel_rfl) (by kernel_rfl) (by decide) (by decide) (by decide) (by kernel_rfl) ?_)
  go_ret
  exact ⟨_, rfl, HR.out, HB.out⟩
end Go.Proofs.YtknacjoclpagaaaDoor.Pg
