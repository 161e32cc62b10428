/- page.upper, page.Rune, walked. -/
import Derived.Test.YtknacjoclpagaaaDoorProg
import Derived.Test.YtknacjoclpagaaaDoorMyWords
import Derived.Deep.QuietTactic
import Derived.BigQuiet
import Derived.Laws.Tables
import Derived.Laws.CopyOwn
namespace Go.Proofs.YtknacjoclpagaaaDoor.Pg
open Go.RowKit Go.Proofs.YtknacjoclpagaaaDoorW.PrintWords Go.Proofs.YtknacjoclpagaaaDoorW.PrintLast Go.Proofs.YtknacjoclpagaaaDoorW.PrintMore
set_option linter.unusedVariables false
set_option linter.unusedSimpArgs false
def upL : List Int := [199, 252, 233, 226, 228, 224, 229, 231, 234, 235, 232, 239, 238, 236, 196, 197, 201, 230, 198, 244, 246, 242, 251, 249, 255, 214, 220, 162, 163, 165, 8359, 402, 225, 237, 243, 250, 241, 209, 170, 186, 191, 8976, 172, 189, 188, 161, 171, 187, 9617, 9618, 9619, 9474, 9508, 9569, 9570, 9558, 9557, 9571, 9553, 9559, 9565, 9564, 9563, 9488, 9492, 9524, 9516, 9500, 9472, 9532, 9566, 9567, 9562, 9556, 9577, 9574, 9568, 9552, 9580, 9575, 9576, 9572, 9573, 9561, 9560, 9554, 9555, 9579, 9578, 9496, 9484, 9608, 9604, 9612, 9616, 9600, 945, 223, 915, 960, 931, 963, 181, 964, 934, 920, 937, 948, 8734, 966, 949, 8745, 8801, 177, 8805, 8804, 8992, 8993, 247, 8776, 176, 8729, 183, 8730, 8319, 178, 9632, 160]
def upV : Array Value := (upL.map (Value.int .i32)).toArray
def char (c : Nat) : Int := if c < 128 then (c : Int) else upL.getD (c - 128) 0
section
variable {P : Program}
theorem run_alloc_as (w : World) (ty : TypeId) (z : Value) (cs : Array Value) (old : Value) (hz : (P.info? ty).bind (·.zero) = some z) (hc : z.cells = cs) :
    (Instr.alloc ty true old).run P w = .ok (.pointer (some ⟨w.heap.size, 0, none⟩)) (w.alloc (.cells cs ty)) := by
  subst hc
  cases hi : P.info? ty with
  | none => simp [hi] at hz
  | some i =>
    simp [hi] at hz
    simp [Instr.alloc, zeroValue, typeInfo, hi, hz, newVar, newRow]
theorem wpList_alloc_as {ops : Array Oper} {rest : List Oper} {o : Oper} {a : Act} {w : World} {Q : Exit → Act → World → Prop} (hgd : o.guard = none) (ty : TypeId) (ho : o.op = .alloc ty) (z : Value) (cs : Array Value)
    (hz : (P.info? ty).bind (·.zero) = some z) (hc : z.cells = cs)
    (h : wpList P ops Q rest (a.put o.dst (.pointer (some ⟨w.heap.size, 0, none⟩))) (w.alloc (.cells cs ty))) : wpList P ops Q (o :: rest) a w :=
  wpList_plain hgd fun _ hK => by
    unfold Oper.wp execOp
    simp only [ho, Sem.run_bind, run_alloc_as w ty z cs (.tuple #[]) hz hc, Result.andThen_ok]
    exact hK _ _ h
theorem wpList_build_as {ops : Array Oper} {rest : List Oper} {o : Oper} {a : Act} {w : World} {Q : Exit → Act → World → Prop} (hg : o.guard = none) (t : TypeId) (parts : Array (Nat × Operand)) (ho : o.op = .build t parts)
    (cells : Array Value) (hf : P.built t (parts.map fun (i, x) => (i, a.eval x)).toList = some cells) (h : wpList P ops Q rest (a.put o.dst (.agg cells)) w) : wpList P ops Q (o :: rest) a w :=
  wpList_build hg t parts ho (by rw [hf]; rfl) (by rw [hf]; exact h)
end
def Z : Array Value := Array.replicate 128 (.int .i32 0)
theorem zInfo : (Tryd.prog.info? 60).bind (·.zero) = some (.agg Z) := by kernel_rfl
set_option maxHeartbeats 4000000 in
set_option maxRecDepth 100000 in
theorem upper_any (w : World) : Calls Tryd.prog 26 #[] w fun e w' => e = .returned (.agg upV) ∧ Below w.heap.size w w' := by
  go_enter Tryd.func26, Tryd.ntmps26
  go_wp2_with (first
    | (refine wpList_alloc_as rfl 60 rfl _ Z zInfo rfl ?_)
    | (refine wpList_build_as rfl 60 _ rfl upV (by kernel_rfl) ?_)
    | (refine wpList_store_row rfl 60 _ _ rfl w.heap.size upV rfl rfl 60 Z (heap_alloc_new w _) (by kernel_rfl) (by kernel_rfl) (by kernel_rfl) ?_))
  exact bodyPost_ret (v := .agg upV) (results_cell_row rfl _ _ w.heap.size 60 upV (0, 0) _ rfl (setRow_heap _ _ _ _ _ _ (heap_alloc_new w _)) Tryd.underlying60 rfl (by kernel_rfl)) rfl
    ⟨rfl, below_setRow (below_alloc (Below.refl _ _) _) (Nat.le_refl _) _⟩
theorem index_up (V : Array Value) (k : Nat) (z : Int) (h : k < 128) (hx : V[k]? = some (.int .i32 z)) (w : World) : (Instr.index 60 (.agg V) (.int .u8 (k : Int))).run Tryd.prog w = .ok (.int .i32 z) w := by
  have hi : (Tryd.prog.info? 21).map (·.size) = some 1 := by kernel_rfl
  obtain ⟨i0, hi0, hs⟩ := Option.map_eq_some_iff.1 hi
  have ha := Tryd.isAgg21
  simp [Instr.index, asIntOf, run_underlying Tryd.underlying60, sizeOf, typeInfo, hi0, hs, h, part, ha, hx]
set_option maxRecDepth 100000 in
theorem upV_at (k : Nat) (h : k < 128) : upV[k]? = some (.int .i32 (upL.getD k 0)) := by
  have hl : upL.length = 128 := by decide
  have hk : k < upL.length := by omega
  unfold upV
  simp [List.getD_eq_getElem?_getD, List.getElem?_eq_getElem hk]
set_option maxHeartbeats 4000000 in
set_option maxRecDepth 100000 in
theorem rune_any (c : Nat) (hc : c < 256) (w : World) : Calls Tryd.prog 18 #[.int .u8 c] w fun e w' => e = .returned (.int .i32 (char c)) ∧ Below w.heap.size w w' := by
  unfold char
  by_cases h : c < 128
  · rw [if_pos h]
    have c1 : decide ((c : Int) < 128) = true := decide_eq_true (by omega)
    have c2 : decide (c < 128) = true := decide_eq_true h
    have hw : IntKind.i32.wrap (c : Int) = c := by rw [IntKind.wrap_i32]; omega
    clear h hc
    go_enter Tryd.func18, Tryd.ntmps18
    go_wp2
    go_ret
    exact ⟨rfl, Below.refl _ _⟩
  · rw [if_neg h]
    have c1 : decide ((c : Int) < 128) = false := decide_eq_false (by omega)
    have c2 : decide (c < 128) = false := decide_eq_false h
    obtain ⟨k, hk⟩ : ∃ k : Nat, c - 128 = k := ⟨_, rfl⟩
    have hk2 : k < 128 := by omega
    have hw : IntKind.u8.wrap ((c : Int) - 128) = (k : Int) := by rw [IntKind.wrap_u8]; omega
    have hx := upV_at k hk2
    rw [hk]
    generalize upL.getD k 0 = z at *
    have hi := index_up upV k _ hk2 hx
    have UV := upper_any
    generalize upV = V at *
    have H := Aside0.mk UV
    have K2 := Aside0.mk hk2
    clear h hc UV hk hk2
    go_enter Tryd.func18, Tryd.ntmps18
    go_wp2_with (go_at_call 26; refine (H.out _).mono ?_; rintro e w1 ⟨rfl, hb⟩; have HB := Aside0.mk hb; clear hb)
    go_ret
    exact ⟨rfl, HB.out⟩
end Go.Proofs.YtknacjoclpagaaaDoor.Pg
