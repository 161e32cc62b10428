/- The walk of crc.Table: the array of what eight steps make of each byte. No conditions. -/
import Derived.Test.YtlemagpmhenmmaaProg
import Derived.Test.YtlemagpmhenmmaaWMore
import Derived.Test.YtlemagpmhenmmaaCrcMath
import Derived.Laws.Tables
import Derived.Laws.Rows
namespace Go.Proofs.Ytlemagpmhenmmaa.CrcWalk
open Go.RowKit Go.Proofs.YtlemagpmhenmmaaW.PrintWords Go.Proofs.YtlemagpmhenmmaaW.PrintLast Go.Proofs.YtlemagpmhenmmaaW.PrintMore
set_option linter.unusedVariables false
set_option linter.unusedSimpArgs false
section
variable {P : Program}
theorem run_alloc_as (w : World) (ty : TypeId) (z : Value) (cs : Array Value) (old : Value) (hz : (P.info? ty).bind (·.zero) = some z) (hc : z.cells = cs) :
    (Instr.alloc ty true old).run P w = .ok (.pointer (some ⟨w.heap.size, 0, none⟩)) (w.alloc (.cells cs ty)) := by
  subst hc
  cases hi : P.info? ty with
  | none => simp [hi] at hz
  | some i =>
    simp [hi] at hz
    simp [Instr.alloc, zeroValue, typeInfo, hi, hz, newVar, newRow]
theorem wpList_alloc_as {ops : Array Oper} {rest : List Oper} {o : Oper} {a : Act} {w : World} {Q : Exit → Act → World → Prop} (hgd : o.guard = none) (ty : TypeId) (ho : o.op = .alloc ty) (z : Value) (cs : Array Value)
    (hz : (P.info? ty).bind (·.zero) = some z) (hc : z.cells = cs)
    (h : wpList P ops Q rest (a.put o.dst (.pointer (some ⟨w.heap.size, 0, none⟩))) (w.alloc (.cells cs ty))) : wpList P ops Q (o :: rest) a w :=
  wpList_plain hgd fun _ hK => by
    unfold Oper.wp execOp
    simp only [ho, Sem.run_bind, run_alloc_as w ty z cs (.tuple #[]) hz hc, Result.andThen_ok]
    exact hK _ _ h
end

def Z : Array Value := Array.replicate 256 (.int .u32 0)
theorem zInfo : (Try.prog.info? 23).bind (·.zero) = some (.agg Z) := by kernel_rfl
def tabTo (k : Nat) : Array Value := ((List.range 256).map fun i => Value.int .u32 ((if i < k then Crc.steps 8 i else 0 : Nat) : Int)).toArray
theorem tabTo_size (k : Nat) : (tabTo k).size = 256 := by simp [tabTo]
theorem tabTo_at (k i : Nat) (hi : i < 256) : (tabTo k)[i]? = some (.int .u32 ((if i < k then Crc.steps 8 i else 0 : Nat) : Int)) := by
  simp [tabTo, hi]
theorem tabTo_zero : tabTo 0 = Z := by
  apply Array.ext
  · simp [tabTo, Z]
  · intro i h1 h2
    simp [tabTo, Z]
theorem tabTo_set (k : Nat) : (tabTo k).setIfInBounds k (.int .u32 (Crc.steps 8 k : Nat)) = tabTo (k + 1) := by
  apply Array.ext_getElem?
  intro i
  rw [Array.getElem?_setIfInBounds]
  by_cases hi : i < 256
  · rw [tabTo_at _ i hi, tabTo_at _ i hi, tabTo_size]
    by_cases e : k = i
    · subst e; simp [hi]
    · rw [if_neg e]
      by_cases h : i < k
      · rw [if_pos h, if_pos (show i < k + 1 by omega)]
      · rw [if_neg h, if_neg (show ¬ i < k + 1 by omega)]
  · have n1 : (tabTo k)[i]? = none := by rw [Array.getElem?_eq_none]; rw [tabTo_size]; omega
    have n2 : (tabTo (k + 1))[i]? = none := by rw [Array.getElem?_eq_none]; rw [tabTo_size]; omega
    rw [n1, n2, tabTo_size]
    by_cases e : k = i
    · rw [if_pos e, if_neg (by omega)]
    · rw [if_neg e]
theorem steps_more (n : Nat) : ∀ x : Nat, Crc.steps (n + 1) x = Crc.step (Crc.steps n x) := by
  induction n with
  | zero => intro x; rfl
  | succ n ih => intro x; exact ih (Crc.step x)

theorem wraps_u32 (n : Int) (h0 : 0 ≤ n) (h1 : n < 2 ^ 32) : IntKind.u32.wrap n = n := by rw [IntKind.wrap_u32]; omega
theorem u32_and (a b : Nat) (ha : a < 4294967296) (hb : b < 4294967296) : Go.bits .and .u32 (a : Int) (b : Int) = ((a &&& b : Nat) : Int) := (bits_nat .u32 32 (by decide) wraps_u32 a b ha hb).1
theorem u32_xor (a b : Nat) (ha : a < 4294967296) (hb : b < 4294967296) : Go.bits .xor .u32 (a : Int) (b : Int) = ((a ^^^ b : Nat) : Int) := by
  have ha' : a % 2 ^ 32 = a := Nat.mod_eq_of_lt ha
  have hb' : b % 2 ^ 32 = b := Nat.mod_eq_of_lt hb
  have hx : a ^^^ b < 2 ^ 32 := Nat.xor_lt_two_pow (n := 32) ha hb
  simp only [Go.bits, BitVec.ofInt_natCast]
  show IntKind.u32.wrap ((BitVec.ofNat 32 a ^^^ BitVec.ofNat 32 b).toNat : Int) = _
  rw [BitVec.toNat_xor, BitVec.toNat_ofNat, BitVec.toNat_ofNat, ha', hb']
  exact wraps_u32 _ (Int.natCast_nonneg _) (by exact_mod_cast hx)
theorem body_eq (x : Nat) (hx : x < 4294967296) : Go.bits .xor .u32 ((x : Int) / 2) (Go.bits .and .u32 3988292384 ((-Go.bits .and .u32 (x : Int) 1) % 4294967296)) = (Crc.step x : Nat) := by
  have e1 : Go.bits .and .u32 (x : Int) 1 = ((x % 2 : Nat) : Int) := by
    have := u32_and x 1 hx (by decide)
    rw [Nat.and_one_is_mod] at this
    exact this
  rw [e1]
  have e0 : ((x : Int) / 2) = ((x / 2 : Nat) : Int) := by omega
  rw [e0]
  unfold Crc.step
  by_cases h : x % 2 = 1
  · rw [if_pos h, h]
    have e2 : (-((1 : Nat) : Int)) % 4294967296 = ((4294967295 : Nat) : Int) := by decide
    have e3 : Go.bits .and .u32 3988292384 ((4294967295 : Nat) : Int) = ((3988292384 : Nat) : Int) := by
      have := u32_and 3988292384 4294967295 (by decide) (by decide)
      exact this
    rw [e2, e3, u32_xor _ _ (by omega) (by decide)]
    rfl
  · have h0 : x % 2 = 0 := by omega
    rw [if_neg h, h0]
    have e2 : (-((0 : Nat) : Int)) % 4294967296 = ((0 : Nat) : Int) := by decide
    have e3 : Go.bits .and .u32 3988292384 ((0 : Nat) : Int) = ((0 : Nat) : Int) := by
      have := u32_and 3988292384 0 (by decide) (by decide)
      exact this
    rw [e2, e3, u32_xor _ _ (by omega) (by decide), Nat.xor_zero]

set_option maxHeartbeats 1000000 in
set_option maxRecDepth 100000 in
theorem table_any (w : World) : Calls Try.prog 8 #[] w fun e w' => e = .returned (.agg (tabTo 256)) ∧ Below w.heap.size w w' := by
  go_enter Try.func8, Try.ntmps8
  go_wp2_with (first | (refine wpList_alloc_as rfl 23 rfl _ Z zInfo rfl ?_))
  go_loopw [4] (fun v4 wr => ∃ k : Nat, k ≤ 256 ∧ v4 = .int .i64 k ∧ Hid (wr.heap[w.heap.size]? = some (.cells Z 23 (0, 0))) ∧ Hid (wr.heap[w.heap.size + 1]? = some (.cells (tabTo k) 23 (0, 0))) ∧ Hid (Below w.heap.size w wr)) (fun v4 _ => 256 - (intOf v4).toNat)
  case atStart =>
    refine ⟨0, by omega, rfl, ?_, ?_, ?_⟩
    · exact heap_alloc2_old w _ _
    · rw [tabTo_zero]; exact heap_alloc2_new w _ _
    · exact ((Below.refl _ _).alloc (Nat.le_refl _) _).alloc (by simp) _
  case round =>
    obtain ⟨k, hk, rfl, h0, h1, hb⟩ := hrel
    by_cases hlt : k < 256
    · go_wp2
      go_loop [3, 9] (fun v3 v9 => ∃ j : Nat, j ≤ 8 ∧ v9 = .int .i64 j ∧ v3 = .int .u32 (Crc.steps j k : Nat)) (fun _ v9 => 8 - (intOf v9).toNat)
      case atStart => exact ⟨0, by omega, rfl, rfl⟩
      case round =>
        obtain ⟨j, hj, rfl, rfl⟩ := hrel
        by_cases hlt2 : j < 8
        · go_wp2
          go_round
          case rel =>
            refine ⟨j + 1, by omega, by go_num, ?_⟩
            rw [steps_more, ← body_eq _ (Crc.steps_lt j (by omega))]
          case measure => simp [intOf]; omega
        · have hc := (cell_of_row wr (w.heap.size + 1) k _ _ _ h1.out).trans (tabTo_at k k hlt)
          have hf := frozen_of_row wr (w.heap.size + 1) k _ _ h1.out
          obtain rfl : j = 8 := by omega
          go_wp2
          go_roundw
          case rel =>
            refine ⟨k + 1, by omega, by go_num, ?_, ?_, ?_⟩
            · exact (Below.heap_setCell _ _ _ _ (by simp)).trans h0.out
            · rw [← tabTo_set]; exact heap_setCell_same _ _ _ _ _ _ h1.out
            · exact hb.out.setCell (by simp) _
          case measure => simp [intOf]; omega
    · obtain rfl : k = 256 := by omega
      go_wp2_with (first | (refine wpList_load_row rfl 23 _ rfl (w.heap.size + 1) rfl 23 _ _ _ h1.out Try.underlying23 rfl (by kernel_rfl) ?_) | (refine wpList_store_row rfl 23 _ _ rfl w.heap.size (tabTo 256) rfl rfl 23 Z h0.out (by kernel_rfl) (by simp [tabTo_size, Z]) (by simp [tabTo, Value.oneCell']) ?_))
      exact bodyPost_ret (v := .agg (tabTo 256)) (results_cell_row rfl _ _ w.heap.size 23 (tabTo 256) (0, 0) _ rfl (setRow_heap _ _ _ _ _ _ h0.out) Try.underlying23 rfl (by kernel_rfl)) rfl
        ⟨rfl, hb.out.trans ⟨rfl, rfl, rfl, by simp, fun i hi => setRow_other _ _ _ _ (by omega)⟩⟩
end Go.Proofs.Ytlemagpmhenmmaa.CrcWalk
