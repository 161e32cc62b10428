/- What a record's row holds at last: plain facts. -/
import Derived.Test.YtpmiofjhgmdghaaRecWrite0
namespace Go.Proofs.Ytpmiofjhgmdghaa.Fld
open Go.RowKit Go.Proofs.YtpmiofjhgmdghaaW.PrintWords Go.Proofs.YtpmiofjhgmdghaaW.PrintLast Go.Proofs.YtpmiofjhgmdghaaW.PrintMore
def In16 (x : Int) : Prop := 0 ≤ x ∧ x ≤ 65535
theorem st16_zero {s : List Int × Int} {x : Int} (h : (st16 s x).2 = 0) : s.2 = 0 ∧ In16 x ∧ (st16 s x).1 = s.1 ++ le x 2 := by
  have h' : u16E s.2 x = 0 := h
  unfold u16E at h'
  by_cases c : s.2 = 0 ∧ ¬ (0 ≤ x ∧ x ≤ 65535)
  · rw [if_pos c] at h'; cases h'
  · rw [if_neg c] at h'
    have hx : 0 ≤ x ∧ x ≤ 65535 := Classical.byContradiction fun hx => c ⟨h', hx⟩
    refine ⟨h', hx, ?_⟩
    show u16L s.1 s.2 x = _
    unfold u16L
    rw [if_pos ⟨h', hx⟩]
theorem st32_zero {s : List Int × Int} {x : Int} (h : (st32 s x).2 = 0) : s.2 = 0 ∧ (st32 s x).1 = s.1 ++ le x 4 := by
  have h' : s.2 = 0 := h
  refine ⟨h', ?_⟩
  show u32L s.1 s.2 x = _
  unfold u32L
  rw [if_pos h']
theorem stPut_zero {s : List Int × Int} {b : List Int} (h : (stPut s b).2 = 0) : s.2 = 0 ∧ (stPut s b).1 = s.1 ++ b := by
  have h' : s.2 = 0 := h
  refine ⟨h', ?_⟩
  show putL s.1 s.2 b = _
  unfold putL
  rw [if_pos h']
theorem st16_e {s : List Int × Int} {x : Int} : (st16 s x).2 = if s.2 = 0 then (if 0 ≤ x ∧ x ≤ 65535 then 0 else 18) else s.2 := by
  show u16E s.2 x = _
  unfold u16E
  by_cases h1 : s.2 = 0
  · rw [if_pos h1]
    by_cases h2 : 0 ≤ x ∧ x ≤ 65535
    · rw [if_pos h2, if_neg (fun h => h.2 h2), h1]
    · rw [if_neg h2, if_pos ⟨h1, h2⟩]
  · rw [if_neg h1, if_neg (fun h => h1 h.1)]
def endL (a0 a1 a2 a3 a4 a5 : Int) (b : List Int) : List Int :=
  [] ++ le 101010256 4 ++ le a0 2 ++ le a1 2 ++ le a2 2 ++ le a3 2 ++ le a4 4 ++ le a5 4 ++ le (b.length : Int) 2 ++ b
theorem end_zero {a0 a1 a2 a3 a4 a5 : Int} {b : List Int} (h : (endS a0 a1 a2 a3 a4 a5 b).2 = 0) :
    In16 a0 ∧ In16 a1 ∧ In16 a2 ∧ In16 a3 ∧ In16 (b.length : Int) ∧ (endS a0 a1 a2 a3 a4 a5 b).1 = endL a0 a1 a2 a3 a4 a5 b := by
  obtain ⟨h, e1⟩ := stPut_zero h
  obtain ⟨h, r5, e2⟩ := st16_zero h
  obtain ⟨h, e3⟩ := st32_zero h
  obtain ⟨h, e4⟩ := st32_zero h
  obtain ⟨h, r3, e5⟩ := st16_zero h
  obtain ⟨h, r2, e6⟩ := st16_zero h
  obtain ⟨h, r1, e7⟩ := st16_zero h
  obtain ⟨h, r0, e8⟩ := st16_zero h
  obtain ⟨h, e9⟩ := st32_zero h
  refine ⟨r0, r1, r2, r3, r5, ?_⟩
  unfold endS endL
  rw [e1, e2, e3, e4, e5, e6, e7, e8, e9]
theorem endL_length (a0 a1 a2 a3 a4 a5 : Int) (b : List Int) : (endL a0 a1 a2 a3 a4 a5 b).length = 22 + b.length := by
  unfold endL
  simp only [List.length_append, le_length, List.length_nil]
theorem byteAt_range (x : Int) (i : Nat) : 0 ≤ byteAt x i ∧ byteAt x i ≤ 255 := by unfold byteAt; omega
theorem le_bytes (x : Int) (n : Nat) : ∀ y ∈ le x n, 0 ≤ y ∧ y ≤ 255 := by
  intro y hy
  unfold le at hy
  obtain ⟨i, _, rfl⟩ := List.mem_map.mp hy
  exact byteAt_range x i
theorem endL_bytes {a0 a1 a2 a3 a4 a5 : Int} {b : List Int} (hb : ∀ y ∈ b, 0 ≤ y ∧ y ≤ 255) : ∀ y ∈ endL a0 a1 a2 a3 a4 a5 b, 0 ≤ y ∧ y ≤ 255 := by
  intro y hy
  unfold endL at hy
  simp only [List.mem_append, List.not_mem_nil, false_or] at hy
  rcases hy with (((((((h | h) | h) | h) | h) | h) | h) | h) | h
  all_goals first | exact le_bytes _ _ _ h | exact hb _ h
theorem le4 (x : Int) : le x 4 = [byteAt x 0, byteAt x 1, byteAt x 2, byteAt x 3] := rfl
theorem le2 (x : Int) : le x 2 = [byteAt x 0, byteAt x 1] := rfl
theorem num_le2 (x : Int) (h : In16 x) : byteAt x 0 + 256 * (byteAt x 1 + 256 * 0) = x := by
  obtain ⟨h0, h1⟩ := h
  simp only [byteAt]; omega
end Go.Proofs.Ytpmiofjhgmdghaa.Fld
