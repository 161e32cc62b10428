/- record: when a row of writings is right, what it holds then (plain). -/
import Derived.Test.YtpmiofjhgmdghaaRecState
import Derived.Test.YtpmiofjhgmdghaaRecWrite1
namespace Go.Proofs.Ytpmiofjhgmdghaa.RecP
open Go.RowKit Go.Proofs.YtpmiofjhgmdghaaW.PrintWords Go.Proofs.YtpmiofjhgmdghaaW.PrintLast Go.Proofs.YtpmiofjhgmdghaaW.PrintMore Go.Proofs.Ytpmiofjhgmdghaa.Fld
set_option linter.unusedVariables false
set_option linter.unusedSimpArgs false
theorem st16_ok {s : List Int × Int} {x : Int} (h : s.2 = 0) (hx : In16 x) : (st16 s x).2 = 0 := by rw [st16_e, if_pos h]; exact if_pos hx
theorem st32_ok {s : List Int × Int} {x : Int} (h : s.2 = 0) : (st32 s x).2 = 0 := h
theorem stPut_ok {s : List Int × Int} {b : List Int} (h : s.2 = 0) : (stPut s b).2 = 0 := h
def Two (s : List Int × Int) : Prop := s.2 = 0 ∨ s.2 = 18
theorem Two.h {s : List Int × Int} {x : Int} (h : Two s) : Two (st16 s x) := by
  unfold Two
  rw [st16_e]
  by_cases c : s.2 = 0
  · rw [if_pos c]; split
    · exact .inl rfl
    · exact .inr rfl
  · rw [if_neg c]; exact .inr (h.resolve_left c)
theorem Two.w {s : List Int × Int} {x : Int} (h : Two s) : Two (st32 s x) := h
theorem Two.p {s : List Int × Int} {x : List Int} (h : Two s) : Two (stPut s x) := h
theorem Two.zero : Two ([], 0) := .inl rfl
theorem loc_two (a0 a1 a2 a3 a4 a5 a6 a7 : Int) (b8 b9 : List Int) : Two (locS a0 a1 a2 a3 a4 a5 a6 a7 b8 b9) := Two.zero.w.h.h.h.h.h.w.w.w.h.h.p.p
theorem loc_zero {a0 a1 a2 a3 a4 a5 a6 a7 : Int} {b8 b9 : List Int} (h : (locS a0 a1 a2 a3 a4 a5 a6 a7 b8 b9).2 = 0) : (In16 a0 ∧ In16 a1 ∧ In16 a2 ∧ In16 a3 ∧ In16 a4 ∧ In16 (b8.length : Int) ∧ In16 (b9.length : Int)) ∧ (locS a0 a1 a2 a3 a4 a5 a6 a7 b8 b9).1 = [] ++ le 67324752 4 ++ le a0 2 ++ le a1 2 ++ le a2 2 ++ le a3 2 ++ le a4 2 ++ le a5 4 ++ le a6 4 ++ le a7 4 ++ le (b8.length : Int) 2 ++ le (b9.length : Int) 2 ++ b8 ++ b9 := by
  obtain ⟨h, e1⟩ := stPut_zero h
  obtain ⟨h, e2⟩ := stPut_zero h
  obtain ⟨h, r3, e3⟩ := st16_zero h
  obtain ⟨h, r4, e4⟩ := st16_zero h
  obtain ⟨h, e5⟩ := st32_zero h
  obtain ⟨h, e6⟩ := st32_zero h
  obtain ⟨h, e7⟩ := st32_zero h
  obtain ⟨h, r8, e8⟩ := st16_zero h
  obtain ⟨h, r9, e9⟩ := st16_zero h
  obtain ⟨h, r10, e10⟩ := st16_zero h
  obtain ⟨h, r11, e11⟩ := st16_zero h
  obtain ⟨h, r12, e12⟩ := st16_zero h
  obtain ⟨h, e13⟩ := st32_zero h
  refine ⟨⟨r12, r11, r10, r9, r8, r4, r3⟩, ?_⟩
  unfold locS
  unfold comS
  try unfold comS at e1
  try unfold comS at e2
  try unfold comS at e3
  try unfold comS at e4
  try unfold comS at e5
  try unfold comS at e6
  try unfold comS at e7
  try unfold comS at e8
  try unfold comS at e9
  try unfold comS at e10
  try unfold comS at e11
  try unfold comS at e12
  try unfold comS at e13
  rw [e1, e2, e3, e4, e5, e6, e7, e8, e9, e10, e11, e12, e13]
theorem loc_all {a0 a1 a2 a3 a4 a5 a6 a7 : Int} {b8 b9 : List Int} (h : In16 a0 ∧ In16 a1 ∧ In16 a2 ∧ In16 a3 ∧ In16 a4 ∧ In16 (b8.length : Int) ∧ In16 (b9.length : Int)) : (locS a0 a1 a2 a3 a4 a5 a6 a7 b8 b9).2 = 0 := by
  obtain ⟨r0, r1, r2, r3, r4, r5, r6⟩ := h
  exact (stPut_ok (stPut_ok (st16_ok (st16_ok (st32_ok (st32_ok (st32_ok (st16_ok (st16_ok (st16_ok (st16_ok (st16_ok (st32_ok (s := ([], 0)) rfl) r0) r1) r2) r3) r4)))) r5) r6)))
theorem loc_len (a0 a1 a2 a3 a4 a5 a6 a7 : Int) (b8 b9 : List Int) (lb8 : b8.length ≤ 100000) (lb9 : b9.length ≤ 100000) : (outOf (locS a0 a1 a2 a3 a4 a5 a6 a7 b8 b9)).length ≤ 1000000 := by
  unfold outOf
  split
  · next z => rw [(loc_zero z).2]; simp only [List.length_append, le_length, List.length_nil]; omega
  · simp
theorem cen_two (a0 a1 a2 a3 a4 a5 a6 a7 a10 a11 a12 a13 a14 : Int) (b8 b9 b15 : List Int) : Two (cenS a0 a1 a2 a3 a4 a5 a6 a7 b8 b9 a10 a11 a12 a13 a14 b15) := Two.zero.w.h.h.h.h.h.h.w.w.w.h.h.h.h.h.w.w.p.p.p
theorem cen_zero {a0 a1 a2 a3 a4 a5 a6 a7 a10 a11 a12 a13 a14 : Int} {b8 b9 b15 : List Int} (h : (cenS a0 a1 a2 a3 a4 a5 a6 a7 b8 b9 a10 a11 a12 a13 a14 b15).2 = 0) : (In16 a10 ∧ In16 a0 ∧ In16 a1 ∧ In16 a2 ∧ In16 a3 ∧ In16 a4 ∧ In16 (b8.length : Int) ∧ In16 (b9.length : Int) ∧ In16 (b15.length : Int) ∧ In16 a11 ∧ In16 a12) ∧ (cenS a0 a1 a2 a3 a4 a5 a6 a7 b8 b9 a10 a11 a12 a13 a14 b15).1 = [] ++ le 33639248 4 ++ le a10 2 ++ le a0 2 ++ le a1 2 ++ le a2 2 ++ le a3 2 ++ le a4 2 ++ le a5 4 ++ le a6 4 ++ le a7 4 ++ le (b8.length : Int) 2 ++ le (b9.length : Int) 2 ++ le (b15.length : Int) 2 ++ le a11 2 ++ le a12 2 ++ le a13 4 ++ le a14 4 ++ b8 ++ b9 ++ b15 := by
  obtain ⟨h, e1⟩ := stPut_zero h
  obtain ⟨h, e2⟩ := stPut_zero h
  obtain ⟨h, e3⟩ := stPut_zero h
  obtain ⟨h, e4⟩ := st32_zero h
  obtain ⟨h, e5⟩ := st32_zero h
  obtain ⟨h, r6, e6⟩ := st16_zero h
  obtain ⟨h, r7, e7⟩ := st16_zero h
  obtain ⟨h, r8, e8⟩ := st16_zero h
  obtain ⟨h, r9, e9⟩ := st16_zero h
  obtain ⟨h, r10, e10⟩ := st16_zero h
  obtain ⟨h, e11⟩ := st32_zero h
  obtain ⟨h, e12⟩ := st32_zero h
  obtain ⟨h, e13⟩ := st32_zero h
  obtain ⟨h, r14, e14⟩ := st16_zero h
  obtain ⟨h, r15, e15⟩ := st16_zero h
  obtain ⟨h, r16, e16⟩ := st16_zero h
  obtain ⟨h, r17, e17⟩ := st16_zero h
  obtain ⟨h, r18, e18⟩ := st16_zero h
  obtain ⟨h, r19, e19⟩ := st16_zero h
  obtain ⟨h, e20⟩ := st32_zero h
  refine ⟨⟨r19, r18, r17, r16, r15, r14, r10, r9, r8, r7, r6⟩, ?_⟩
  unfold cenS
  unfold comS
  try unfold comS at e1
  try unfold comS at e2
  try unfold comS at e3
  try unfold comS at e4
  try unfold comS at e5
  try unfold comS at e6
  try unfold comS at e7
  try unfold comS at e8
  try unfold comS at e9
  try unfold comS at e10
  try unfold comS at e11
  try unfold comS at e12
  try unfold comS at e13
  try unfold comS at e14
  try unfold comS at e15
  try unfold comS at e16
  try unfold comS at e17
  try unfold comS at e18
  try unfold comS at e19
  try unfold comS at e20
  rw [e1, e2, e3, e4, e5, e6, e7, e8, e9, e10, e11, e12, e13, e14, e15, e16, e17, e18, e19, e20]
theorem cen_all {a0 a1 a2 a3 a4 a5 a6 a7 a10 a11 a12 a13 a14 : Int} {b8 b9 b15 : List Int} (h : In16 a10 ∧ In16 a0 ∧ In16 a1 ∧ In16 a2 ∧ In16 a3 ∧ In16 a4 ∧ In16 (b8.length : Int) ∧ In16 (b9.length : Int) ∧ In16 (b15.length : Int) ∧ In16 a11 ∧ In16 a12) : (cenS a0 a1 a2 a3 a4 a5 a6 a7 b8 b9 a10 a11 a12 a13 a14 b15).2 = 0 := by
  obtain ⟨r0, r1, r2, r3, r4, r5, r6, r7, r8, r9, r10⟩ := h
  exact (stPut_ok (stPut_ok (stPut_ok (st32_ok (st32_ok (st16_ok (st16_ok (st16_ok (st16_ok (st16_ok (st32_ok (st32_ok (st32_ok (st16_ok (st16_ok (st16_ok (st16_ok (st16_ok (st16_ok (st32_ok (s := ([], 0)) rfl) r0) r1) r2) r3) r4) r5)))) r6) r7) r8) r9) r10))))))
theorem cen_len (a0 a1 a2 a3 a4 a5 a6 a7 a10 a11 a12 a13 a14 : Int) (b8 b9 b15 : List Int) (lb8 : b8.length ≤ 100000) (lb9 : b9.length ≤ 100000) (lb15 : b15.length ≤ 100000) : (outOf (cenS a0 a1 a2 a3 a4 a5 a6 a7 b8 b9 a10 a11 a12 a13 a14 b15)).length ≤ 1000000 := by
  unfold outOf
  split
  · next z => rw [(cen_zero z).2]; simp only [List.length_append, le_length, List.length_nil]; omega
  · simp
theorem end_two (a0 a1 a2 a3 a4 a5 : Int) (b : List Int) : Two (endS a0 a1 a2 a3 a4 a5 b) := Two.zero.w.h.h.h.h.w.w.h.p
theorem end_zero {a0 a1 a2 a3 a4 a5 : Int} {b : List Int} (h : (endS a0 a1 a2 a3 a4 a5 b).2 = 0) : (In16 a0 ∧ In16 a1 ∧ In16 a2 ∧ In16 a3 ∧ In16 (b.length : Int)) ∧ (endS a0 a1 a2 a3 a4 a5 b).1 = [] ++ le 101010256 4 ++ le a0 2 ++ le a1 2 ++ le a2 2 ++ le a3 2 ++ le a4 4 ++ le a5 4 ++ le (b.length : Int) 2 ++ b := by
  obtain ⟨h, e1⟩ := stPut_zero h
  obtain ⟨h, r2, e2⟩ := st16_zero h
  obtain ⟨h, e3⟩ := st32_zero h
  obtain ⟨h, e4⟩ := st32_zero h
  obtain ⟨h, r5, e5⟩ := st16_zero h
  obtain ⟨h, r6, e6⟩ := st16_zero h
  obtain ⟨h, r7, e7⟩ := st16_zero h
  obtain ⟨h, r8, e8⟩ := st16_zero h
  obtain ⟨h, e9⟩ := st32_zero h
  refine ⟨⟨r8, r7, r6, r5, r2⟩, ?_⟩
  unfold endS
  rw [e1, e2, e3, e4, e5, e6, e7, e8, e9]
theorem end_all {a0 a1 a2 a3 a4 a5 : Int} {b : List Int} (h : In16 a0 ∧ In16 a1 ∧ In16 a2 ∧ In16 a3 ∧ In16 (b.length : Int)) : (endS a0 a1 a2 a3 a4 a5 b).2 = 0 := by
  obtain ⟨r0, r1, r2, r3, r4⟩ := h
  exact (stPut_ok (st16_ok (st32_ok (st32_ok (st16_ok (st16_ok (st16_ok (st16_ok (st32_ok (s := ([], 0)) rfl) r0) r1) r2) r3))) r4))
theorem end_len (a0 a1 a2 a3 a4 a5 : Int) (b : List Int) (lb : b.length ≤ 100000) : (outOf (endS a0 a1 a2 a3 a4 a5 b)).length ≤ 1000000 := by
  unfold outOf
  split
  · next z => rw [(end_zero z).2]; simp only [List.length_append, le_length, List.length_nil]; omega
  · simp
end Go.Proofs.Ytpmiofjhgmdghaa.RecP
