/- record: what is read of what was written. -/
import Derived.Test.YtpmiofjhgmdghaaRecRead4
import Derived.Test.YtpmiofjhgmdghaaRecFew1
import Derived.Test.YtpmiofjhgmdghaaRecP
namespace Go.Proofs.Ytpmiofjhgmdghaa.Fld
open Go.RowKit Go.Proofs.YtpmiofjhgmdghaaW.PrintWords Go.Proofs.YtpmiofjhgmdghaaW.PrintLast Go.Proofs.YtpmiofjhgmdghaaW.PrintMore Go.Proofs.Ytpmiofjhgmdghaa.RecP
set_option linter.unusedVariables false
set_option linter.unusedSimpArgs false
theorem num_le2n (x : Int) (h : In16 x) : num (le x 2) = x := by
  obtain ⟨h0, h1⟩ := h
  have e : le x 2 = [byteAt x 0, byteAt x 1] := rfl
  rw [e]
  show byteAt x 0 + 256 * (byteAt x 1 + 256 * 0) = x
  unfold byteAt
  simp only [Nat.mul_zero, Nat.mul_one, Int.pow_zero, Int.ediv_one, show (2 : Int) ^ 8 = 256 from rfl]
  omega
theorem num_le4n (x : Int) (h : 0 ≤ x ∧ x < 4294967296) : num (le x 4) = x := by
  obtain ⟨h0, h1⟩ := h
  have e : le x 4 = [byteAt x 0, byteAt x 1, byteAt x 2, byteAt x 3] := rfl
  rw [e]
  show byteAt x 0 + 256 * (byteAt x 1 + 256 * (byteAt x 2 + 256 * (byteAt x 3 + 256 * 0))) = x
  unfold byteAt
  simp only [Nat.mul_zero, Nat.mul_one, Int.pow_zero, Int.ediv_one, show (2 : Int) ^ 8 = 256 from rfl, show (2 : Int) ^ (8 * 2) = 65536 from rfl, show (2 : Int) ^ (8 * 3) = 16777216 from rfl]
  omega
/-- what lies ahead of a place -/
structure Fc (b : List Int) (a : Nat) (rest : List Int) : Prop where
  d : b.drop a = rest
  l : a ≤ b.length
theorem Fc.piece {b : List Int} {a : Nat} {c rest : List Int} (h : Fc b a (c ++ rest)) : rA b (a, 0) (c.length : Int) = (a + c.length, 0) ∧ rL b (a, 0) (c.length : Int) = c ∧ Fc b (a + c.length) rest := by
  have hl : b.length - a = c.length + rest.length := by
    have := congrArg List.length h.d
    rw [List.length_drop, List.length_append] at this
    exact this
  have hle := h.l
  have hc : (0 : Int) = 0 ∧ (0 : Int) ≤ (c.length : Int) ∧ (c.length : Int) ≤ ((b.length - a : Nat) : Int) := ⟨rfl, by omega, by omega⟩
  refine ⟨?_, ?_, ?_, ?_⟩
  · show (tkA b a 0 (c.length : Int), tkE b a 0 (c.length : Int)) = _
    have e1 : tkA b a 0 (c.length : Int) = a + c.length := by unfold tkA; rw [if_pos hc, Int.toNat_natCast]
    have e2 : tkE b a 0 (c.length : Int) = 0 := by unfold tkE; rw [if_neg (by simp), if_neg (by omega), if_neg (by omega)]
    rw [e1, e2]
  · show tkL b a 0 (c.length : Int) = c
    unfold tkL
    rw [if_pos hc, Int.toNat_natCast, h.d, List.take_left]
  · rw [← List.drop_drop, h.d, List.drop_left]
  · omega
theorem Fc.n2 {b : List Int} {a : Nat} {x : Int} {rest : List Int} (h : Fc b a (le x 2 ++ rest)) (hx : In16 x) : rA b (a, 0) 2 = (a + 2, 0) ∧ rV b (a, 0) 2 = x ∧ Fc b (a + 2) rest := by
  obtain ⟨h1, h2, h3⟩ := h.piece
  rw [le_length] at h1 h2 h3
  refine ⟨h1, ?_, h3⟩
  show num (rL b (a, 0) ((2 : Nat) : Int)) = x
  rw [h2, num_le2n x hx]
theorem Fc.n4 {b : List Int} {a : Nat} {x : Int} {rest : List Int} (h : Fc b a (le x 4 ++ rest)) (hx : 0 ≤ x ∧ x < 4294967296) : rA b (a, 0) 4 = (a + 4, 0) ∧ rV b (a, 0) 4 = x ∧ Fc b (a + 4) rest := by
  obtain ⟨h1, h2, h3⟩ := h.piece
  rw [le_length] at h1 h2 h3
  refine ⟨h1, ?_, h3⟩
  show num (rL b (a, 0) ((4 : Nat) : Int)) = x
  rw [h2, num_le4n x hx]
def Byte (l : List Int) : Prop := ∀ x ∈ l, 0 ≤ x ∧ x ≤ 255
theorem Byte.app {l k : List Int} (h : Byte l) (h' : Byte k) : Byte (l ++ k) := fun x hx => (List.mem_append.mp hx).elim (h x) (h' x)
theorem Byte.le (x : Int) (n : Nat) : Byte (Fld.le x n) := le_bytes x n
set_option maxHeartbeats 4000000 in
theorem loc_back (a0 a1 a2 a3 a4 a5 a6 a7 : Int) (b8 b9 bh : List Int) (wa5 : 0 ≤ a5 ∧ a5 < 4294967296) (wa6 : 0 ≤ a6 ∧ a6 < 4294967296) (wa7 : 0 ≤ a7 ∧ a7 < 4294967296) (yb8 : Byte b8) (yb9 : Byte b9) (ybh : Byte bh) (hE : (locS a0 a1 a2 a3 a4 a5 a6 a7 b8 b9).2 = 0) (W : World) (B g : Nat) (v : Value) (h : CS W B g v ((locS a0 a1 a2 a3 a4 a5 a6 a7 b8 b9).1 ++ bh) (0, 0)) :
    Calls Try.prog 23 #[.pointer (some ⟨g, 0, none⟩)] W (fun r w' => ∃ A1 c1 A2 c2, RPost1 W B g v ((locS a0 a1 a2 a3 a4 a5 a6 a7 b8 b9).1 ++ bh) (30 + b8.length + b9.length, 0) #[.int .i64 a0, .int .i64 a1, .int .i64 a2, .int .i64 a3, .int .i64 a4, .int .u32 a5, .int .u32 a6, .int .u32 a7, .slice A1 b8.length c1, .slice A2 b9.length c2] 0 r w' ∧ Rd w' A1 b8 c1 ∧ Rd w' A2 b9 c2) := by
  obtain ⟨hin, hq⟩ := Go.Proofs.Ytpmiofjhgmdghaa.RecP.loc_zero hE
  rw [hq] at h ⊢
  clear hq hE
  obtain ⟨i0, i1, i2, i3, i4, i5, i6⟩ := hin
  obtain ⟨b, hb⟩ : ∃ b, ([] ++ le 67324752 4 ++ le a0 2 ++ le a1 2 ++ le a2 2 ++ le a3 2 ++ le a4 2 ++ le a5 4 ++ le a6 4 ++ le a7 4 ++ le (b8.length : Int) 2 ++ le (b9.length : Int) 2 ++ b8 ++ b9) ++ bh = b := ⟨_, rfl⟩
  rw [hb] at h ⊢
  have hbb : ∀ x ∈ b, 0 ≤ x ∧ x ≤ 255 := hb ▸ ((((((((((((((show Byte [] from (fun x hx => absurd hx (List.not_mem_nil))).app (Byte.le 67324752 4)).app (Byte.le a0 2)).app (Byte.le a1 2)).app (Byte.le a2 2)).app (Byte.le a3 2)).app (Byte.le a4 2)).app (Byte.le a5 4)).app (Byte.le a6 4)).app (Byte.le a7 4)).app (Byte.le (b8.length : Int) 2)).app (Byte.le (b9.length : Int) 2)).app (yb8)).app (yb9)).app ybh
  have f0 : Fc b 0 (le 67324752 4 ++ (le a0 2 ++ (le a1 2 ++ (le a2 2 ++ (le a3 2 ++ (le a4 2 ++ (le a5 4 ++ (le a6 4 ++ (le a7 4 ++ (le (b8.length : Int) 2 ++ (le (b9.length : Int) 2 ++ (b8 ++ (b9 ++ bh))))))))))))) := ⟨by rw [List.drop_zero, ← hb]; simp only [List.nil_append, List.append_assoc], Nat.zero_le _⟩
  clear hb
  obtain ⟨p1, q1, f1⟩ := f0.n4 (by decide)
  replace p1 : rA b (0, 0) 4 = (4, 0) := p1
  replace q1 : rV b (0, 0) 4 = 67324752 := q1
  obtain ⟨p2, q2, f2⟩ := f1.n2 i0
  replace p2 : rA b (4, 0) 2 = (6, 0) := p2
  replace q2 : rV b (4, 0) 2 = a0 := q2
  obtain ⟨p3, q3, f3⟩ := f2.n2 i1
  replace p3 : rA b (6, 0) 2 = (8, 0) := p3
  replace q3 : rV b (6, 0) 2 = a1 := q3
  obtain ⟨p4, q4, f4⟩ := f3.n2 i2
  replace p4 : rA b (8, 0) 2 = (10, 0) := p4
  replace q4 : rV b (8, 0) 2 = a2 := q4
  obtain ⟨p5, q5, f5⟩ := f4.n2 i3
  replace p5 : rA b (10, 0) 2 = (12, 0) := p5
  replace q5 : rV b (10, 0) 2 = a3 := q5
  obtain ⟨p6, q6, f6⟩ := f5.n2 i4
  replace p6 : rA b (12, 0) 2 = (14, 0) := p6
  replace q6 : rV b (12, 0) 2 = a4 := q6
  obtain ⟨p7, q7, f7⟩ := f6.n4 wa5
  replace p7 : rA b (14, 0) 4 = (18, 0) := p7
  replace q7 : rV b (14, 0) 4 = a5 := q7
  obtain ⟨p8, q8, f8⟩ := f7.n4 wa6
  replace p8 : rA b (18, 0) 4 = (22, 0) := p8
  replace q8 : rV b (18, 0) 4 = a6 := q8
  obtain ⟨p9, q9, f9⟩ := f8.n4 wa7
  replace p9 : rA b (22, 0) 4 = (26, 0) := p9
  replace q9 : rV b (22, 0) 4 = a7 := q9
  obtain ⟨p10, q10, f10⟩ := f9.n2 i5
  replace p10 : rA b (26, 0) 2 = (28, 0) := p10
  replace q10 : rV b (26, 0) 2 = (b8.length : Int) := q10
  obtain ⟨p11, q11, f11⟩ := f10.n2 i6
  replace p11 : rA b (28, 0) 2 = (30, 0) := p11
  replace q11 : rV b (28, 0) 2 = (b9.length : Int) := q11
  obtain ⟨p12, q12, f12⟩ := f11.piece
  replace p12 : rA b (30, 0) (b8.length : Int) = (30 + b8.length, 0) := p12
  replace q12 : rL b (30, 0) (b8.length : Int) = b8 := q12
  obtain ⟨p13, q13, f13⟩ := f12.piece
  replace p13 : rA b (30 + b8.length, 0) (b9.length : Int) = (30 + b8.length + b9.length, 0) := p13
  replace q13 : rL b (30 + b8.length, 0) (b9.length : Int) = b9 := q13
  have hE : sgE b (0, 0) 67324752 = 0 := by
    unfold sgE
    rw [p1, q1, if_neg (by simp), if_neg (by simp)]
  have hd : ∀ W, CS W B g v b (4, 0) → Calls Try.prog 53 #[.pointer (some ⟨g, 0, none⟩)] W (SPost W B g v b (30, 0) (.tuple #[.agg #[.int .i64 a0, .int .i64 a1, .int .i64 a2, .int .i64 a3, .int .i64 a4, .int .u32 a5, .int .u32 a6, .int .u32 a7, .slice none 0 0, .slice none 0 0], .agg #[.int .i64 (b8.length : Int), .int .i64 (b9.length : Int), .int .i64 0]])) := by
    intro W hW
    have h9 := rec_head W B g v b (4, 0) hW hbb
    simp only [p2, q2, p3, q3, p4, q4, p5, q5, p6, q6, p7, q7, p8, q8, p9, q9, p10, q10, p11, q11] at h9
    exact h9
  refine (rec_readLocal_ok W B g v b (0, 0) h hbb hE (4, 0) (30, 0) _ _ p1 a0 a1 a2 a3 a4 a5 a6 a7 _ _ hd b8 b9 q12 p12 q13 p13 rfl).mono ?_
  rintro r w' ⟨A1, c1, A2, c2, h1, h2, h3, h4, h5⟩
  exact ⟨A1, c1, A2, c2, h1, ⟨h2, h3⟩, ⟨h4, h5⟩⟩
set_option maxHeartbeats 4000000 in
theorem cen_back (a0 a1 a2 a3 a4 a5 a6 a7 a10 a11 a12 a13 a14 : Int) (b8 b9 b15 bh : List Int) (wa5 : 0 ≤ a5 ∧ a5 < 4294967296) (wa6 : 0 ≤ a6 ∧ a6 < 4294967296) (wa7 : 0 ≤ a7 ∧ a7 < 4294967296) (wa13 : 0 ≤ a13 ∧ a13 < 4294967296) (wa14 : 0 ≤ a14 ∧ a14 < 4294967296) (yb8 : Byte b8) (yb9 : Byte b9) (yb15 : Byte b15) (ybh : Byte bh) (hE : (cenS a0 a1 a2 a3 a4 a5 a6 a7 b8 b9 a10 a11 a12 a13 a14 b15).2 = 0) (W : World) (B g : Nat) (v : Value) (h : CS W B g v ((cenS a0 a1 a2 a3 a4 a5 a6 a7 b8 b9 a10 a11 a12 a13 a14 b15).1 ++ bh) (0, 0)) :
    Calls Try.prog 24 #[.pointer (some ⟨g, 0, none⟩)] W (fun r w' => ∃ A1 c1 A2 c2 A3 c3, RPost1 W B g v ((cenS a0 a1 a2 a3 a4 a5 a6 a7 b8 b9 a10 a11 a12 a13 a14 b15).1 ++ bh) (46 + b8.length + b9.length + b15.length, 0) #[.int .i64 a0, .int .i64 a1, .int .i64 a2, .int .i64 a3, .int .i64 a4, .int .u32 a5, .int .u32 a6, .int .u32 a7, .slice A1 b8.length c1, .slice A2 b9.length c2, .int .i64 a10, .int .i64 a11, .int .i64 a12, .int .u32 a13, .int .u32 a14, .slice A3 b15.length c3] 0 r w' ∧ Rd w' A1 b8 c1 ∧ Rd w' A2 b9 c2 ∧ Rd w' A3 b15 c3) := by
  obtain ⟨hin, hq⟩ := Go.Proofs.Ytpmiofjhgmdghaa.RecP.cen_zero hE
  rw [hq] at h ⊢
  clear hq hE
  obtain ⟨i0, i1, i2, i3, i4, i5, i6, i7, i8, i9, i10⟩ := hin
  obtain ⟨b, hb⟩ : ∃ b, ([] ++ le 33639248 4 ++ le a10 2 ++ le a0 2 ++ le a1 2 ++ le a2 2 ++ le a3 2 ++ le a4 2 ++ le a5 4 ++ le a6 4 ++ le a7 4 ++ le (b8.length : Int) 2 ++ le (b9.length : Int) 2 ++ le (b15.length : Int) 2 ++ le a11 2 ++ le a12 2 ++ le a13 4 ++ le a14 4 ++ b8 ++ b9 ++ b15) ++ bh = b := ⟨_, rfl⟩
  rw [hb] at h ⊢
  have hbb : ∀ x ∈ b, 0 ≤ x ∧ x ≤ 255 := hb ▸ (((((((((((((((((((((show Byte [] from (fun x hx => absurd hx (List.not_mem_nil))).app (Byte.le 33639248 4)).app (Byte.le a10 2)).app (Byte.le a0 2)).app (Byte.le a1 2)).app (Byte.le a2 2)).app (Byte.le a3 2)).app (Byte.le a4 2)).app (Byte.le a5 4)).app (Byte.le a6 4)).app (Byte.le a7 4)).app (Byte.le (b8.length : Int) 2)).app (Byte.le (b9.length : Int) 2)).app (Byte.le (b15.length : Int) 2)).app (Byte.le a11 2)).app (Byte.le a12 2)).app (Byte.le a13 4)).app (Byte.le a14 4)).app (yb8)).app (yb9)).app (yb15)).app ybh
  have f0 : Fc b 0 (le 33639248 4 ++ (le a10 2 ++ (le a0 2 ++ (le a1 2 ++ (le a2 2 ++ (le a3 2 ++ (le a4 2 ++ (le a5 4 ++ (le a6 4 ++ (le a7 4 ++ (le (b8.length : Int) 2 ++ (le (b9.length : Int) 2 ++ (le (b15.length : Int) 2 ++ (le a11 2 ++ (le a12 2 ++ (le a13 4 ++ (le a14 4 ++ (b8 ++ (b9 ++ (b15 ++ bh)))))))))))))))))))) := ⟨by rw [List.drop_zero, ← hb]; simp only [List.nil_append, List.append_assoc], Nat.zero_le _⟩
  clear hb
  obtain ⟨p1, q1, f1⟩ := f0.n4 (by decide)
  replace p1 : rA b (0, 0) 4 = (4, 0) := p1
  replace q1 : rV b (0, 0) 4 = 33639248 := q1
  obtain ⟨p2, q2, f2⟩ := f1.n2 i0
  replace p2 : rA b (4, 0) 2 = (6, 0) := p2
  replace q2 : rV b (4, 0) 2 = a10 := q2
  obtain ⟨p3, q3, f3⟩ := f2.n2 i1
  replace p3 : rA b (6, 0) 2 = (8, 0) := p3
  replace q3 : rV b (6, 0) 2 = a0 := q3
  obtain ⟨p4, q4, f4⟩ := f3.n2 i2
  replace p4 : rA b (8, 0) 2 = (10, 0) := p4
  replace q4 : rV b (8, 0) 2 = a1 := q4
  obtain ⟨p5, q5, f5⟩ := f4.n2 i3
  replace p5 : rA b (10, 0) 2 = (12, 0) := p5
  replace q5 : rV b (10, 0) 2 = a2 := q5
  obtain ⟨p6, q6, f6⟩ := f5.n2 i4
  replace p6 : rA b (12, 0) 2 = (14, 0) := p6
  replace q6 : rV b (12, 0) 2 = a3 := q6
  obtain ⟨p7, q7, f7⟩ := f6.n2 i5
  replace p7 : rA b (14, 0) 2 = (16, 0) := p7
  replace q7 : rV b (14, 0) 2 = a4 := q7
  obtain ⟨p8, q8, f8⟩ := f7.n4 wa5
  replace p8 : rA b (16, 0) 4 = (20, 0) := p8
  replace q8 : rV b (16, 0) 4 = a5 := q8
  obtain ⟨p9, q9, f9⟩ := f8.n4 wa6
  replace p9 : rA b (20, 0) 4 = (24, 0) := p9
  replace q9 : rV b (20, 0) 4 = a6 := q9
  obtain ⟨p10, q10, f10⟩ := f9.n4 wa7
  replace p10 : rA b (24, 0) 4 = (28, 0) := p10
  replace q10 : rV b (24, 0) 4 = a7 := q10
  obtain ⟨p11, q11, f11⟩ := f10.n2 i6
  replace p11 : rA b (28, 0) 2 = (30, 0) := p11
  replace q11 : rV b (28, 0) 2 = (b8.length : Int) := q11
  obtain ⟨p12, q12, f12⟩ := f11.n2 i7
  replace p12 : rA b (30, 0) 2 = (32, 0) := p12
  replace q12 : rV b (30, 0) 2 = (b9.length : Int) := q12
  obtain ⟨p13, q13, f13⟩ := f12.n2 i8
  replace p13 : rA b (32, 0) 2 = (34, 0) := p13
  replace q13 : rV b (32, 0) 2 = (b15.length : Int) := q13
  obtain ⟨p14, q14, f14⟩ := f13.n2 i9
  replace p14 : rA b (34, 0) 2 = (36, 0) := p14
  replace q14 : rV b (34, 0) 2 = a11 := q14
  obtain ⟨p15, q15, f15⟩ := f14.n2 i10
  replace p15 : rA b (36, 0) 2 = (38, 0) := p15
  replace q15 : rV b (36, 0) 2 = a12 := q15
  obtain ⟨p16, q16, f16⟩ := f15.n4 wa13
  replace p16 : rA b (38, 0) 4 = (42, 0) := p16
  replace q16 : rV b (38, 0) 4 = a13 := q16
  obtain ⟨p17, q17, f17⟩ := f16.n4 wa14
  replace p17 : rA b (42, 0) 4 = (46, 0) := p17
  replace q17 : rV b (42, 0) 4 = a14 := q17
  obtain ⟨p18, q18, f18⟩ := f17.piece
  replace p18 : rA b (46, 0) (b8.length : Int) = (46 + b8.length, 0) := p18
  replace q18 : rL b (46, 0) (b8.length : Int) = b8 := q18
  obtain ⟨p19, q19, f19⟩ := f18.piece
  replace p19 : rA b (46 + b8.length, 0) (b9.length : Int) = (46 + b8.length + b9.length, 0) := p19
  replace q19 : rL b (46 + b8.length, 0) (b9.length : Int) = b9 := q19
  obtain ⟨p20, q20, f20⟩ := f19.piece
  replace p20 : rA b (46 + b8.length + b9.length, 0) (b15.length : Int) = (46 + b8.length + b9.length + b15.length, 0) := p20
  replace q20 : rL b (46 + b8.length + b9.length, 0) (b15.length : Int) = b15 := q20
  have hE : sgE b (0, 0) 33639248 = 0 := by
    unfold sgE
    rw [p1, q1, if_neg (by simp), if_neg (by simp)]
  have hd : ∀ W, CS W B g v b (6, 0) → Calls Try.prog 53 #[.pointer (some ⟨g, 0, none⟩)] W (SPost W B g v b (32, 0) (.tuple #[.agg #[.int .i64 a0, .int .i64 a1, .int .i64 a2, .int .i64 a3, .int .i64 a4, .int .u32 a5, .int .u32 a6, .int .u32 a7, .slice none 0 0, .slice none 0 0], .agg #[.int .i64 (b8.length : Int), .int .i64 (b9.length : Int), .int .i64 0]])) := by
    intro W hW
    have h9 := rec_head W B g v b (6, 0) hW hbb
    simp only [p3, q3, p4, q4, p5, q5, p6, q6, p7, q7, p8, q8, p9, q9, p10, q10, p11, q11, p12, q12] at h9
    exact h9
  refine (rec_readCentral_ok W B g v b (0, 0) h hbb hE (4, 0) (6, 0) (32, 0) (34, 0) (36, 0) (38, 0) (42, 0) (46, 0) _ _ _ p1 a10 a0 a1 a2 a3 a4 a5 a6 a7 _ _ (b15.length : Int) a11 a12 a13 a14 p2 q2 hd p13 q13 p14 q14 p15 q15 p16 q16 p17 q17 b8 b9 b15 q18 p18 q19 p19 q20 p20 rfl).mono ?_
  rintro r w' ⟨A1, c1, A2, c2, A3, c3, h1, h2, h3, h4, h5, h6, h7⟩
  exact ⟨A1, c1, A2, c2, A3, c3, h1, ⟨h2, h3⟩, ⟨h4, h5⟩, ⟨h6, h7⟩⟩
set_option maxHeartbeats 4000000 in
theorem end_back (a0 a1 a2 a3 a4 a5 : Int) (t bh : List Int) (wa4 : 0 ≤ a4 ∧ a4 < 4294967296) (wa5 : 0 ≤ a5 ∧ a5 < 4294967296) (yt : Byte t) (ybh : Byte bh) (hE : (endS a0 a1 a2 a3 a4 a5 t).2 = 0) (W : World) (B g : Nat) (v : Value) (h : CS W B g v ((endS a0 a1 a2 a3 a4 a5 t).1 ++ bh) (0, 0)) :
    Calls Try.prog 25 #[.pointer (some ⟨g, 0, none⟩)] W (fun r w' => ∃ A1 c1, RPost1 W B g v ((endS a0 a1 a2 a3 a4 a5 t).1 ++ bh) (22 + t.length, 0) #[.int .i64 a0, .int .i64 a1, .int .i64 a2, .int .i64 a3, .int .u32 a4, .int .u32 a5, .slice A1 t.length c1] 0 r w' ∧ Rd w' A1 t c1) := by
  obtain ⟨hin, hq⟩ := Go.Proofs.Ytpmiofjhgmdghaa.RecP.end_zero hE
  rw [hq] at h ⊢
  clear hq hE
  obtain ⟨i0, i1, i2, i3, i4⟩ := hin
  obtain ⟨b, hb⟩ : ∃ b, ([] ++ le 101010256 4 ++ le a0 2 ++ le a1 2 ++ le a2 2 ++ le a3 2 ++ le a4 4 ++ le a5 4 ++ le (t.length : Int) 2 ++ t) ++ bh = b := ⟨_, rfl⟩
  rw [hb] at h ⊢
  have hbb : ∀ x ∈ b, 0 ≤ x ∧ x ≤ 255 := hb ▸ ((((((((((show Byte [] from (fun x hx => absurd hx (List.not_mem_nil))).app (Byte.le 101010256 4)).app (Byte.le a0 2)).app (Byte.le a1 2)).app (Byte.le a2 2)).app (Byte.le a3 2)).app (Byte.le a4 4)).app (Byte.le a5 4)).app (Byte.le (t.length : Int) 2)).app (yt)).app ybh
  have f0 : Fc b 0 (le 101010256 4 ++ (le a0 2 ++ (le a1 2 ++ (le a2 2 ++ (le a3 2 ++ (le a4 4 ++ (le a5 4 ++ (le (t.length : Int) 2 ++ (t ++ bh))))))))) := ⟨by rw [List.drop_zero, ← hb]; simp only [List.nil_append, List.append_assoc], Nat.zero_le _⟩
  clear hb
  obtain ⟨p1, q1, f1⟩ := f0.n4 (by decide)
  replace p1 : rA b (0, 0) 4 = (4, 0) := p1
  replace q1 : rV b (0, 0) 4 = 101010256 := q1
  obtain ⟨p2, q2, f2⟩ := f1.n2 i0
  replace p2 : rA b (4, 0) 2 = (6, 0) := p2
  replace q2 : rV b (4, 0) 2 = a0 := q2
  obtain ⟨p3, q3, f3⟩ := f2.n2 i1
  replace p3 : rA b (6, 0) 2 = (8, 0) := p3
  replace q3 : rV b (6, 0) 2 = a1 := q3
  obtain ⟨p4, q4, f4⟩ := f3.n2 i2
  replace p4 : rA b (8, 0) 2 = (10, 0) := p4
  replace q4 : rV b (8, 0) 2 = a2 := q4
  obtain ⟨p5, q5, f5⟩ := f4.n2 i3
  replace p5 : rA b (10, 0) 2 = (12, 0) := p5
  replace q5 : rV b (10, 0) 2 = a3 := q5
  obtain ⟨p6, q6, f6⟩ := f5.n4 wa4
  replace p6 : rA b (12, 0) 4 = (16, 0) := p6
  replace q6 : rV b (12, 0) 4 = a4 := q6
  obtain ⟨p7, q7, f7⟩ := f6.n4 wa5
  replace p7 : rA b (16, 0) 4 = (20, 0) := p7
  replace q7 : rV b (16, 0) 4 = a5 := q7
  obtain ⟨p8, q8, f8⟩ := f7.n2 i4
  replace p8 : rA b (20, 0) 2 = (22, 0) := p8
  replace q8 : rV b (20, 0) 2 = (t.length : Int) := q8
  obtain ⟨p9, q9, f9⟩ := f8.piece
  replace p9 : rA b (22, 0) (t.length : Int) = (22 + t.length, 0) := p9
  replace q9 : rL b (22, 0) (t.length : Int) = t := q9
  have hE : sgE b (0, 0) 101010256 = 0 := by
    unfold sgE
    rw [p1, q1, if_neg (by simp), if_neg (by simp)]
  have h9 := rec_readEnd_ok W B g v b (0, 0) h hbb hE
  simp only [p1, q1, p2, q2, p3, q3, p4, q4, p5, q5, p6, q6, p7, q7, p8, q8, p9, q9] at h9
  refine (h9 trivial).mono ?_
  rintro r w' ⟨A1, c1, h1, h2, h3⟩
  exact ⟨A1, c1, h1, ⟨h2, h3⟩⟩
end Go.Proofs.Ytpmiofjhgmdghaa.Fld
