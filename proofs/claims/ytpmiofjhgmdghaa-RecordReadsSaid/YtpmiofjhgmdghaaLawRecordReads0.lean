/- The law RecordReads, walked. -/
import Derived.Test.YtpmiofjhgmdghaaRecRead4
import Derived.Test.YtpmiofjhgmdghaaRecRef3
import Derived.Test.YtpmiofjhgmdghaaRecSame0
import Derived.Deep.RegionHeld3
namespace Go.Proofs.Ytpmiofjhgmdghaa.Fld
open Go.RowKit Go.Proofs.YtpmiofjhgmdghaaW.PrintWords Go.Proofs.YtpmiofjhgmdghaaW.PrintLast Go.Proofs.YtpmiofjhgmdghaaW.PrintMore
set_option linter.unusedVariables false
set_option linter.unusedSimpArgs false
theorem Rd_nil (w : World) : Rd w none [] 0 := ⟨Kd.C_nil _ _, Nat.le_refl _⟩
theorem locBoth (b : List Int) (hb : ∀ x ∈ b, 0 ≤ x ∧ x ≤ 255) (s : Sta) : ∃ (y0 y1 y2 y3 y4 y5 y6 y7 : Int) (D1 D2 : List Int) (e : Int) (s' : Sta), (D1.length ≤ b.length ∧ D2.length ≤ b.length) ∧
    (∀ (W : World) (B g : Nat) (v : Value), CS W B g v b s → Calls Try.prog 23 #[.pointer (some ⟨g, 0, none⟩)] W (fun r w' => ∃ A1 c1 A2 c2, RPost1 W B g v b s' #[.int .i64 y0, .int .i64 y1, .int .i64 y2, .int .i64 y3, .int .i64 y4, .int .u32 y5, .int .u32 y6, .int .u32 y7, .slice A1 D1.length c1, .slice A2 D2.length c2] e r w' ∧ Rd w' A1 D1 c1 ∧ Rd w' A2 D2 c2)) ∧
    (∀ (w0 W : World) (g : Nat) (A : Option Addr) (c : Nat), RS0 w0 W g A c b s → Calls Try.prog 33 #[.pointer (some ⟨g, 0, none⟩)] W (fun r w' => ∃ A1 c1 A2 c2, RfPost w0 W g A c b s' #[.int .i64 y0, .int .i64 y1, .int .i64 y2, .int .i64 y3, .int .i64 y4, .int .u32 y5, .int .u32 y6, .int .u32 y7, .slice A1 D1.length c1, .slice A2 D2.length c2] e r w' ∧ Rd w' A1 D1 c1 ∧ Rd w' A2 D2 c2)) := by
  by_cases hE : sgE b s 67324752 = 0
  · obtain ⟨q0, h0⟩ : ∃ q, rA b s 4 = q := ⟨_, rfl⟩
    obtain ⟨q1, e1⟩ : ∃ q, rA b q0 2 = q := ⟨_, rfl⟩
    obtain ⟨x1, v1⟩ : ∃ q, rV b q0 2 = q := ⟨_, rfl⟩
    obtain ⟨q2, e2⟩ : ∃ q, rA b q1 2 = q := ⟨_, rfl⟩
    obtain ⟨x2, v2⟩ : ∃ q, rV b q1 2 = q := ⟨_, rfl⟩
    obtain ⟨q3, e3⟩ : ∃ q, rA b q2 2 = q := ⟨_, rfl⟩
    obtain ⟨x3, v3⟩ : ∃ q, rV b q2 2 = q := ⟨_, rfl⟩
    obtain ⟨q4, e4⟩ : ∃ q, rA b q3 2 = q := ⟨_, rfl⟩
    obtain ⟨x4, v4⟩ : ∃ q, rV b q3 2 = q := ⟨_, rfl⟩
    obtain ⟨q5, e5⟩ : ∃ q, rA b q4 2 = q := ⟨_, rfl⟩
    obtain ⟨x5, v5⟩ : ∃ q, rV b q4 2 = q := ⟨_, rfl⟩
    obtain ⟨q6, e6⟩ : ∃ q, rA b q5 4 = q := ⟨_, rfl⟩
    obtain ⟨x6, v6⟩ : ∃ q, rV b q5 4 = q := ⟨_, rfl⟩
    obtain ⟨q7, e7⟩ : ∃ q, rA b q6 4 = q := ⟨_, rfl⟩
    obtain ⟨x7, v7⟩ : ∃ q, rV b q6 4 = q := ⟨_, rfl⟩
    obtain ⟨q8, e8⟩ : ∃ q, rA b q7 4 = q := ⟨_, rfl⟩
    obtain ⟨x8, v8⟩ : ∃ q, rV b q7 4 = q := ⟨_, rfl⟩
    obtain ⟨q9, e9⟩ : ∃ q, rA b q8 2 = q := ⟨_, rfl⟩
    obtain ⟨x9, v9⟩ : ∃ q, rV b q8 2 = q := ⟨_, rfl⟩
    obtain ⟨q10, e10⟩ : ∃ q, rA b q9 2 = q := ⟨_, rfl⟩
    obtain ⟨x10, v10⟩ : ∃ q, rV b q9 2 = q := ⟨_, rfl⟩
    obtain ⟨t1, j1⟩ : ∃ q, rA b q10 x9 = q := ⟨_, rfl⟩
    obtain ⟨D1, k1⟩ : ∃ q, rL b q10 x9 = q := ⟨_, rfl⟩
    have lD1 : D1.length ≤ b.length := k1 ▸ rL_len
    obtain ⟨t2, j2⟩ : ∃ q, rA b t1 x10 = q := ⟨_, rfl⟩
    obtain ⟨D2, k2⟩ : ∃ q, rL b t1 x10 = q := ⟨_, rfl⟩
    have lD2 : D2.length ≤ b.length := k2 ▸ rL_len
    by_cases h5 : t2.2 = 0
    · refine ⟨x1, x2, x3, x4, x5, x6, x7, x8, D1, D2, 0, t2, ⟨lD1, lD2⟩, fun W B g v h => ?_, fun w0 W g A c h => ?_⟩
      · have hd : ∀ W, CS W B g v b q0 → Calls Try.prog 53 #[.pointer (some ⟨g, 0, none⟩)] W (SPost W B g v b q10 (.tuple #[.agg #[.int .i64 x1, .int .i64 x2, .int .i64 x3, .int .i64 x4, .int .i64 x5, .int .u32 x6, .int .u32 x7, .int .u32 x8, .slice none 0 0, .slice none 0 0], .agg #[.int .i64 x9, .int .i64 x10, .int .i64 0]])) := by
          intro W hW
          have h9 := rec_head W B g v b q0 hW hb
          simp only [e1, v1, e2, v2, e3, v3, e4, v4, e5, v5, e6, v6, e7, v7, e8, v8, e9, v9, e10, v10] at h9
          exact h9
        refine (rec_readLocal_ok W B g v b s h hb hE q0 q10 t1 t2 h0 x1 x2 x3 x4 x5 x6 x7 x8 x9 x10 hd D1 D2 k1 j1 k2 j2 h5).mono ?_
        rintro r w' ⟨A1, c1, A2, c2, h1, h2, h3, h4, h6⟩
        exact ⟨A1, c1, A2, c2, h1, ⟨h2, h3⟩, ⟨h4, h6⟩⟩
      · refine (ref_readLocal_ok w0 W g A c b s h hb hE q0 q1 q2 q3 q4 q5 q6 q7 q8 q9 q10 t1 t2 x1 x2 x3 x4 x5 x6 x7 x8 x9 x10 h0 e1 v1 e2 v2 e3 v3 e4 v4 e5 v5 e6 v6 e7 v7 e8 v8 e9 v9 e10 v10 D1 D2 k1 j1 k2 j2 h5).mono ?_
        rintro r w' ⟨A1, c1, A2, c2, h1, o1, o2⟩
        exact ⟨A1, c1, A2, c2, h1, Rd.own o1, Rd.own o2⟩
    · refine ⟨0, 0, 0, 0, 0, 0, 0, 0, [], [], t2.2, t2, ⟨Nat.zero_le _, Nat.zero_le _⟩, fun W B g v h => ?_, fun w0 W g A c h => ?_⟩
      · have hd : ∀ W, CS W B g v b q0 → Calls Try.prog 53 #[.pointer (some ⟨g, 0, none⟩)] W (SPost W B g v b q10 (.tuple #[.agg #[.int .i64 x1, .int .i64 x2, .int .i64 x3, .int .i64 x4, .int .i64 x5, .int .u32 x6, .int .u32 x7, .int .u32 x8, .slice none 0 0, .slice none 0 0], .agg #[.int .i64 x9, .int .i64 x10, .int .i64 0]])) := by
          intro W hW
          have h9 := rec_head W B g v b q0 hW hb
          simp only [e1, v1, e2, v2, e3, v3, e4, v4, e5, v5, e6, v6, e7, v7, e8, v8, e9, v9, e10, v10] at h9
          exact h9
        refine (rec_readLocal_err W B g v b s h hb hE q0 q10 t1 t2 h0 x1 x2 x3 x4 x5 x6 x7 x8 x9 x10 hd D1 D2 k1 j1 k2 j2 _ rfl h5).mono ?_
        rintro r w' h1
        exact ⟨none, 0, none, 0, h1, Rd_nil _, Rd_nil _⟩
      · refine (ref_readLocal_err w0 W g A c b s h hb hE q0 q1 q2 q3 q4 q5 q6 q7 q8 q9 q10 t1 t2 x1 x2 x3 x4 x5 x6 x7 x8 x9 x10 h0 e1 v1 e2 v2 e3 v3 e4 v4 e5 v5 e6 v6 e7 v7 e8 v8 e9 v9 e10 v10 D1 D2 k1 j1 k2 j2 _ rfl h5).mono ?_
        rintro r w' h1
        exact ⟨none, 0, none, 0, h1, Rd_nil _, Rd_nil _⟩
  · refine ⟨0, 0, 0, 0, 0, 0, 0, 0, [], [], sgE b s 67324752, rA b s 4, ⟨Nat.zero_le _, Nat.zero_le _⟩, fun W B g v h => ?_, fun w0 W g A c h => ?_⟩
    · refine (rec_readLocal_sign W B g v b s h hb _ rfl hE).mono ?_
      rintro r w' h1
      exact ⟨none, 0, none, 0, h1, Rd_nil _, Rd_nil _⟩
    · refine (ref_readLocal_sign w0 W g A c b s h hb _ rfl hE).mono ?_
      rintro r w' h1
      exact ⟨none, 0, none, 0, h1, Rd_nil _, Rd_nil _⟩
theorem endBoth (b : List Int) (hb : ∀ x ∈ b, 0 ≤ x ∧ x ≤ 255) (s : Sta) : ∃ (y0 y1 y2 y3 y4 y5 : Int) (D1 : List Int) (e : Int) (s' : Sta), (D1.length ≤ b.length) ∧
    (∀ (W : World) (B g : Nat) (v : Value), CS W B g v b s → Calls Try.prog 25 #[.pointer (some ⟨g, 0, none⟩)] W (fun r w' => ∃ A1 c1, RPost1 W B g v b s' #[.int .i64 y0, .int .i64 y1, .int .i64 y2, .int .i64 y3, .int .u32 y4, .int .u32 y5, .slice A1 D1.length c1] e r w' ∧ Rd w' A1 D1 c1)) ∧
    (∀ (w0 W : World) (g : Nat) (A : Option Addr) (c : Nat), RS0 w0 W g A c b s → Calls Try.prog 35 #[.pointer (some ⟨g, 0, none⟩)] W (fun r w' => ∃ A1 c1, RfPost w0 W g A c b s' #[.int .i64 y0, .int .i64 y1, .int .i64 y2, .int .i64 y3, .int .u32 y4, .int .u32 y5, .slice A1 D1.length c1] e r w' ∧ Rd w' A1 D1 c1)) := by
  by_cases hE : sgE b s 101010256 = 0
  · obtain ⟨q0, h0⟩ : ∃ q, rA b s 4 = q := ⟨_, rfl⟩
    obtain ⟨q1, e1⟩ : ∃ q, rA b q0 2 = q := ⟨_, rfl⟩
    obtain ⟨x1, v1⟩ : ∃ q, rV b q0 2 = q := ⟨_, rfl⟩
    obtain ⟨q2, e2⟩ : ∃ q, rA b q1 2 = q := ⟨_, rfl⟩
    obtain ⟨x2, v2⟩ : ∃ q, rV b q1 2 = q := ⟨_, rfl⟩
    obtain ⟨q3, e3⟩ : ∃ q, rA b q2 2 = q := ⟨_, rfl⟩
    obtain ⟨x3, v3⟩ : ∃ q, rV b q2 2 = q := ⟨_, rfl⟩
    obtain ⟨q4, e4⟩ : ∃ q, rA b q3 2 = q := ⟨_, rfl⟩
    obtain ⟨x4, v4⟩ : ∃ q, rV b q3 2 = q := ⟨_, rfl⟩
    obtain ⟨q5, e5⟩ : ∃ q, rA b q4 4 = q := ⟨_, rfl⟩
    obtain ⟨x5, v5⟩ : ∃ q, rV b q4 4 = q := ⟨_, rfl⟩
    obtain ⟨q6, e6⟩ : ∃ q, rA b q5 4 = q := ⟨_, rfl⟩
    obtain ⟨x6, v6⟩ : ∃ q, rV b q5 4 = q := ⟨_, rfl⟩
    obtain ⟨q7, e7⟩ : ∃ q, rA b q6 2 = q := ⟨_, rfl⟩
    obtain ⟨x7, v7⟩ : ∃ q, rV b q6 2 = q := ⟨_, rfl⟩
    obtain ⟨t1, j1⟩ : ∃ q, rA b q7 x7 = q := ⟨_, rfl⟩
    obtain ⟨D1, k1⟩ : ∃ q, rL b q7 x7 = q := ⟨_, rfl⟩
    have lD1 : D1.length ≤ b.length := k1 ▸ rL_len
    by_cases h5 : t1.2 = 0
    · refine ⟨x1, x2, x3, x4, x5, x6, D1, 0, t1, lD1, fun W B g v h => ?_, fun w0 W g A c h => ?_⟩
      · have h9 := rec_readEnd_ok W B g v b s h hb hE
        simp only [h0, e1, v1, e2, v2, e3, v3, e4, v4, e5, v5, e6, v6, e7, v7, j1, k1] at h9
        refine (h9 h5).mono ?_
        rintro r w' ⟨A1, c1, h1, h2, h3⟩
        exact ⟨A1, c1, h1, ⟨h2, h3⟩⟩
      · refine (ref_readEnd_ok w0 W g A c b s h hb hE q0 q1 q2 q3 q4 q5 q6 q7 t1 x1 x2 x3 x4 x5 x6 x7 h0 e1 v1 e2 v2 e3 v3 e4 v4 e5 v5 e6 v6 e7 v7 D1 k1 j1 h5).mono ?_
        rintro r w' ⟨A1, c1, h1, o1⟩
        exact ⟨A1, c1, h1, Rd.own o1⟩
    · refine ⟨0, 0, 0, 0, 0, 0, [], t1.2, t1, Nat.zero_le _, fun W B g v h => ?_, fun w0 W g A c h => ?_⟩
      · have h9 := rec_readEnd_err W B g v b s h hb hE
        simp only [h0, e1, v1, e2, v2, e3, v3, e4, v4, e5, v5, e6, v6, e7, v7, j1, k1] at h9
        refine (h9 _ rfl h5).mono ?_
        rintro r w' h1
        exact ⟨none, 0, h1, Rd_nil _⟩
      · refine (ref_readEnd_err w0 W g A c b s h hb hE q0 q1 q2 q3 q4 q5 q6 q7 t1 x1 x2 x3 x4 x5 x6 x7 h0 e1 v1 e2 v2 e3 v3 e4 v4 e5 v5 e6 v6 e7 v7 D1 k1 j1 _ rfl h5).mono ?_
        rintro r w' h1
        exact ⟨none, 0, h1, Rd_nil _⟩
  · refine ⟨0, 0, 0, 0, 0, 0, [], sgE b s 101010256, rA b s 4, Nat.zero_le _, fun W B g v h => ?_, fun w0 W g A c h => ?_⟩
    · refine (rec_readEnd_sign W B g v b s h hb _ rfl hE).mono ?_
      rintro r w' h1
      exact ⟨none, 0, h1, Rd_nil _⟩
    · refine (ref_readEnd_sign w0 W g A c b s h hb _ rfl hE).mono ?_
      rintro r w' h1
      exact ⟨none, 0, h1, Rd_nil _⟩
theorem cenBoth (b : List Int) (hb : ∀ x ∈ b, 0 ≤ x ∧ x ≤ 255) (s : Sta) : ∃ (y0 y1 y2 y3 y4 y5 y6 y7 y8 y9 y10 y11 y12 : Int) (D1 D2 D3 : List Int) (e : Int) (s' : Sta), (D1.length ≤ b.length ∧ D2.length ≤ b.length ∧ D3.length ≤ b.length) ∧
    (∀ (W : World) (B g : Nat) (v : Value), CS W B g v b s → Calls Try.prog 24 #[.pointer (some ⟨g, 0, none⟩)] W (fun r w' => ∃ A1 c1 A2 c2 A3 c3, RPost1 W B g v b s' #[.int .i64 y0, .int .i64 y1, .int .i64 y2, .int .i64 y3, .int .i64 y4, .int .u32 y5, .int .u32 y6, .int .u32 y7, .slice A1 D1.length c1, .slice A2 D2.length c2, .int .i64 y8, .int .i64 y9, .int .i64 y10, .int .u32 y11, .int .u32 y12, .slice A3 D3.length c3] e r w' ∧ Rd w' A1 D1 c1 ∧ Rd w' A2 D2 c2 ∧ Rd w' A3 D3 c3)) ∧
    (∀ (w0 W : World) (g : Nat) (A : Option Addr) (c : Nat), RS0 w0 W g A c b s → Calls Try.prog 34 #[.pointer (some ⟨g, 0, none⟩)] W (fun r w' => ∃ A1 c1 A2 c2 A3 c3, RfPost w0 W g A c b s' #[.int .i64 y0, .int .i64 y1, .int .i64 y2, .int .i64 y3, .int .i64 y4, .int .u32 y5, .int .u32 y6, .int .u32 y7, .slice A1 D1.length c1, .slice A2 D2.length c2, .int .i64 y8, .int .i64 y9, .int .i64 y10, .int .u32 y11, .int .u32 y12, .slice A3 D3.length c3] e r w' ∧ Rd w' A1 D1 c1 ∧ Rd w' A2 D2 c2 ∧ Rd w' A3 D3 c3)) := by
  by_cases hE : sgE b s 33639248 = 0
  · obtain ⟨q0, h0⟩ : ∃ q, rA b s 4 = q := ⟨_, rfl⟩
    obtain ⟨q1, e1⟩ : ∃ q, rA b q0 2 = q := ⟨_, rfl⟩
    obtain ⟨x1, v1⟩ : ∃ q, rV b q0 2 = q := ⟨_, rfl⟩
    obtain ⟨q2, e2⟩ : ∃ q, rA b q1 2 = q := ⟨_, rfl⟩
    obtain ⟨x2, v2⟩ : ∃ q, rV b q1 2 = q := ⟨_, rfl⟩
    obtain ⟨q3, e3⟩ : ∃ q, rA b q2 2 = q := ⟨_, rfl⟩
    obtain ⟨x3, v3⟩ : ∃ q, rV b q2 2 = q := ⟨_, rfl⟩
    obtain ⟨q4, e4⟩ : ∃ q, rA b q3 2 = q := ⟨_, rfl⟩
    obtain ⟨x4, v4⟩ : ∃ q, rV b q3 2 = q := ⟨_, rfl⟩
    obtain ⟨q5, e5⟩ : ∃ q, rA b q4 2 = q := ⟨_, rfl⟩
    obtain ⟨x5, v5⟩ : ∃ q, rV b q4 2 = q := ⟨_, rfl⟩
    obtain ⟨q6, e6⟩ : ∃ q, rA b q5 2 = q := ⟨_, rfl⟩
    obtain ⟨x6, v6⟩ : ∃ q, rV b q5 2 = q := ⟨_, rfl⟩
    obtain ⟨q7, e7⟩ : ∃ q, rA b q6 4 = q := ⟨_, rfl⟩
    obtain ⟨x7, v7⟩ : ∃ q, rV b q6 4 = q := ⟨_, rfl⟩
    obtain ⟨q8, e8⟩ : ∃ q, rA b q7 4 = q := ⟨_, rfl⟩
    obtain ⟨x8, v8⟩ : ∃ q, rV b q7 4 = q := ⟨_, rfl⟩
    obtain ⟨q9, e9⟩ : ∃ q, rA b q8 4 = q := ⟨_, rfl⟩
    obtain ⟨x9, v9⟩ : ∃ q, rV b q8 4 = q := ⟨_, rfl⟩
    obtain ⟨q10, e10⟩ : ∃ q, rA b q9 2 = q := ⟨_, rfl⟩
    obtain ⟨x10, v10⟩ : ∃ q, rV b q9 2 = q := ⟨_, rfl⟩
    obtain ⟨q11, e11⟩ : ∃ q, rA b q10 2 = q := ⟨_, rfl⟩
    obtain ⟨x11, v11⟩ : ∃ q, rV b q10 2 = q := ⟨_, rfl⟩
    obtain ⟨q12, e12⟩ : ∃ q, rA b q11 2 = q := ⟨_, rfl⟩
    obtain ⟨x12, v12⟩ : ∃ q, rV b q11 2 = q := ⟨_, rfl⟩
    obtain ⟨q13, e13⟩ : ∃ q, rA b q12 2 = q := ⟨_, rfl⟩
    obtain ⟨x13, v13⟩ : ∃ q, rV b q12 2 = q := ⟨_, rfl⟩
    obtain ⟨q14, e14⟩ : ∃ q, rA b q13 2 = q := ⟨_, rfl⟩
    obtain ⟨x14, v14⟩ : ∃ q, rV b q13 2 = q := ⟨_, rfl⟩
    obtain ⟨q15, e15⟩ : ∃ q, rA b q14 4 = q := ⟨_, rfl⟩
    obtain ⟨x15, v15⟩ : ∃ q, rV b q14 4 = q := ⟨_, rfl⟩
    obtain ⟨q16, e16⟩ : ∃ q, rA b q15 4 = q := ⟨_, rfl⟩
    obtain ⟨x16, v16⟩ : ∃ q, rV b q15 4 = q := ⟨_, rfl⟩
    obtain ⟨t1, j1⟩ : ∃ q, rA b q16 x10 = q := ⟨_, rfl⟩
    obtain ⟨D1, k1⟩ : ∃ q, rL b q16 x10 = q := ⟨_, rfl⟩
    have lD1 : D1.length ≤ b.length := k1 ▸ rL_len
    obtain ⟨t2, j2⟩ : ∃ q, rA b t1 x11 = q := ⟨_, rfl⟩
    obtain ⟨D2, k2⟩ : ∃ q, rL b t1 x11 = q := ⟨_, rfl⟩
    have lD2 : D2.length ≤ b.length := k2 ▸ rL_len
    obtain ⟨t3, j3⟩ : ∃ q, rA b t2 x12 = q := ⟨_, rfl⟩
    obtain ⟨D3, k3⟩ : ∃ q, rL b t2 x12 = q := ⟨_, rfl⟩
    have lD3 : D3.length ≤ b.length := k3 ▸ rL_len
    by_cases h5 : t3.2 = 0
    · refine ⟨x2, x3, x4, x5, x6, x7, x8, x9, x1, x13, x14, x15, x16, D1, D2, D3, 0, t3, ⟨lD1, lD2, lD3⟩, fun W B g v h => ?_, fun w0 W g A c h => ?_⟩
      · have hd : ∀ W, CS W B g v b q1 → Calls Try.prog 53 #[.pointer (some ⟨g, 0, none⟩)] W (SPost W B g v b q11 (.tuple #[.agg #[.int .i64 x2, .int .i64 x3, .int .i64 x4, .int .i64 x5, .int .i64 x6, .int .u32 x7, .int .u32 x8, .int .u32 x9, .slice none 0 0, .slice none 0 0], .agg #[.int .i64 x10, .int .i64 x11, .int .i64 0]])) := by
          intro W hW
          have h9 := rec_head W B g v b q1 hW hb
          simp only [e2, v2, e3, v3, e4, v4, e5, v5, e6, v6, e7, v7, e8, v8, e9, v9, e10, v10, e11, v11] at h9
          exact h9
        refine (rec_readCentral_ok W B g v b s h hb hE q0 q1 q11 q12 q13 q14 q15 q16 t1 t2 t3 h0 x1 x2 x3 x4 x5 x6 x7 x8 x9 x10 x11 x12 x13 x14 x15 x16 e1 v1 hd e12 v12 e13 v13 e14 v14 e15 v15 e16 v16 D1 D2 D3 k1 j1 k2 j2 k3 j3 h5).mono ?_
        rintro r w' ⟨A1, c1, A2, c2, A3, c3, h1, h2, h3, h4, h6, h7, h8⟩
        exact ⟨A1, c1, A2, c2, A3, c3, h1, ⟨h2, h3⟩, ⟨h4, h6⟩, ⟨h7, h8⟩⟩
      · refine (ref_readCentral_ok w0 W g A c b s h hb hE q0 q1 q2 q3 q4 q5 q6 q7 q8 q9 q10 q11 q12 q13 q14 q15 q16 t1 t2 t3 x1 x2 x3 x4 x5 x6 x7 x8 x9 x10 x11 x12 x13 x14 x15 x16 h0 e1 v1 e2 v2 e3 v3 e4 v4 e5 v5 e6 v6 e7 v7 e8 v8 e9 v9 e10 v10 e11 v11 e12 v12 e13 v13 e14 v14 e15 v15 e16 v16 D1 D2 D3 k1 j1 k2 j2 k3 j3 h5).mono ?_
        rintro r w' ⟨A1, c1, A2, c2, A3, c3, h1, o1, o2, o3⟩
        exact ⟨A1, c1, A2, c2, A3, c3, h1, Rd.own o1, Rd.own o2, Rd.own o3⟩
    · refine ⟨0, 0, 0, 0, 0, 0, 0, 0, 0, 0, 0, 0, 0, [], [], [], t3.2, t3, ⟨Nat.zero_le _, Nat.zero_le _, Nat.zero_le _⟩, fun W B g v h => ?_, fun w0 W g A c h => ?_⟩
      · have hd : ∀ W, CS W B g v b q1 → Calls Try.prog 53 #[.pointer (some ⟨g, 0, none⟩)] W (SPost W B g v b q11 (.tuple #[.agg #[.int .i64 x2, .int .i64 x3, .int .i64 x4, .int .i64 x5, .int .i64 x6, .int .u32 x7, .int .u32 x8, .int .u32 x9, .slice none 0 0, .slice none 0 0], .agg #[.int .i64 x10, .int .i64 x11, .int .i64 0]])) := by
          intro W hW
          have h9 := rec_head W B g v b q1 hW hb
          simp only [e2, v2, e3, v3, e4, v4, e5, v5, e6, v6, e7, v7, e8, v8, e9, v9, e10, v10, e11, v11] at h9
          exact h9
        refine (rec_readCentral_err W B g v b s h hb hE q0 q1 q11 q12 q13 q14 q15 q16 t1 t2 t3 h0 x1 x2 x3 x4 x5 x6 x7 x8 x9 x10 x11 x12 x13 x14 x15 x16 e1 v1 hd e12 v12 e13 v13 e14 v14 e15 v15 e16 v16 D1 D2 D3 k1 j1 k2 j2 k3 j3 _ rfl h5).mono ?_
        rintro r w' h1
        exact ⟨none, 0, none, 0, none, 0, h1, Rd_nil _, Rd_nil _, Rd_nil _⟩
      · refine (ref_readCentral_err w0 W g A c b s h hb hE q0 q1 q2 q3 q4 q5 q6 q7 q8 q9 q10 q11 q12 q13 q14 q15 q16 t1 t2 t3 x1 x2 x3 x4 x5 x6 x7 x8 x9 x10 x11 x12 x13 x14 x15 x16 h0 e1 v1 e2 v2 e3 v3 e4 v4 e5 v5 e6 v6 e7 v7 e8 v8 e9 v9 e10 v10 e11 v11 e12 v12 e13 v13 e14 v14 e15 v15 e16 v16 D1 D2 D3 k1 j1 k2 j2 k3 j3 _ rfl h5).mono ?_
        rintro r w' h1
        exact ⟨none, 0, none, 0, none, 0, h1, Rd_nil _, Rd_nil _, Rd_nil _⟩
  · refine ⟨0, 0, 0, 0, 0, 0, 0, 0, 0, 0, 0, 0, 0, [], [], [], sgE b s 33639248, rA b s 4, ⟨Nat.zero_le _, Nat.zero_le _, Nat.zero_le _⟩, fun W B g v h => ?_, fun w0 W g A c h => ?_⟩
    · refine (rec_readCentral_sign W B g v b s h hb _ rfl hE).mono ?_
      rintro r w' h1
      exact ⟨none, 0, none, 0, none, 0, h1, Rd_nil _, Rd_nil _, Rd_nil _⟩
    · refine (ref_readCentral_sign w0 W g A c b s h hb _ rfl hE).mono ?_
      rintro r w' h1
      exact ⟨none, 0, none, 0, none, 0, h1, Rd_nil _, Rd_nil _, Rd_nil _⟩
theorem CurAt.drew {w : World} {base g : Nat} {v : Value} {b : List Int} {a : Nat} {e : Int} (h : CurAt w base g v b a e) : CurAt w.drew base g v b a e := ⟨h.blk, h.own, h.ge, h.le, h.len⟩
theorem RAt.drew {w0 w : World} {g : Nat} {A : Option Addr} {c : Nat} {b : List Int} {a : Nat} {e : Int} (h : RAt w0 w g A c b a e) : RAt w0 w.drew g A c b a e := ⟨h.blk, h.ge, h.C, h.cap, h.bel.drew, h.le, h.len⟩
theorem neCR_types : (56 : Nat) ≠ 67 := by decide
theorem ne8R_types : (5 : Nat) ≠ 67 := by decide
/-- the program's cursor beside what the reference's cursor did -/
theorem CurAt.beside {w0 w w' : World} {base g gx : Nat} {v : Value} {b : List Int} {a : Nat} {e : Int} {A : Option Addr} {c : Nat} {b2 : List Int} {a2 : Nat} {e2 : Int} (h : CurAt w base g v b a e) (hx : RAt w0 w gx A c b2 a2 e2) (hk : Kept w w' (fun k => k = gx)) : CurAt w' base g v b a e := by
  have hg : g ≠ gx := blk_ne h.blk hx.blk neCR_types
  have hv := own_ne h.own hx.blk ne8R_types
  refine ⟨blk_kept h.blk hk hg, own_move h.own (fun k hk2 => hk.2 k (own_lt h.own k hk2) (fun e => hv (by rw [hk2, e]))), h.ge, h.le, h.len⟩
theorem RAt.beside {w0 w w' : World} {base g gx : Nat} {v : Value} {b : List Int} {a : Nat} {e : Int} {A : Option Addr} {c : Nat} {b2 : List Int} {a2 : Nat} {e2 : Int} (hx : RAt w0 w gx A c b2 a2 e2) (h : CurAt w base g v b a e) (hB : w0.heap.size ≤ base) (hk : CKept w w' base g) : RAt w0 w' gx A c b2 a2 e2 := by
  have hg : g ≠ gx := blk_ne h.blk hx.blk neCR_types
  exact ⟨blk_kept hx.blk hk.kept (fun e => hg e.symm), hx.ge, hx.C, hx.cap, hx.bel.trans (hk.below.mono hB), hx.le, hx.len⟩
theorem CS.beside {w0 w w' : World} {B g gx : Nat} {v : Value} {b : List Int} {s : Sta} {A : Option Addr} {c : Nat} {b2 : List Int} {s2 : Sta} (h : CS w B g v b s) (hx : RS0 w0 w gx A c b2 s2) (hk : Kept w w' (fun k => k = gx)) : CS w' B g v b s := CurAt.beside h hx hk
theorem RS0.beside {w0 w w' : World} {B g gx : Nat} {v : Value} {b : List Int} {s : Sta} {A : Option Addr} {c : Nat} {b2 : List Int} {s2 : Sta} (hx : RS0 w0 w gx A c b2 s2) (h : CS w B g v b s) (hB : w0.heap.size ≤ B) (hk : CKept w w' B g) : RS0 w0 w' gx A c b2 s2 := RAt.beside hx h hB hk
theorem Rd.kept {w w' : World} {A X : Option Addr} {l : List Int} {c n m g t : Nat} {p q : Int} (h : Rd w A l c) (hb : w.heap[g]? = some (.cells #[.slice X n m, .int .i64 p, .int .i64 q] t (0, 0))) (hk : Kept w w' (fun k => k = g)) : Rd w' A l c := by
  refine ⟨Kd.C_foot_neS (S := fun k => k = g) (fun h => h) h.1 (fun ad hA hn hS => ?_) _ hk, h.2⟩
  obtain ⟨ad', e, hx⟩ := Kd.at_int h.1 (0 : Int) (by omega) (by omega)
  rw [hA] at e
  obtain rfl := Option.some.inj e
  rw [show (0 : Int).toNat = 0 from rfl] at hx
  have hS' : ad.block = g := hS
  have e0 : ad.add 0 = ad := by unfold Addr.add; split <;> simp_all
  rw [e0] at hx
  unfold World.cell? at hx
  rw [hS', hb] at hx
  revert hx
  cases ad.spot with
  | some s => intro hx; cases hx
  | none =>
    intro hx
    have hx2 : (#[Value.slice X n m, .int .i64 p, .int .i64 q] : Array Value)[ad.off]? = some (.int .u8 (rd l 0)) := hx
    rcases hj : ad.off with _ | _ | _ | j <;> rw [hj] at hx2 <;> simp at hx2
def wn (x lo hi : Int) : Int := if x < lo then lo else if hi < x then hi else x
set_option maxHeartbeats 1000000 in
theorem within_all (x lo hi : Int) (w : World) : Calls Try.prog 29 #[.int .i64 x, .int .i64 lo, .int .i64 hi] w fun e w' => e = .returned (.int .i64 (wn x lo hi)) ∧ w = w' := by
  unfold wn
  by_cases h1 : x < lo
  · have c1 : decide (x < lo) = true := decide_eq_true h1
    rw [if_pos h1]
    clear h1
    go_enter Try.func29, Try.ntmps29
    go_wp2
    go_ret
    exact ⟨rfl, rfl⟩
  · have c1 : decide (x < lo) = false := decide_eq_false h1
    rw [if_neg h1]
    clear h1
    by_cases h2 : hi < x
    · have c2 : decide (hi < x) = true := decide_eq_true h2
      rw [if_pos h2]
      clear h2
      go_enter Try.func29, Try.ntmps29
      go_wp2
      go_ret
      exact ⟨rfl, rfl⟩
    · have c2 : decide (hi < x) = false := decide_eq_false h2
      rw [if_neg h2]
      clear h2
      go_enter Try.func29, Try.ntmps29
      go_wp2
      go_ret
      exact ⟨rfl, rfl⟩
set_option maxHeartbeats 16000000 in
set_option maxRecDepth 100000 in
theorem reads (w : World) (A0 : Option Addr) (l0 : List Int) (c0 : Nat) (sk : Int) (h0 : Rd w A0 l0 c0) (hn : A0 = none → c0 = 0) (hby : ∀ x ∈ l0, 0 ≤ x ∧ x ≤ 255) :
    Calls Try.prog 7 #[.slice A0 l0.length c0, .int .i64 sk] w (fun e w' => e = .returned (.bool true) ∧ Below w.heap.size w w') := by
  obtain ⟨b, hbq⟩ : ∃ b, l0.take 400 = b := ⟨_, rfl⟩
  have HCUT : Aside0 (MyCut.cut_u8.f l0 400 = some b) := ⟨hbq ▸ MyCut.cut_u8.nat l0 400⟩
  have HC0 := Aside0.mk h0.2
  have HC : Aside0 (Kd.C (Kd.int .u8) w A0 b.length b) := ⟨MyCut.C_cut_u8 h0.1 HCUT.out⟩
  have HCC : Aside0 (b.length ≤ c0) := ⟨MyCut.le_cut_u8 h0.2 HCUT.out⟩
  have HL : Aside0 (b.length ≤ 400) := ⟨by rw [← hbq, List.length_take]; omega⟩
  have hbb : ∀ x ∈ b, 0 ≤ x ∧ x ≤ 255 := fun x hx => hby x (List.mem_of_mem_take (hbq ▸ hx))
  have HN := Aside0.mk hn
  obtain ⟨kk, hkk⟩ : ∃ kk, wn sk 0 (b.length : Int) = kk := ⟨_, rfl⟩
  have HKK := Aside0.mk hkk
  have HBB := Aside0.mk hbb
  clear h0 hn hby hbq hkk hbb
  go_enter Try.func7, Try.ntmps7
  go_wp2_with (first
    | (go_at_call 9; (with_reducible refine (MyCut.cut_u8.calls A0 c0 l0 400 b _ HC0.out HCUT.out).mono ?_); rintro e w' ⟨rfl, hs_⟩; subst hs_)
    | (go_at_call 29; (with_reducible refine (within_all sk 0 (b.length : Int) _).mono ?_); rintro e w' ⟨rfl, hs_⟩; subst hs_; rw [HKK.out]))
  go_loopw [5] (fun v5 wr => ∃ k : Nat, v5 = .int .i64 k ∧ k ≤ 3 ∧ Below w.heap.size w wr) (fun v5 _ => 3 - (intOf v5).toNat)
  case atStart => exact ⟨0, rfl, by omega, Below.refl _ _⟩
  case round =>
    obtain ⟨k, rfl, hk3, hbw⟩ := hrel
    have HBW := Aside0.mk hbw
    clear hbw
    obtain ⟨s, hs⟩ : ∃ s, rA b (0, 0) kk = s := ⟨_, rfl⟩
    have HBY : Aside0 (∀ (W : World) (B g : Nat) (v : Value), CS W B g v b (0, 0) → Calls Try.prog 31 #[.pointer (some ⟨g, 0, none⟩), .int .i64 kk] W (fun r w' => ∃ A c, r = .returned (.slice A (rL b (0, 0) kk).length c) ∧ w'.ownsRow W.heap.size 5 1 (.slice A (rL b (0, 0) kk).length c) (rL b (0, 0) kk).length (nums .u8 (rL b (0, 0) kk)) ∧ CS w' B g v b s ∧ CKept W w' B g)) := ⟨fun W B g v h => hs ▸ cs_bytes h kk⟩
    have HTK : Aside0 (∀ (W : World) (g : Nat), RS0 w W g A0 c0 b (0, 0) → Calls Try.prog 32 #[.pointer (some ⟨g, 0, none⟩), .int .i64 kk] W (fun r w' => ∃ A1 c1, r = .returned (.slice A1 (rL b (0, 0) kk).length c1) ∧ w'.ownsRow W.heap.size 5 1 (.slice A1 (rL b (0, 0) kk).length c1) (rL b (0, 0) kk).length (nums .u8 (rL b (0, 0) kk)) ∧ RS0 w w' g A0 c0 b s ∧ Kept W w' (fun k => k = g))) := ⟨fun W g h => hs ▸ rs_take h kk⟩
    clear hs
    by_cases hlt : k < 3
    · rcases (show k = 0 ∨ k = 1 ∨ k = 2 by omega) with rfl | rfl | rfl
      · obtain ⟨y0, y1, y2, y3, y4, y5, y6, y7, D1, D2, er, s2, hD, hp, hq⟩ := locBoth b HBB.out s
        have HP := Aside0.mk hp
        have HQ := Aside0.mk hq
        have HDL := Aside0.mk hD
        clear hp hq hD
        obtain ⟨a2, e2⟩ := s2
        go_upto_region 22 with (first
          | (go_at_call 30; (with_reducible refine (cur_open _ A0 c0 b (Kd.C_below HC.out HBW.out) HN.out (by have h9 := HL.out; omega)).mono ?_); rintro r w2 ⟨g1, v1, rfl, hcur, hb2⟩; have HBX : Aside0 (Below w.heap.size w w2) := ⟨below_step HBW.out hb2⟩; have HSZ := Aside0.mk HBW.out.size; have HA : Aside0 (CS (w2.alloc (.cells #[.slice A0 b.length c0, .int .i64 0, .int .i64 0] 67)) wr.heap.size g1 v1 b (0, 0)) := ⟨CS.below hcur (below_alloc (Below.refl _ _) _)⟩; have HR : Aside0 (RS0 w (w2.alloc (.cells #[.slice A0 b.length c0, .int .i64 0, .int .i64 0] 67)) w2.heap.size A0 c0 b (0, 0)) := ⟨⟨heap_alloc_new w2 _, HBX.out.size, HC.out, HCC.out, below_alloc HBX.out _, Nat.zero_le _, by have h9 := HL.out; omega⟩⟩; clear hcur hb2)
          | (go_at_call 31; (with_reducible refine (HBY.out _ _ _ _ HA.out).mono ?_); rintro r w3 ⟨A8, c8, rfl, ho, hc, hk⟩; replace HR := Aside0.mk (HR.out.beside HA.out HSZ.out hk); replace HA := Aside0.mk hc; clear ho hc hk)
          | (go_at_call 32; (with_reducible refine (HTK.out _ _ HR.out).mono ?_); rintro r w4 ⟨A9, c9, rfl, ho, hr, hk⟩; replace HA := Aside0.mk (HA.out.beside HR.out hk); replace HR := Aside0.mk hr; clear ho hr hk)
          | (go_at_call 23; (with_reducible refine (HP.out _ _ _ _ HA.out).mono ?_); rintro r w5 ⟨A1, c1, A2, c2, ⟨rfl, hc, hk⟩, e1, e2⟩; replace HR := Aside0.mk (HR.out.beside HA.out HSZ.out hk); replace HA := Aside0.mk hc; have RP1 := Aside0.mk e1; have RP2 := Aside0.mk e2; clear hc hk e1 e2)
          | ((with_reducible refine gate_store (t := 37) (p := 9) (v := .tmp 66) rfl ?_); refine wpList_store_mid rfl 37 (.tmp 9) (.tmp 66) rfl w5.heap.size 0 #[.int .i64 y0, .int .i64 y1, .int .i64 y2, .int .i64 y3, .int .i64 y4, .int .u32 y5, .int .u32 y6, .int .u32 y7, .slice A1 D1.length c1, .slice A2 D2.length c2] rfl rfl (there_of (heap_alloc_new w5 _) _ (by simp)) (by kernel_rfl) (by simp [Value.oneCell']) ?_; refine wpl_gen (fun W => Below w5.heap.size w5 W ∧ W.heap[w5.heap.size]? = some (.cells #[.int .i64 y0, .int .i64 y1, .int .i64 y2, .int .i64 y3, .int .i64 y4, .int .u32 y5, .int .u32 y6, .int .u32 y7, .slice A1 D1.length c1, .slice A2 D2.length c2] 37 (0, 0))) ⟨below_setCells (below_alloc (Below.refl _ _) _) (Nat.le_refl _) _, blk_putall (heap_alloc_new w5 _) rfl⟩ ?_; rintro w6 ⟨hb, hx⟩; have HX1 := Aside0.mk hx; replace HA := Aside0.mk (HA.out.below hb); replace HR := Aside0.mk (RAt.below HR.out hb); replace RP1 := Aside0.mk (RP1.out.bel hb); replace RP2 := Aside0.mk (RP2.out.bel hb); clear hb hx)
          | (go_at_call 33; (with_reducible refine (HQ.out _ _ _ _ _ HR.out).mono ?_); rintro r w7 ⟨A11, c11, A12, c12, ⟨rfl, hc, hk⟩, e1, e2⟩; replace HA := Aside0.mk (HA.out.beside HR.out hk); replace HX1 := Aside0.mk (blk_rcur HX1.out (by decide) HR.out hk); replace RP1 := Aside0.mk (RP1.out.kept HR.out.blk hk); replace RP2 := Aside0.mk (RP2.out.kept HR.out.blk hk); replace HR := Aside0.mk hc; have RQ1 := Aside0.mk e1; have RQ2 := Aside0.mk e2; clear hc hk e1 e2)
          | ((with_reducible refine gate_store (t := 37) (p := 11) (v := .tmp 71) rfl ?_); refine wpList_store_mid rfl 37 (.tmp 11) (.tmp 71) rfl w7.heap.size 0 #[.int .i64 y0, .int .i64 y1, .int .i64 y2, .int .i64 y3, .int .i64 y4, .int .u32 y5, .int .u32 y6, .int .u32 y7, .slice A11 D1.length c11, .slice A12 D2.length c12] rfl rfl (there_of (heap_alloc_new w7 _) _ (by simp)) (by kernel_rfl) (by simp [Value.oneCell']) ?_; refine wpl_gen (fun W => Below w7.heap.size w7 W ∧ W.heap[w7.heap.size]? = some (.cells #[.int .i64 y0, .int .i64 y1, .int .i64 y2, .int .i64 y3, .int .i64 y4, .int .u32 y5, .int .u32 y6, .int .u32 y7, .slice A11 D1.length c11, .slice A12 D2.length c12] 37 (0, 0))) ⟨below_setCells (below_alloc (Below.refl _ _) _) (Nat.le_refl _) _, blk_putall (heap_alloc_new w7 _) rfl⟩ ?_; rintro w8 ⟨hb, hx⟩; have HX2 := Aside0.mk hx; replace HX1 := Aside0.mk (blk_below HX1.out hb); replace HA := Aside0.mk (HA.out.below hb); replace HR := Aside0.mk (RAt.below HR.out hb); replace RP1 := Aside0.mk (RP1.out.bel hb); replace RP2 := Aside0.mk (RP2.out.bel hb); replace RQ1 := Aside0.mk (RQ1.out.bel hb); replace RQ2 := Aside0.mk (RQ2.out.bel hb); clear hb hx)
          | ((with_reducible refine gate_dst (N := 73) rfl ?_); refine wpList_load_row rfl 37 (.tmp 9) rfl w5.heap.size rfl 37 _ (0, 0) _ HX1.out Try.underlying37 rfl (by kernel_rfl) ?_)
          | ((with_reducible refine gate_dst (N := 74) rfl ?_); refine wpList_load_row rfl 37 (.tmp 11) rfl w7.heap.size rfl 37 _ (0, 0) _ HX2.out Try.underlying37 rfl (by kernel_rfl) ?_)
          | (go_at_call 26; (with_reducible refine (sm_SameHead _ y0 y1 y2 y3 y4 y5 y6 y7 A1 c1 A11 c11 D1 A2 c2 A12 c12 D2 RP1.out RQ1.out (Nat.le_trans HDL.out.1 HL.out) RP2.out RQ2.out (Nat.le_trans HDL.out.2 HL.out)).mono ?_); rintro r w9 ⟨rfl, hb⟩; replace HA := Aside0.mk (HA.out.below hb); replace HR := Aside0.mk (RAt.below HR.out hb); clear hb)
          | fail)
        have hg1 : w9.cell? ⟨w2.heap.size, 1, none⟩ = some (.int .i64 (a2 : Int)) := (blk_cell HR.out.blk 1).trans rfl
        have hg2 : w9.cell? ⟨w2.heap.size, 2, none⟩ = some (.int .i64 e2) := (blk_cell HR.out.blk 2).trans rfl
        have HZ : Aside0 (CurAt w9 wr.heap.size g1 v1 b a2 e2) := ⟨HA.out⟩
        go_wp2_with fail
        go_region_held3 (fun w' => w'.cell? ⟨w2.heap.size, 1, none⟩ = some (.int .i64 (a2 : Int)) ∧ w'.cell? ⟨w2.heap.size, 2, none⟩ = some (.int .i64 e2))
          (((try dsimp only); (repeat' apply And.intro); (all_goals (first | exact hg1 | exact hg2 | go_keep | assumption))))
          (first
            | (go_at_call 36; refine (cur_at _ wr.heap.size g1 v1 b a2 e2 (by repeat (with_reducible first | exact HZ.out | refine CurAt.drew ?_ | refine CurAt.drewN ?_ _))).mono ?_; rintro r w5 ⟨rfl, hs_⟩; subst hs_)
            | (go_at_call 37; refine (cur_err _ wr.heap.size g1 v1 b a2 e2 (by repeat (with_reducible first | exact HZ.out | refine CurAt.drew ?_ | refine CurAt.drewN ?_ _))).mono ?_; rintro r w5 ⟨rfl, hs_⟩; subst hs_)
            | fail)
        all_goals
          go_split_ands
          go_wp2
          go_roundw
          case rel => exact ⟨1, by go_num, by omega, by repeat (first | (with_reducible exact HR.out.bel) | (with_reducible refine pw_below_drewN ?_ _) | (with_reducible refine below_drew ?_))⟩
          case measure => simp [intOf]
      · obtain ⟨y0, y1, y2, y3, y4, y5, y6, y7, y8, y9, y10, y11, y12, D1, D2, D3, er, s2, hD, hp, hq⟩ := cenBoth b HBB.out s
        have HP := Aside0.mk hp
        have HQ := Aside0.mk hq
        have HDL := Aside0.mk hD
        clear hp hq hD
        obtain ⟨a2, e2⟩ := s2
        go_upto_region 22 with (first
          | (go_at_call 30; (with_reducible refine (cur_open _ A0 c0 b (Kd.C_below HC.out HBW.out) HN.out (by have h9 := HL.out; omega)).mono ?_); rintro r w2 ⟨g1, v1, rfl, hcur, hb2⟩; have HBX : Aside0 (Below w.heap.size w w2) := ⟨below_step HBW.out hb2⟩; have HSZ := Aside0.mk HBW.out.size; have HA : Aside0 (CS (w2.alloc (.cells #[.slice A0 b.length c0, .int .i64 0, .int .i64 0] 67)) wr.heap.size g1 v1 b (0, 0)) := ⟨CS.below hcur (below_alloc (Below.refl _ _) _)⟩; have HR : Aside0 (RS0 w (w2.alloc (.cells #[.slice A0 b.length c0, .int .i64 0, .int .i64 0] 67)) w2.heap.size A0 c0 b (0, 0)) := ⟨⟨heap_alloc_new w2 _, HBX.out.size, HC.out, HCC.out, below_alloc HBX.out _, Nat.zero_le _, by have h9 := HL.out; omega⟩⟩; clear hcur hb2)
          | (go_at_call 31; (with_reducible refine (HBY.out _ _ _ _ HA.out).mono ?_); rintro r w3 ⟨A8, c8, rfl, ho, hc, hk⟩; replace HR := Aside0.mk (HR.out.beside HA.out HSZ.out hk); replace HA := Aside0.mk hc; clear ho hc hk)
          | (go_at_call 32; (with_reducible refine (HTK.out _ _ HR.out).mono ?_); rintro r w4 ⟨A9, c9, rfl, ho, hr, hk⟩; replace HA := Aside0.mk (HA.out.beside HR.out hk); replace HR := Aside0.mk hr; clear ho hr hk)
          | (go_at_call 24; (with_reducible refine (HP.out _ _ _ _ HA.out).mono ?_); rintro r w5 ⟨A1, c1, A2, c2, A3, c3, ⟨rfl, hc, hk⟩, e1, e2, e3⟩; replace HR := Aside0.mk (HR.out.beside HA.out HSZ.out hk); replace HA := Aside0.mk hc; have RP1 := Aside0.mk e1; have RP2 := Aside0.mk e2; have RP3 := Aside0.mk e3; clear hc hk e1 e2 e3)
          | ((with_reducible refine gate_store (t := 39) (p := 13) (v := .tmp 86) rfl ?_); refine wpList_store_mid rfl 39 (.tmp 13) (.tmp 86) rfl w5.heap.size 0 #[.int .i64 y0, .int .i64 y1, .int .i64 y2, .int .i64 y3, .int .i64 y4, .int .u32 y5, .int .u32 y6, .int .u32 y7, .slice A1 D1.length c1, .slice A2 D2.length c2, .int .i64 y8, .int .i64 y9, .int .i64 y10, .int .u32 y11, .int .u32 y12, .slice A3 D3.length c3] rfl rfl (there_of (heap_alloc_new w5 _) _ (by simp)) (by kernel_rfl) (by simp [Value.oneCell']) ?_; refine wpl_gen (fun W => Below w5.heap.size w5 W ∧ W.heap[w5.heap.size]? = some (.cells #[.int .i64 y0, .int .i64 y1, .int .i64 y2, .int .i64 y3, .int .i64 y4, .int .u32 y5, .int .u32 y6, .int .u32 y7, .slice A1 D1.length c1, .slice A2 D2.length c2, .int .i64 y8, .int .i64 y9, .int .i64 y10, .int .u32 y11, .int .u32 y12, .slice A3 D3.length c3] 39 (0, 0))) ⟨below_setCells (below_alloc (Below.refl _ _) _) (Nat.le_refl _) _, blk_putall (heap_alloc_new w5 _) rfl⟩ ?_; rintro w6 ⟨hb, hx⟩; have HX1 := Aside0.mk hx; replace HA := Aside0.mk (HA.out.below hb); replace HR := Aside0.mk (RAt.below HR.out hb); replace RP1 := Aside0.mk (RP1.out.bel hb); replace RP2 := Aside0.mk (RP2.out.bel hb); replace RP3 := Aside0.mk (RP3.out.bel hb); clear hb hx)
          | (go_at_call 34; (with_reducible refine (HQ.out _ _ _ _ _ HR.out).mono ?_); rintro r w7 ⟨A11, c11, A12, c12, A13, c13, ⟨rfl, hc, hk⟩, e1, e2, e3⟩; replace HA := Aside0.mk (HA.out.beside HR.out hk); replace HX1 := Aside0.mk (blk_rcur HX1.out (by decide) HR.out hk); replace RP1 := Aside0.mk (RP1.out.kept HR.out.blk hk); replace RP2 := Aside0.mk (RP2.out.kept HR.out.blk hk); replace RP3 := Aside0.mk (RP3.out.kept HR.out.blk hk); replace HR := Aside0.mk hc; have RQ1 := Aside0.mk e1; have RQ2 := Aside0.mk e2; have RQ3 := Aside0.mk e3; clear hc hk e1 e2 e3)
          | ((with_reducible refine gate_store (t := 39) (p := 15) (v := .tmp 91) rfl ?_); refine wpList_store_mid rfl 39 (.tmp 15) (.tmp 91) rfl w7.heap.size 0 #[.int .i64 y0, .int .i64 y1, .int .i64 y2, .int .i64 y3, .int .i64 y4, .int .u32 y5, .int .u32 y6, .int .u32 y7, .slice A11 D1.length c11, .slice A12 D2.length c12, .int .i64 y8, .int .i64 y9, .int .i64 y10, .int .u32 y11, .int .u32 y12, .slice A13 D3.length c13] rfl rfl (there_of (heap_alloc_new w7 _) _ (by simp)) (by kernel_rfl) (by simp [Value.oneCell']) ?_; refine wpl_gen (fun W => Below w7.heap.size w7 W ∧ W.heap[w7.heap.size]? = some (.cells #[.int .i64 y0, .int .i64 y1, .int .i64 y2, .int .i64 y3, .int .i64 y4, .int .u32 y5, .int .u32 y6, .int .u32 y7, .slice A11 D1.length c11, .slice A12 D2.length c12, .int .i64 y8, .int .i64 y9, .int .i64 y10, .int .u32 y11, .int .u32 y12, .slice A13 D3.length c13] 39 (0, 0))) ⟨below_setCells (below_alloc (Below.refl _ _) _) (Nat.le_refl _) _, blk_putall (heap_alloc_new w7 _) rfl⟩ ?_; rintro w8 ⟨hb, hx⟩; have HX2 := Aside0.mk hx; replace HX1 := Aside0.mk (blk_below HX1.out hb); replace HA := Aside0.mk (HA.out.below hb); replace HR := Aside0.mk (RAt.below HR.out hb); replace RP1 := Aside0.mk (RP1.out.bel hb); replace RP2 := Aside0.mk (RP2.out.bel hb); replace RP3 := Aside0.mk (RP3.out.bel hb); replace RQ1 := Aside0.mk (RQ1.out.bel hb); replace RQ2 := Aside0.mk (RQ2.out.bel hb); replace RQ3 := Aside0.mk (RQ3.out.bel hb); clear hb hx)
          | ((with_reducible refine gate_dst (N := 93) rfl ?_); refine wpList_load_row rfl 39 (.tmp 13) rfl w5.heap.size rfl 39 _ (0, 0) _ HX1.out Try.underlying39 rfl (by kernel_rfl) ?_)
          | ((with_reducible refine gate_dst (N := 94) rfl ?_); refine wpList_load_row rfl 39 (.tmp 15) rfl w7.heap.size rfl 39 _ (0, 0) _ HX2.out Try.underlying39 rfl (by kernel_rfl) ?_)
          | (go_at_call 27; (with_reducible refine (sm_SameCentral _ y0 y1 y2 y3 y4 y5 y6 y7 y8 y9 y10 y11 y12 A1 c1 A11 c11 D1 A2 c2 A12 c12 D2 A3 c3 A13 c13 D3 RP1.out RQ1.out (Nat.le_trans HDL.out.1 HL.out) RP2.out RQ2.out (Nat.le_trans HDL.out.2.1 HL.out) RP3.out RQ3.out (Nat.le_trans HDL.out.2.2 HL.out)).mono ?_); rintro r w9 ⟨rfl, hb⟩; replace HA := Aside0.mk (HA.out.below hb); replace HR := Aside0.mk (RAt.below HR.out hb); clear hb)
          | fail)
        have hg1 : w9.cell? ⟨w2.heap.size, 1, none⟩ = some (.int .i64 (a2 : Int)) := (blk_cell HR.out.blk 1).trans rfl
        have hg2 : w9.cell? ⟨w2.heap.size, 2, none⟩ = some (.int .i64 e2) := (blk_cell HR.out.blk 2).trans rfl
        have HZ : Aside0 (CurAt w9 wr.heap.size g1 v1 b a2 e2) := ⟨HA.out⟩
        go_wp2_with fail
        go_region_held3 (fun w' => w'.cell? ⟨w2.heap.size, 1, none⟩ = some (.int .i64 (a2 : Int)) ∧ w'.cell? ⟨w2.heap.size, 2, none⟩ = some (.int .i64 e2))
          (((try dsimp only); (repeat' apply And.intro); (all_goals (first | exact hg1 | exact hg2 | go_keep | assumption))))
          (first
            | (go_at_call 36; refine (cur_at _ wr.heap.size g1 v1 b a2 e2 (by repeat (with_reducible first | exact HZ.out | refine CurAt.drew ?_ | refine CurAt.drewN ?_ _))).mono ?_; rintro r w5 ⟨rfl, hs_⟩; subst hs_)
            | (go_at_call 37; refine (cur_err _ wr.heap.size g1 v1 b a2 e2 (by repeat (with_reducible first | exact HZ.out | refine CurAt.drew ?_ | refine CurAt.drewN ?_ _))).mono ?_; rintro r w5 ⟨rfl, hs_⟩; subst hs_)
            | fail)
        all_goals
          go_split_ands
          go_wp2
          go_roundw
          case rel => exact ⟨2, by go_num, by omega, by repeat (first | (with_reducible exact HR.out.bel) | (with_reducible refine pw_below_drewN ?_ _) | (with_reducible refine below_drew ?_))⟩
          case measure => simp [intOf]
      · obtain ⟨y0, y1, y2, y3, y4, y5, D1, er, s2, hD, hp, hq⟩ := endBoth b HBB.out s
        have HP := Aside0.mk hp
        have HQ := Aside0.mk hq
        have HDL := Aside0.mk hD
        clear hp hq hD
        obtain ⟨a2, e2⟩ := s2
        go_upto_region 22 with (first
          | (go_at_call 30; (with_reducible refine (cur_open _ A0 c0 b (Kd.C_below HC.out HBW.out) HN.out (by have h9 := HL.out; omega)).mono ?_); rintro r w2 ⟨g1, v1, rfl, hcur, hb2⟩; have HBX : Aside0 (Below w.heap.size w w2) := ⟨below_step HBW.out hb2⟩; have HSZ := Aside0.mk HBW.out.size; have HA : Aside0 (CS (w2.alloc (.cells #[.slice A0 b.length c0, .int .i64 0, .int .i64 0] 67)) wr.heap.size g1 v1 b (0, 0)) := ⟨CS.below hcur (below_alloc (Below.refl _ _) _)⟩; have HR : Aside0 (RS0 w (w2.alloc (.cells #[.slice A0 b.length c0, .int .i64 0, .int .i64 0] 67)) w2.heap.size A0 c0 b (0, 0)) := ⟨⟨heap_alloc_new w2 _, HBX.out.size, HC.out, HCC.out, below_alloc HBX.out _, Nat.zero_le _, by have h9 := HL.out; omega⟩⟩; clear hcur hb2)
          | (go_at_call 31; (with_reducible refine (HBY.out _ _ _ _ HA.out).mono ?_); rintro r w3 ⟨A8, c8, rfl, ho, hc, hk⟩; replace HR := Aside0.mk (HR.out.beside HA.out HSZ.out hk); replace HA := Aside0.mk hc; clear ho hc hk)
          | (go_at_call 32; (with_reducible refine (HTK.out _ _ HR.out).mono ?_); rintro r w4 ⟨A9, c9, rfl, ho, hr, hk⟩; replace HA := Aside0.mk (HA.out.beside HR.out hk); replace HR := Aside0.mk hr; clear ho hr hk)
          | (go_at_call 25; (with_reducible refine (HP.out _ _ _ _ HA.out).mono ?_); rintro r w5 ⟨A1, c1, ⟨rfl, hc, hk⟩, e1⟩; replace HR := Aside0.mk (HR.out.beside HA.out HSZ.out hk); replace HA := Aside0.mk hc; have RP1 := Aside0.mk e1; clear hc hk e1)
          | ((with_reducible refine gate_store (t := 29) (p := 17) (v := .tmp 46) rfl ?_); refine wpList_store_mid rfl 29 (.tmp 17) (.tmp 46) rfl w5.heap.size 0 #[.int .i64 y0, .int .i64 y1, .int .i64 y2, .int .i64 y3, .int .u32 y4, .int .u32 y5, .slice A1 D1.length c1] rfl rfl (there_of (heap_alloc_new w5 _) _ (by simp)) (by kernel_rfl) (by simp [Value.oneCell']) ?_; refine wpl_gen (fun W => Below w5.heap.size w5 W ∧ W.heap[w5.heap.size]? = some (.cells #[.int .i64 y0, .int .i64 y1, .int .i64 y2, .int .i64 y3, .int .u32 y4, .int .u32 y5, .slice A1 D1.length c1] 29 (0, 0))) ⟨below_setCells (below_alloc (Below.refl _ _) _) (Nat.le_refl _) _, blk_putall (heap_alloc_new w5 _) rfl⟩ ?_; rintro w6 ⟨hb, hx⟩; have HX1 := Aside0.mk hx; replace HA := Aside0.mk (HA.out.below hb); replace HR := Aside0.mk (RAt.below HR.out hb); replace RP1 := Aside0.mk (RP1.out.bel hb); clear hb hx)
          | (go_at_call 35; (with_reducible refine (HQ.out _ _ _ _ _ HR.out).mono ?_); rintro r w7 ⟨A11, c11, ⟨rfl, hc, hk⟩, e1⟩; replace HA := Aside0.mk (HA.out.beside HR.out hk); replace HX1 := Aside0.mk (blk_rcur HX1.out (by decide) HR.out hk); replace RP1 := Aside0.mk (RP1.out.kept HR.out.blk hk); replace HR := Aside0.mk hc; have RQ1 := Aside0.mk e1; clear hc hk e1)
          | ((with_reducible refine gate_store (t := 29) (p := 19) (v := .tmp 51) rfl ?_); refine wpList_store_mid rfl 29 (.tmp 19) (.tmp 51) rfl w7.heap.size 0 #[.int .i64 y0, .int .i64 y1, .int .i64 y2, .int .i64 y3, .int .u32 y4, .int .u32 y5, .slice A11 D1.length c11] rfl rfl (there_of (heap_alloc_new w7 _) _ (by simp)) (by kernel_rfl) (by simp [Value.oneCell']) ?_; refine wpl_gen (fun W => Below w7.heap.size w7 W ∧ W.heap[w7.heap.size]? = some (.cells #[.int .i64 y0, .int .i64 y1, .int .i64 y2, .int .i64 y3, .int .u32 y4, .int .u32 y5, .slice A11 D1.length c11] 29 (0, 0))) ⟨below_setCells (below_alloc (Below.refl _ _) _) (Nat.le_refl _) _, blk_putall (heap_alloc_new w7 _) rfl⟩ ?_; rintro w8 ⟨hb, hx⟩; have HX2 := Aside0.mk hx; replace HX1 := Aside0.mk (blk_below HX1.out hb); replace HA := Aside0.mk (HA.out.below hb); replace HR := Aside0.mk (RAt.below HR.out hb); replace RP1 := Aside0.mk (RP1.out.bel hb); replace RQ1 := Aside0.mk (RQ1.out.bel hb); clear hb hx)
          | ((with_reducible refine gate_dst (N := 53) rfl ?_); refine wpList_load_row rfl 29 (.tmp 17) rfl w5.heap.size rfl 29 _ (0, 0) _ HX1.out Try.underlying29 rfl (by kernel_rfl) ?_)
          | ((with_reducible refine gate_dst (N := 54) rfl ?_); refine wpList_load_row rfl 29 (.tmp 19) rfl w7.heap.size rfl 29 _ (0, 0) _ HX2.out Try.underlying29 rfl (by kernel_rfl) ?_)
          | (go_at_call 28; (with_reducible refine (sm_SameEnd _ y0 y1 y2 y3 y4 y5 A1 c1 A11 c11 D1 RP1.out RQ1.out (Nat.le_trans HDL.out HL.out)).mono ?_); rintro r w9 ⟨rfl, hb⟩; replace HA := Aside0.mk (HA.out.below hb); replace HR := Aside0.mk (RAt.below HR.out hb); clear hb)
          | fail)
        have hg1 : w9.cell? ⟨w2.heap.size, 1, none⟩ = some (.int .i64 (a2 : Int)) := (blk_cell HR.out.blk 1).trans rfl
        have hg2 : w9.cell? ⟨w2.heap.size, 2, none⟩ = some (.int .i64 e2) := (blk_cell HR.out.blk 2).trans rfl
        have HZ : Aside0 (CurAt w9 wr.heap.size g1 v1 b a2 e2) := ⟨HA.out⟩
        go_wp2_with fail
        go_region_held3 (fun w' => w'.cell? ⟨w2.heap.size, 1, none⟩ = some (.int .i64 (a2 : Int)) ∧ w'.cell? ⟨w2.heap.size, 2, none⟩ = some (.int .i64 e2))
          (((try dsimp only); (repeat' apply And.intro); (all_goals (first | exact hg1 | exact hg2 | go_keep | assumption))))
          (first
            | (go_at_call 36; refine (cur_at _ wr.heap.size g1 v1 b a2 e2 (by repeat (with_reducible first | exact HZ.out | refine CurAt.drew ?_ | refine CurAt.drewN ?_ _))).mono ?_; rintro r w5 ⟨rfl, hs_⟩; subst hs_)
            | (go_at_call 37; refine (cur_err _ wr.heap.size g1 v1 b a2 e2 (by repeat (with_reducible first | exact HZ.out | refine CurAt.drew ?_ | refine CurAt.drewN ?_ _))).mono ?_; rintro r w5 ⟨rfl, hs_⟩; subst hs_)
            | fail)
        all_goals
          go_split_ands
          go_wp2
          go_roundw
          case rel => exact ⟨3, by go_num, by omega, by repeat (first | (with_reducible exact HR.out.bel) | (with_reducible refine pw_below_drewN ?_ _) | (with_reducible refine below_drew ?_))⟩
          case measure => simp [intOf]
    · obtain rfl : k = 3 := by omega
      go_wp2_with (go_at_call 12; refine (lives_now _).mono ?_; rintro r w9 ⟨rfl, hb⟩; have HBZ := Aside0.mk (below_step HBW.out hb); clear hb)
      go_ret
      exact ⟨rfl, HBZ.out⟩
end Go.Proofs.Ytpmiofjhgmdghaa.Fld
