/- record: the reference's ReadLocal, walked. -/
import Derived.Test.YtpmiofjhgmdghaaRecRefP
import Derived.Test.YtpmiofjhgmdghaaRecRead4
namespace Go.Proofs.Ytpmiofjhgmdghaa.Fld
open Go.RowKit Go.Proofs.YtpmiofjhgmdghaaW.PrintWords Go.Proofs.YtpmiofjhgmdghaaW.PrintLast Go.Proofs.YtpmiofjhgmdghaaW.PrintMore
set_option linter.unusedVariables false
set_option linter.unusedSimpArgs false
/-- a result's box beside the reference's cursor -/
structure HR (w0 w W : World) (g : Nat) (A : Option Addr) (c : Nat) (b : List Int) (s : Sta) (t : Nat) (C : Array Value) : Prop where
  rs : RS0 w0 W g A c b s
  r2 : W.heap[w.heap.size]? = some (.cells C t (0, 0))
  kk : Kept w W (fun k => k = g)
  gl : g < w.heap.size
  bb : w0.heap.size ≤ w.heap.size
section
variable {w0 w W W' : World} {g : Nat} {A : Option Addr} {c : Nat} {b : List Int} {s s' : Sta} {t : Nat} {C : Array Value}
theorem HR.start (h : RS0 w0 w g A c b s) (C : Array Value) (t : Nat) : HR w0 w (w.alloc (.cells C t)) g A c b s t C :=
  ⟨RAt.below h (below_alloc (Below.refl _ _) _), heap_alloc_new w _, (Kept.refl w _).alloc _, blk_lt h.blk, h.bel.size⟩
theorem HR.op (h : HR w0 w W g A c b s t C) (hc : RS0 w0 W' g A c b s') (hk : Kept W W' (fun k => k = g)) (ht : t ≠ 67 := by decide) : HR w0 w W' g A c b s' t C :=
  ⟨hc, blk_rcur h.r2 ht h.rs hk, h.kk.then_ hk (fun _ hk => .inl hk), h.gl, h.bb⟩
theorem HR.bel (h : HR w0 w W g A c b s t C) (hb : Below W.heap.size W W') : HR w0 w W' g A c b s t C :=
  ⟨RAt.below h.rs hb, blk_below h.r2 hb, h.kk.below hb, h.gl, h.bb⟩
theorem HR.drew (h : HR w0 w W g A c b s t C) : HR w0 w W.drew g A c b s t C := h.bel (below_drew (Below.refl _ _))
/-- another block, made since, is written -/
theorem HR.far (h : HR w0 w W g A c b s t C) {bx : Nat} (hb : w.heap.size < bx) (j : Nat) (u : Value) : HR w0 w (W.setCell ⟨bx, j, none⟩ u) g A c b s t C := by
  have hg := h.gl
  refine ⟨⟨blk_far h.rs.blk (by show g ≠ bx; omega) u, h.rs.ge, h.rs.C, h.rs.cap, h.rs.bel.setCell (by show w0.heap.size ≤ bx; have := h.bb; omega) u, h.rs.le, h.rs.len⟩, blk_far h.r2 (by show w.heap.size ≠ bx; omega) u, h.kk.setCell (p := ⟨bx, j, none⟩) (.inr (Nat.le_of_lt hb)) u, hg, h.bb⟩
theorem HR.set (h : HR w0 w W g A c b s t C) (j : Nat) (u : Value) : HR w0 w (W.setCell ⟨w.heap.size, j, none⟩ u) g A c b s t (C.setIfInBounds j u) := by
  have hg := h.gl
  refine ⟨⟨blk_far h.rs.blk (by show g ≠ w.heap.size; omega) u, h.rs.ge, h.rs.C, h.rs.cap, h.rs.bel.setCell h.bb u, h.rs.le, h.rs.len⟩, blk_set h.r2 j u, h.kk.setCell (p := ⟨w.heap.size, j, none⟩) (.inr (Nat.le_refl _)) u, hg, h.bb⟩
theorem HR.put (h : HR w0 w W g A c b s t C) (D : Array Value) (hs : D.size = C.size) : HR w0 w (W.setCells w.heap.size 0 D.toList) g A c b s t D := by
  have hg := h.gl
  have hbl : Below w.heap.size W (W.setCells w.heap.size 0 D.toList) := below_setCells (Below.refl _ _) (Nat.le_refl _) _
  exact ⟨⟨(setCells_far _ 0 _ (by omega)).trans h.rs.blk, h.rs.ge, h.rs.C, h.rs.cap, h.rs.bel.trans (hbl.mono h.bb), h.rs.le, h.rs.len⟩, blk_putall h.r2 hs, ⟨Nat.le_trans h.kk.1 hbl.size, fun k hk hn => (hbl.block k hk).trans (h.kk.2 k hk hn)⟩, hg, h.bb⟩
theorem HR.fill7 {c0 c1 c2 c3 c4 c5 c6 : Value} (h : HR w0 w W g A c b s t #[c0, c1, c2, c3, c4, c5, c6]) (u0 u1 u2 u3 u4 u5 u6 : Value) : HR w0 w (((((((W.setCell ⟨w.heap.size, 0, none⟩ u0).setCell ⟨w.heap.size, 1, none⟩ u1).setCell ⟨w.heap.size, 2, none⟩ u2).setCell ⟨w.heap.size, 3, none⟩ u3).setCell ⟨w.heap.size, 4, none⟩ u4).setCell ⟨w.heap.size, 5, none⟩ u5).setCell ⟨w.heap.size, 6, none⟩ u6) g A c b s t #[u0, u1, u2, u3, u4, u5, u6] := by
  have hc := (((((((h.set 0 u0).set 1 u1).set 2 u2).set 3 u3).set 4 u4).set 5 u5).set 6 u6)
  simp only [List.setIfInBounds_toArray, List.set_cons_zero, List.set_cons_succ] at hc
  exact hc
theorem HR.fill10 {c0 c1 c2 c3 c4 c5 c6 c7 c8 c9 : Value} (h : HR w0 w W g A c b s t #[c0, c1, c2, c3, c4, c5, c6, c7, c8, c9]) (u0 u1 u2 u3 u4 u5 u6 u7 u8 u9 : Value) : HR w0 w ((((((((((W.setCell ⟨w.heap.size, 0, none⟩ u0).setCell ⟨w.heap.size, 1, none⟩ u1).setCell ⟨w.heap.size, 2, none⟩ u2).setCell ⟨w.heap.size, 3, none⟩ u3).setCell ⟨w.heap.size, 4, none⟩ u4).setCell ⟨w.heap.size, 5, none⟩ u5).setCell ⟨w.heap.size, 6, none⟩ u6).setCell ⟨w.heap.size, 7, none⟩ u7).setCell ⟨w.heap.size, 8, none⟩ u8).setCell ⟨w.heap.size, 9, none⟩ u9) g A c b s t #[u0, u1, u2, u3, u4, u5, u6, u7, u8, u9] := by
  have hc := ((((((((((h.set 0 u0).set 1 u1).set 2 u2).set 3 u3).set 4 u4).set 5 u5).set 6 u6).set 7 u7).set 8 u8).set 9 u9)
  simp only [List.setIfInBounds_toArray, List.set_cons_zero, List.set_cons_succ] at hc
  exact hc
theorem HR.fill16 {c0 c1 c2 c3 c4 c5 c6 c7 c8 c9 c10 c11 c12 c13 c14 c15 : Value} (h : HR w0 w W g A c b s t #[c0, c1, c2, c3, c4, c5, c6, c7, c8, c9, c10, c11, c12, c13, c14, c15]) (u0 u1 u2 u3 u4 u5 u6 u7 u8 u9 u10 u11 u12 u13 u14 u15 : Value) : HR w0 w ((((((((((((((((W.setCell ⟨w.heap.size, 0, none⟩ u0).setCell ⟨w.heap.size, 1, none⟩ u1).setCell ⟨w.heap.size, 2, none⟩ u2).setCell ⟨w.heap.size, 3, none⟩ u3).setCell ⟨w.heap.size, 4, none⟩ u4).setCell ⟨w.heap.size, 5, none⟩ u5).setCell ⟨w.heap.size, 6, none⟩ u6).setCell ⟨w.heap.size, 7, none⟩ u7).setCell ⟨w.heap.size, 8, none⟩ u8).setCell ⟨w.heap.size, 9, none⟩ u9).setCell ⟨w.heap.size, 10, none⟩ u10).setCell ⟨w.heap.size, 11, none⟩ u11).setCell ⟨w.heap.size, 12, none⟩ u12).setCell ⟨w.heap.size, 13, none⟩ u13).setCell ⟨w.heap.size, 14, none⟩ u14).setCell ⟨w.heap.size, 15, none⟩ u15) g A c b s t #[u0, u1, u2, u3, u4, u5, u6, u7, u8, u9, u10, u11, u12, u13, u14, u15] := by
  have hc := ((((((((((((((((h.set 0 u0).set 1 u1).set 2 u2).set 3 u3).set 4 u4).set 5 u5).set 6 u6).set 7 u7).set 8 u8).set 9 u9).set 10 u10).set 11 u11).set 12 u12).set 13 u13).set 14 u14).set 15 u15)
  simp only [List.setIfInBounds_toArray, List.set_cons_zero, List.set_cons_succ] at hc
  exact hc
end
def RfPost (w0 w : World) (g : Nat) (A : Option Addr) (c : Nat) (b : List Int) (s : Sta) (C : Array Value) (e : Int) (r : Ending) (w' : World) : Prop :=
  r = .returned (.tuple #[.agg C, .int .i64 e]) ∧ RS0 w0 w' g A c b s ∧ Kept w w' (fun k => k = g)
theorem own_Rd {w : World} {base : Nat} {A : Option Addr} {l : List Int} {c : Nat} (h : w.ownsRow base 5 1 (.slice A l.length c) l.length (nums .u8 l)) : Rd w A l c := Rd.own h
set_option maxHeartbeats 8000000 in
set_option maxRecDepth 100000 in
theorem ref_readLocal_sign (w0 w : World) (g : Nat) (A : Option Addr) (c : Nat) (b : List Int) (s : Sta) (h : RS0 w0 w g A c b s) (hb : ∀ x ∈ b, 0 ≤ x ∧ x ≤ 255) (E : Int) (hE : sgE b s 67324752 = E) (he : E ≠ 0) :
    Calls Try.prog 33 #[.pointer (some ⟨g, 0, none⟩)] w (RfPost w0 w g A c b (rA b s 4) #[.int .i64 0, .int .i64 0, .int .i64 0, .int .i64 0, .int .i64 0, .int .u32 0, .int .u32 0, .int .u32 0, .slice none 0 0, .slice none 0 0] E) := by
  have HH : Aside0 (HR w0 w (w.alloc (.cells #[.int .i64 0, .int .i64 0, .int .i64 0, .int .i64 0, .int .i64 0, .int .u32 0, .int .u32 0, .int .u32 0, .slice none 0 0, .slice none 0 0] 37)) g A c b s 37 #[.int .i64 0, .int .i64 0, .int .i64 0, .int .i64 0, .int .i64 0, .int .u32 0, .int .u32 0, .int .u32 0, .slice none 0 0, .slice none 0 0]) := ⟨HR.start h _ _⟩
  have HSG : Aside0 (∀ W, RS0 w0 W g A c b s → Calls Try.prog 58 #[.pointer (some ⟨g, 0, none⟩), .int .u32 67324752] W (SgPost w0 W g A c b (rA b s 4) E)) := ⟨fun W hW => hE ▸ ref_sign w0 W g A c b s 67324752 hW hb⟩
  have c1 : decide (E = 0) = false := decide_eq_false he
  have c2 : (E == 0) = false := beq_eq_false_iff_ne.mpr he
  have c3 : (E != 0) = true := by simp [he]
  clear h hb hE he
  go_enter Try.func33, Try.ntmps33
  go_wp2_with (go_at_call 58; (with_reducible refine (HSG.out _ HH.out.rs).mono ?_); rintro r w9 ⟨rfl, hc, hk⟩; replace HH := Aside0.mk (HH.out.op hc hk); clear hc hk; have hp0 : w9.cell? ⟨w.heap.size, 0, none⟩ = some (.int .i64 0) := (blk_cell HH.out.r2 0).trans rfl; have fp0 : w9.frozen? ⟨w.heap.size, 0, none⟩ = false := blk_frozen HH.out.r2 0; have hp1 : w9.cell? ⟨w.heap.size, 1, none⟩ = some (.int .i64 0) := (blk_cell HH.out.r2 1).trans rfl; have fp1 : w9.frozen? ⟨w.heap.size, 1, none⟩ = false := blk_frozen HH.out.r2 1; have hp2 : w9.cell? ⟨w.heap.size, 2, none⟩ = some (.int .i64 0) := (blk_cell HH.out.r2 2).trans rfl; have fp2 : w9.frozen? ⟨w.heap.size, 2, none⟩ = false := blk_frozen HH.out.r2 2; have hp3 : w9.cell? ⟨w.heap.size, 3, none⟩ = some (.int .i64 0) := (blk_cell HH.out.r2 3).trans rfl; have fp3 : w9.frozen? ⟨w.heap.size, 3, none⟩ = false := blk_frozen HH.out.r2 3; have hp4 : w9.cell? ⟨w.heap.size, 4, none⟩ = some (.int .i64 0) := (blk_cell HH.out.r2 4).trans rfl; have fp4 : w9.frozen? ⟨w.heap.size, 4, none⟩ = false := blk_frozen HH.out.r2 4; have hp5 : w9.cell? ⟨w.heap.size, 5, none⟩ = some (.int .u32 0) := (blk_cell HH.out.r2 5).trans rfl; have fp5 : w9.frozen? ⟨w.heap.size, 5, none⟩ = false := blk_frozen HH.out.r2 5; have hp6 : w9.cell? ⟨w.heap.size, 6, none⟩ = some (.int .u32 0) := (blk_cell HH.out.r2 6).trans rfl; have fp6 : w9.frozen? ⟨w.heap.size, 6, none⟩ = false := blk_frozen HH.out.r2 6; have hp7 : w9.cell? ⟨w.heap.size, 7, none⟩ = some (.int .u32 0) := (blk_cell HH.out.r2 7).trans rfl; have fp7 : w9.frozen? ⟨w.heap.size, 7, none⟩ = false := blk_frozen HH.out.r2 7; have hp8 : w9.cell? ⟨w.heap.size, 8, none⟩ = some (.slice none 0 0) := (blk_cell HH.out.r2 8).trans rfl; have fp8 : w9.frozen? ⟨w.heap.size, 8, none⟩ = false := blk_frozen HH.out.r2 8; have hp9 : w9.cell? ⟨w.heap.size, 9, none⟩ = some (.slice none 0 0) := (blk_cell HH.out.r2 9).trans rfl; have fp9 : w9.frozen? ⟨w.heap.size, 9, none⟩ = false := blk_frozen HH.out.r2 9)
  replace HH := Aside0.mk (HH.out.fill10 (.int .i64 0) (.int .i64 0) (.int .i64 0) (.int .i64 0) (.int .i64 0) (.int .u32 0) (.int .u32 0) (.int .u32 0) (.slice none 0 0) (.slice none 0 0))
  refine bodyPost_ret (results_ct rfl _ _ w.heap.size 37 _ (0, 0) _ rfl HH.out.r2 Try.underlying37 rfl (by kernel_rfl)) rfl ?_
  exact ⟨rfl, HH.out.rs, HH.out.kk⟩
set_option maxHeartbeats 8000000 in
set_option maxRecDepth 100000 in
theorem ref_readLocal_err (w0 w : World) (g : Nat) (A : Option Addr) (c : Nat) (b : List Int) (s : Sta) (h : RS0 w0 w g A c b s) (hb : ∀ x ∈ b, 0 ≤ x ∧ x ≤ 255) (hE : sgE b s 67324752 = 0) (q0 q1 q2 q3 q4 q5 q6 q7 q8 q9 q10 t1 t2 : Sta) (x1 x2 x3 x4 x5 x6 x7 x8 x9 x10 : Int) (hs1 : rA b s 4 = q0) (e1 : rA b q0 2 = q1) (v1 : rV b q0 2 = x1) (e2 : rA b q1 2 = q2) (v2 : rV b q1 2 = x2) (e3 : rA b q2 2 = q3) (v3 : rV b q2 2 = x3) (e4 : rA b q3 2 = q4) (v4 : rV b q3 2 = x4) (e5 : rA b q4 2 = q5) (v5 : rV b q4 2 = x5) (e6 : rA b q5 4 = q6) (v6 : rV b q5 4 = x6) (e7 : rA b q6 4 = q7) (v7 : rV b q6 4 = x7) (e8 : rA b q7 4 = q8) (v8 : rV b q7 4 = x8) (e9 : rA b q8 2 = q9) (v9 : rV b q8 2 = x9) (e10 : rA b q9 2 = q10) (v10 : rV b q9 2 = x10) (D1 D2 : List Int) (k1 : rL b q10 x9 = D1) (j1 : rA b q10 x9 = t1) (k2 : rL b t1 x10 = D2) (j2 : rA b t1 x10 = t2) (EZ : Int) (h5 : t2.2 = EZ) (he : EZ ≠ 0) :
    Calls Try.prog 33 #[.pointer (some ⟨g, 0, none⟩)] w (RfPost w0 w g A c b t2 #[.int .i64 0, .int .i64 0, .int .i64 0, .int .i64 0, .int .i64 0, .int .u32 0, .int .u32 0, .int .u32 0, .slice none 0 0, .slice none 0 0] EZ) := by
  have HH : Aside0 (HR w0 w (w.alloc (.cells #[.int .i64 0, .int .i64 0, .int .i64 0, .int .i64 0, .int .i64 0, .int .u32 0, .int .u32 0, .int .u32 0, .slice none 0 0, .slice none 0 0] 37)) g A c b s 37 #[.int .i64 0, .int .i64 0, .int .i64 0, .int .i64 0, .int .i64 0, .int .u32 0, .int .u32 0, .int .u32 0, .slice none 0 0, .slice none 0 0]) := ⟨HR.start h _ _⟩
  have HSG : Aside0 (∀ W, RS0 w0 W g A c b s → Calls Try.prog 58 #[.pointer (some ⟨g, 0, none⟩), .int .u32 67324752] W (SgPost w0 W g A c b q0 0)) := ⟨fun W hW => by have h9 := ref_sign w0 W g A c b s 67324752 hW hb; rw [hs1, hE] at h9; exact h9⟩
  have hP := loP hb e1 v1 e2 v2 e3 v3 e4 v4 e5 v5 e6 v6 e7 v7 e8 v8 e9 v9 e10 v10
  obtain ⟨D, hD⟩ : ∃ D, (tkN b q0 [2, 2, 2, 2, 2, 4, 4, 4, 2, 2] 10).1 = D := ⟨_, rfl⟩
  have HTK : Aside0 (∀ W base A1 c1, RS0 w0 W g A c b q0 → W.ownsRow base 3 1 (.slice A1 10 c1) 10 (nums .i64 [2, 2, 2, 2, 2, 4, 4, 4, 2, 2]) → Calls Try.prog 59 #[.pointer (some ⟨g, 0, none⟩), .slice A1 10 c1] W (fun r w' => ∃ A5 c5, r = .returned (.slice A5 D.length c5) ∧ w'.ownsRow W.heap.size 5 1 (.slice A5 D.length c5) D.length (nums .u8 D) ∧ RS0 w0 w' g A c b q10 ∧ Kept W w' (fun k => k = g))) := ⟨fun W base A1 c1 hW hz => by
    have h9 := ref_take w0 W g A c b q0 [2, 2, 2, 2, 2, 4, 4, 4, 2, 2] A1 c1 base hW hz (by simp)
    rw [show ([2, 2, 2, 2, 2, 4, 4, 4, 2, 2] : List Int).length = 10 from rfl, hD, hP.1] at h9
    exact h9⟩
  have HB1 : Aside0 (∀ W, RS0 w0 W g A c b q10 → Calls Try.prog 32 #[.pointer (some ⟨g, 0, none⟩), .int .i64 x9] W (fun r w' => ∃ A1 c1, r = .returned (.slice A1 D1.length c1) ∧ w'.ownsRow W.heap.size 5 1 (.slice A1 D1.length c1) D1.length (nums .u8 D1) ∧ RS0 w0 w' g A c b t1 ∧ Kept W w' (fun k => k = g))) := ⟨fun W hW => k1 ▸ j1 ▸ rs_take hW x9⟩
  have HB2 : Aside0 (∀ W, RS0 w0 W g A c b t1 → Calls Try.prog 32 #[.pointer (some ⟨g, 0, none⟩), .int .i64 x10] W (fun r w' => ∃ A1 c1, r = .returned (.slice A1 D2.length c1) ∧ w'.ownsRow W.heap.size 5 1 (.slice A1 D2.length c1) D2.length (nums .u8 D2) ∧ RS0 w0 w' g A c b t2 ∧ Kept W w' (fun k => k = g))) := ⟨fun W hW => k2 ▸ j2 ▸ rs_take hW x10⟩
  have HST : Aside0 (q10.2 ≠ 0 → t2 = q10) := ⟨fun h => by
    have g1 : t1 = q10 := by rw [← j1]; exact rA_stuck h
    have g2 : t2 = q10 := by rw [← j2, g1]; exact rA_stuck h
    exact g2⟩
  have HPP := Aside0.mk hP.2
  rw [hD] at HPP
  have HE2 := Aside0.mk h5
  clear h hb hE hs1 hP hD h5 e1 v1 e2 v2 e3 v3 e4 v4 e5 v5 e6 v6 e7 v7 e8 v8 e9 v9 e10 v10 k1 j1 k2 j2
  have c1 : decide (EZ = 0) = false := decide_eq_false he
  have c2 : (EZ == 0) = false := beq_eq_false_iff_ne.mpr he
  have c3 : (EZ != 0) = true := by simp [he]
  have HNE := Aside0.mk he
  clear he
  obtain ⟨aH, eH⟩ := q10
  go_enter Try.func33, Try.ntmps33
  go_upto_if 20 with (first
    | (go_at_call 58; (with_reducible refine (HSG.out _ HH.out.rs).mono ?_); rintro r w9 ⟨rfl, hc, hk⟩; replace HH := Aside0.mk (HH.out.op hc hk); clear hc hk)
    | ((with_reducible refine gate_dst (N := 14) rfl ?_); (try (refine gate_guard (by rfl) ?_; dsimp only)); refine Kd.R_lit (Kd.int .i64) _ 3 ?hg (N := 14) ?hd (xs := ([2, 2, 2, 2, 2, 4, 4, 4, 2, 2] : List Int)) (inner := [.int .i64 2, .int .i64 2, .int .i64 2, .int .i64 2, .int .i64 2, .int .i64 4, .int .i64 4, .int .i64 4, .int .i64 2, .int .i64 2]) (ok := fun _ => True) (okp := fun _ => True) ?hr ?hp (fun _ hk => hk) trivial (Below.refl _ _) (Nat.le_refl _) (by simp) ?_; (case hd => rfl); (case hg => rfl); (case hr => first | (go_simp; done) | (go_simp; rfl)); (case hp => exact (Reps.one (show Kd.M (Kd.int .i64) _ _ _ 2 [.int .i64 2] from rfl) (Reps.one (show Kd.M (Kd.int .i64) _ _ _ 2 [.int .i64 2] from rfl) (Reps.one (show Kd.M (Kd.int .i64) _ _ _ 2 [.int .i64 2] from rfl) (Reps.one (show Kd.M (Kd.int .i64) _ _ _ 2 [.int .i64 2] from rfl) (Reps.one (show Kd.M (Kd.int .i64) _ _ _ 2 [.int .i64 2] from rfl) (Reps.one (show Kd.M (Kd.int .i64) _ _ _ 4 [.int .i64 4] from rfl) (Reps.one (show Kd.M (Kd.int .i64) _ _ _ 4 [.int .i64 4] from rfl) (Reps.one (show Kd.M (Kd.int .i64) _ _ _ 4 [.int .i64 4] from rfl) (Reps.one (show Kd.M (Kd.int .i64) _ _ _ 2 [.int .i64 2] from rfl) (Reps.one (show Kd.M (Kd.int .i64) _ _ _ 2 [.int .i64 2] from rfl) (Reps.none _ _)))))))))))); intro v1 w1 ho hb hg_ hnew_; have HZ := Aside0.mk (Kd.own_of_R ho); obtain ⟨A1, c1, rfl⟩ := own_slice HZ.out; replace HH := Aside0.mk (HH.out.bel hb); clear ho hb hg_ hnew_)
    | (go_at_call 59; (with_reducible refine (HTK.out _ _ _ _ HH.out.rs HZ.out).mono ?_); rintro r w9 ⟨A5, c5, rfl, ho, hc, hk⟩; have HOD := Aside0.mk (own_weaken ho HH.out.kk.1); replace HH := Aside0.mk (HH.out.op hc hk); have ce : w9.cell? ⟨g, 2, none⟩ = some (.int .i64 eH) := (blk_cell hc.blk 2).trans rfl; clear ho hc hk)
    | fail)
  by_cases heH : eH = 0
  · subst heH
    obtain ⟨D0, hD0, hDl, hDb, r0, r1, r2⟩ := HPP.out rfl
    subst hD0
    clear HPP
    have HHD : Aside0 (∀ W, Rd W A5 D c5 → Calls Try.prog 60 #[.slice A5 D.length c5] W (fun r w' => ∃ v8_ v9_ : Value, r = .returned (.agg #[.int .i64 x1, .int .i64 x2, .int .i64 x3, .int .i64 x4, .int .i64 x5, .int .u32 x6, .int .u32 x7, .int .u32 x8, v8_, v9_]) ∧ Kd.R (Kd.int .u8) 5 w' W.heap.size (fun k_ => some k_ ≠ (v9_ : Value).ownBlock) v8_ [] ∧ Kd.R (Kd.int .u8) 5 w' W.heap.size (fun k_ => some k_ ≠ (v8_ : Value).ownBlock) v9_ [] ∧ Below W.heap.size W w')) := ⟨fun W hW => Go.Proofs.Ytpmiofjhgmdghaa.RQ.duffelref24_head.calls 10 A5 c5 D x1 x2 x3 x4 x5 x6 x7 x8 [] [] W hW.1 hW.2 r0⟩
    have HA1 : Aside0 (∀ W, Rd W A5 D c5 → Calls Try.prog 41 #[.slice A5 D.length c5, .int .i64 22] W (fun r w' => r = .returned (.int .i64 x9) ∧ Drawn0 W w')) := ⟨fun W hW => Go.Proofs.Ytpmiofjhgmdghaa.RQ.duffelref24_at.calls 10 A5 c5 D 22 x9 W hW.1 hW.2 r1⟩
    have HA2 : Aside0 (∀ W, Rd W A5 D c5 → Calls Try.prog 41 #[.slice A5 D.length c5, .int .i64 24] W (fun r w' => r = .returned (.int .i64 x10) ∧ Drawn0 W w')) := ⟨fun W hW => Go.Proofs.Ytpmiofjhgmdghaa.RQ.duffelref24_at.calls 10 A5 c5 D 24 x10 W hW.1 hW.2 r2⟩
    clear r0 r1 r2 hDb hDl
    go_upto_region 8 with (first
      | (go_at_call 60; (with_reducible refine (HHD.out _ (own_Rd HOD.out)).mono ?_); rintro r w8 ⟨m8, m9, rfl, hr8, hr9, hb⟩; obtain ⟨M8, N8, rfl⟩ := own_slice (Kd.own_of_R hr8); obtain ⟨M9, N9, rfl⟩ := own_slice (Kd.own_of_R hr9); replace HH := Aside0.mk (HH.out.bel hb); replace HOD := Aside0.mk (pw_own_below HOD.out hb); clear hr8 hr9 hb ce)
      | ((with_reducible refine gate_store (t := 37) (p := 6) (v := .tmp 27) rfl ?_); refine wpList_store_mid rfl 37 (.tmp 6) (.tmp 27) rfl w8.heap.size 0 #[.int .i64 x1, .int .i64 x2, .int .i64 x3, .int .i64 x4, .int .i64 x5, .int .u32 x6, .int .u32 x7, .int .u32 x8, .slice M8 ([] : List Int).length N8, .slice M9 ([] : List Int).length N9] rfl rfl (there_of (heap_alloc_new w8 _) _ (by simp)) (by kernel_rfl) (by simp [Value.oneCell']) ?_; refine wpl_gen (fun W => Below w8.heap.size w8 W ∧ W.heap[w8.heap.size]? = some (.cells #[.int .i64 x1, .int .i64 x2, .int .i64 x3, .int .i64 x4, .int .i64 x5, .int .u32 x6, .int .u32 x7, .int .u32 x8, .slice M8 ([] : List Int).length N8, .slice M9 ([] : List Int).length N9] 37 (0, 0))) ⟨below_setCells (below_alloc (Below.refl _ _) _) (Nat.le_refl _) _, blk_putall (heap_alloc_new w8 _) rfl⟩ ?_; rintro w5 ⟨hb5, hx5⟩; have HX := Aside0.mk hx5; have HLT := Aside0.mk (blk_lt HH.out.r2); replace HH := Aside0.mk (HH.out.bel hb5); replace HOD := Aside0.mk (pw_own_below HOD.out hb5); clear hb5 hx5)
      | fail)
    obtain ⟨bx, hbx⟩ : ∃ bx, w8.heap.size = bx := ⟨_, rfl⟩
    rw [hbx] at HX HLT
    try rw [hbx]
    clear hbx
    go_upto_region 9 with (first
      | (go_at_call 41; (with_reducible refine (HA1.out _ (own_Rd HOD.out)).mono ?_); rintro r w7 ⟨rfl, nd, rfl⟩; replace HH := Aside0.mk (HH.out.bel (pw_below_drewN (Below.refl _ _) nd)); replace HOD := Aside0.mk (pw_own_below HOD.out (pw_below_drewN (Below.refl _ _) nd)); replace HX := Aside0.mk (blk_drewN HX.out nd))
      | (go_at_call 32; (with_reducible refine (HB1.out _ HH.out.rs).mono ?_); rintro r w6 ⟨B1, f1, rfl, ho, hc, hk⟩; replace HX := Aside0.mk (blk_rcur HX.out (by decide) HH.out.rs hk); replace HOD := Aside0.mk (own_rcur HOD.out (by decide) HH.out.rs hk);  have HO1 := Aside0.mk (own_weaken ho HH.out.kk.1); replace HH := Aside0.mk (HH.out.op hc hk); clear ho hc hk; have hx : w6.cell? ⟨bx, 8, none⟩ = some (.slice M8 ([] : List Int).length N8) := (blk_cell HX.out 8).trans rfl; have fx : w6.frozen? ⟨bx, 8, none⟩ = false := blk_frozen HX.out 8)
      | fail)
    refine wp_gen (fun W => HR w0 w W g A c b t1 37 #[.int .i64 0, .int .i64 0, .int .i64 0, .int .i64 0, .int .i64 0, .int .u32 0, .int .u32 0, .int .u32 0, .slice none 0 0, .slice none 0 0] ∧ W.heap[bx]? = some (.cells #[.int .i64 x1, .int .i64 x2, .int .i64 x3, .int .i64 x4, .int .i64 x5, .int .u32 x6, .int .u32 x7, .int .u32 x8, .slice B1 D1.length f1, .slice M9 ([] : List Int).length N9] 37 (0, 0)) ∧ W.ownsRow w.heap.size 5 1 (.slice A5 D.length c5) D.length (nums .u8 D) ∧ W.ownsRow w.heap.size 5 1 (.slice B1 D1.length f1) D1.length (nums .u8 D1)) ⟨HH.out.far HLT.out 8 _, blk_set HX.out 8 _, own_setCell HOD.out (own_ne HOD.out HX.out (by decide)) _, own_setCell HO1.out (own_ne HO1.out HX.out (by decide)) _⟩ ?_
    rintro W9 ⟨hh, hx', hod, ho1⟩
    replace HH := Aside0.mk hh
    replace HX := Aside0.mk hx'
    replace HOD := Aside0.mk hod
    replace HO1 := Aside0.mk ho1
    clear hh hx' hod ho1
    try clear hx fx
    go_upto_region 10 with (first
      | (go_at_call 41; (with_reducible refine (HA2.out _ (own_Rd HOD.out)).mono ?_); rintro r w7 ⟨rfl, nd, rfl⟩; replace HH := Aside0.mk (HH.out.bel (pw_below_drewN (Below.refl _ _) nd)); replace HOD := Aside0.mk (pw_own_below HOD.out (pw_below_drewN (Below.refl _ _) nd)); replace HX := Aside0.mk (blk_drewN HX.out nd); replace HO1 := Aside0.mk (pw_own_below HO1.out (pw_below_drewN (Below.refl _ _) nd)))
      | (go_at_call 32; (with_reducible refine (HB2.out _ HH.out.rs).mono ?_); rintro r w6 ⟨B2, f2, rfl, ho, hc, hk⟩; replace HX := Aside0.mk (blk_rcur HX.out (by decide) HH.out.rs hk); replace HOD := Aside0.mk (own_rcur HOD.out (by decide) HH.out.rs hk); replace HO1 := Aside0.mk (own_rcur HO1.out (by decide) HH.out.rs hk); have HO2 := Aside0.mk (own_weaken ho HH.out.kk.1); replace HH := Aside0.mk (HH.out.op hc hk); clear ho hc hk; have hx : w6.cell? ⟨bx, 9, none⟩ = some (.slice M9 ([] : List Int).length N9) := (blk_cell HX.out 9).trans rfl; have fx : w6.frozen? ⟨bx, 9, none⟩ = false := blk_frozen HX.out 9)
      | fail)
    refine wp_gen (fun W => HR w0 w W g A c b t2 37 #[.int .i64 0, .int .i64 0, .int .i64 0, .int .i64 0, .int .i64 0, .int .u32 0, .int .u32 0, .int .u32 0, .slice none 0 0, .slice none 0 0] ∧ W.heap[bx]? = some (.cells #[.int .i64 x1, .int .i64 x2, .int .i64 x3, .int .i64 x4, .int .i64 x5, .int .u32 x6, .int .u32 x7, .int .u32 x8, .slice B1 D1.length f1, .slice B2 D2.length f2] 37 (0, 0)) ∧ W.ownsRow w.heap.size 5 1 (.slice A5 D.length c5) D.length (nums .u8 D) ∧ W.ownsRow w.heap.size 5 1 (.slice B1 D1.length f1) D1.length (nums .u8 D1) ∧ W.ownsRow w.heap.size 5 1 (.slice B2 D2.length f2) D2.length (nums .u8 D2)) ⟨HH.out.far HLT.out 9 _, blk_set HX.out 9 _, own_setCell HOD.out (own_ne HOD.out HX.out (by decide)) _, own_setCell HO1.out (own_ne HO1.out HX.out (by decide)) _, own_setCell HO2.out (own_ne HO2.out HX.out (by decide)) _⟩ ?_
    rintro W10 ⟨hh, hx', hod, ho1, ho2⟩
    replace HH := Aside0.mk hh
    replace HX := Aside0.mk hx'
    replace HOD := Aside0.mk hod
    replace HO1 := Aside0.mk ho1
    replace HO2 := Aside0.mk ho2
    clear hh hx' hod ho1 ho2
    try clear hx fx
    have ce : W10.cell? ⟨g, 2, none⟩ = some (.int .i64 EZ) := by have h9 := (blk_cell HH.out.rs.blk 2).trans rfl; rw [HE2.out] at h9; exact h9
    go_upto_if 42 with fail
    refine wp_gen (fun W => HR w0 w W g A c b t2 37 #[.int .i64 0, .int .i64 0, .int .i64 0, .int .i64 0, .int .i64 0, .int .u32 0, .int .u32 0, .int .u32 0, .slice none 0 0, .slice none 0 0]) HH.out ?_
    rintro Wx hh
    have HN := Aside0.mk hh
    replace HH := Aside0.mk hh.drew
    clear hh ce
    have ce : Wx.cell? ⟨g, 2, none⟩ = some (.int .i64 EZ) := by have h9 : Wx.cell? ⟨g, 2, none⟩ = some (.int .i64 t2.2) := (blk_cell HH.out.rs.blk 2).trans rfl; rw [HE2.out] at h9; exact h9
    have hne1 : (g = w.heap.size) = False := eq_false (by have h9 := HH.out.gl; omega)
    have hne2 : (w.heap.size = g) = False := eq_false (by have h9 := HH.out.gl; omega)
    have hp0 : Wx.cell? ⟨w.heap.size, 0, none⟩ = some (.int .i64 0) := (blk_cell HH.out.r2 0).trans rfl; have fp0 : Wx.frozen? ⟨w.heap.size, 0, none⟩ = false := blk_frozen HH.out.r2 0; have hp1 : Wx.cell? ⟨w.heap.size, 1, none⟩ = some (.int .i64 0) := (blk_cell HH.out.r2 1).trans rfl; have fp1 : Wx.frozen? ⟨w.heap.size, 1, none⟩ = false := blk_frozen HH.out.r2 1; have hp2 : Wx.cell? ⟨w.heap.size, 2, none⟩ = some (.int .i64 0) := (blk_cell HH.out.r2 2).trans rfl; have fp2 : Wx.frozen? ⟨w.heap.size, 2, none⟩ = false := blk_frozen HH.out.r2 2; have hp3 : Wx.cell? ⟨w.heap.size, 3, none⟩ = some (.int .i64 0) := (blk_cell HH.out.r2 3).trans rfl; have fp3 : Wx.frozen? ⟨w.heap.size, 3, none⟩ = false := blk_frozen HH.out.r2 3; have hp4 : Wx.cell? ⟨w.heap.size, 4, none⟩ = some (.int .i64 0) := (blk_cell HH.out.r2 4).trans rfl; have fp4 : Wx.frozen? ⟨w.heap.size, 4, none⟩ = false := blk_frozen HH.out.r2 4; have hp5 : Wx.cell? ⟨w.heap.size, 5, none⟩ = some (.int .u32 0) := (blk_cell HH.out.r2 5).trans rfl; have fp5 : Wx.frozen? ⟨w.heap.size, 5, none⟩ = false := blk_frozen HH.out.r2 5; have hp6 : Wx.cell? ⟨w.heap.size, 6, none⟩ = some (.int .u32 0) := (blk_cell HH.out.r2 6).trans rfl; have fp6 : Wx.frozen? ⟨w.heap.size, 6, none⟩ = false := blk_frozen HH.out.r2 6; have hp7 : Wx.cell? ⟨w.heap.size, 7, none⟩ = some (.int .u32 0) := (blk_cell HH.out.r2 7).trans rfl; have fp7 : Wx.frozen? ⟨w.heap.size, 7, none⟩ = false := blk_frozen HH.out.r2 7; have hp8 : Wx.cell? ⟨w.heap.size, 8, none⟩ = some (.slice none 0 0) := (blk_cell HH.out.r2 8).trans rfl; have fp8 : Wx.frozen? ⟨w.heap.size, 8, none⟩ = false := blk_frozen HH.out.r2 8; have hp9 : Wx.cell? ⟨w.heap.size, 9, none⟩ = some (.slice none 0 0) := (blk_cell HH.out.r2 9).trans rfl; have fp9 : Wx.frozen? ⟨w.heap.size, 9, none⟩ = false := blk_frozen HH.out.r2 9
    have HSK : Aside0 (∀ (W : World) (C : Array Value), HR w0 w W g A c b t2 37 C → W.cell? ⟨g, 2, none⟩ = some (.int .i64 EZ)) := ⟨fun W C h => by have h9 : W.cell? ⟨g, 2, none⟩ = some (.int .i64 t2.2) := (blk_cell h.rs.blk 2).trans rfl; rw [HE2.out] at h9; exact h9⟩
    go_wp2_with fail
    go_region_held3 (fun W => W.cell? ⟨g, 2, none⟩ = some (.int .i64 EZ)) (first | (with_reducible exact HSK.out _ _ HH.out) | (with_reducible exact HSK.out _ _ (HR.drew (HN.out.fill10 (.int .i64 0) (.int .i64 0) (.int .i64 0) (.int .i64 0) (.int .i64 0) (.int .u32 0) (.int .u32 0) (.int .u32 0) (.slice none 0 0) (.slice none 0 0))))) (fail)
    all_goals
      refine ex_gen (X := Exit.then _ _ _ _) (fun W => HR w0 w W g A c b t2 37 #[.int .i64 0, .int .i64 0, .int .i64 0, .int .i64 0, .int .i64 0, .int .u32 0, .int .u32 0, .int .u32 0, .slice none 0 0, .slice none 0 0]) ?_ ?_
      · with_reducible exact HR.drew (HN.out.fill10 (.int .i64 0) (.int .i64 0) (.int .i64 0) (.int .i64 0) (.int .i64 0) (.int .u32 0) (.int .u32 0) (.int .u32 0) (.slice none 0 0) (.slice none 0 0))
      rintro W7 hh
      replace HH := Aside0.mk hh
      clear hh
      go_wp2
      refine bodyPost_ret (results_ct rfl _ _ w.heap.size 37 _ (0, 0) _ rfl HH.out.r2 Try.underlying37 rfl (by kernel_rfl)) rfl ?_
      exact ⟨rfl, HH.out.rs, HH.out.kk⟩
  · have hst := HST.out heH
    have e3 : eH = EZ := by have h9 := HE2.out; rw [hst] at h9; exact h9
    subst e3
    rw [hst]
    refine wp_gen (fun W => HR w0 w W g A c b (aH, eH) 37 #[.int .i64 0, .int .i64 0, .int .i64 0, .int .i64 0, .int .i64 0, .int .u32 0, .int .u32 0, .int .u32 0, .slice none 0 0, .slice none 0 0]) HH.out ?_
    rintro W1 hh
    have HN := Aside0.mk hh
    replace HH := Aside0.mk hh.drew
    clear hh ce HOD
    have ce : W1.cell? ⟨g, 2, none⟩ = some (.int .i64 eH) := (blk_cell HH.out.rs.blk 2).trans rfl
    have hne1 : (g = w.heap.size) = False := eq_false (by have h9 := HH.out.gl; omega)
    have hne2 : (w.heap.size = g) = False := eq_false (by have h9 := HH.out.gl; omega)
    have hp0 : W1.cell? ⟨w.heap.size, 0, none⟩ = some (.int .i64 0) := (blk_cell HH.out.r2 0).trans rfl; have fp0 : W1.frozen? ⟨w.heap.size, 0, none⟩ = false := blk_frozen HH.out.r2 0; have hp1 : W1.cell? ⟨w.heap.size, 1, none⟩ = some (.int .i64 0) := (blk_cell HH.out.r2 1).trans rfl; have fp1 : W1.frozen? ⟨w.heap.size, 1, none⟩ = false := blk_frozen HH.out.r2 1; have hp2 : W1.cell? ⟨w.heap.size, 2, none⟩ = some (.int .i64 0) := (blk_cell HH.out.r2 2).trans rfl; have fp2 : W1.frozen? ⟨w.heap.size, 2, none⟩ = false := blk_frozen HH.out.r2 2; have hp3 : W1.cell? ⟨w.heap.size, 3, none⟩ = some (.int .i64 0) := (blk_cell HH.out.r2 3).trans rfl; have fp3 : W1.frozen? ⟨w.heap.size, 3, none⟩ = false := blk_frozen HH.out.r2 3; have hp4 : W1.cell? ⟨w.heap.size, 4, none⟩ = some (.int .i64 0) := (blk_cell HH.out.r2 4).trans rfl; have fp4 : W1.frozen? ⟨w.heap.size, 4, none⟩ = false := blk_frozen HH.out.r2 4; have hp5 : W1.cell? ⟨w.heap.size, 5, none⟩ = some (.int .u32 0) := (blk_cell HH.out.r2 5).trans rfl; have fp5 : W1.frozen? ⟨w.heap.size, 5, none⟩ = false := blk_frozen HH.out.r2 5; have hp6 : W1.cell? ⟨w.heap.size, 6, none⟩ = some (.int .u32 0) := (blk_cell HH.out.r2 6).trans rfl; have fp6 : W1.frozen? ⟨w.heap.size, 6, none⟩ = false := blk_frozen HH.out.r2 6; have hp7 : W1.cell? ⟨w.heap.size, 7, none⟩ = some (.int .u32 0) := (blk_cell HH.out.r2 7).trans rfl; have fp7 : W1.frozen? ⟨w.heap.size, 7, none⟩ = false := blk_frozen HH.out.r2 7; have hp8 : W1.cell? ⟨w.heap.size, 8, none⟩ = some (.slice none 0 0) := (blk_cell HH.out.r2 8).trans rfl; have fp8 : W1.frozen? ⟨w.heap.size, 8, none⟩ = false := blk_frozen HH.out.r2 8; have hp9 : W1.cell? ⟨w.heap.size, 9, none⟩ = some (.slice none 0 0) := (blk_cell HH.out.r2 9).trans rfl; have fp9 : W1.frozen? ⟨w.heap.size, 9, none⟩ = false := blk_frozen HH.out.r2 9
    have HSK : Aside0 (∀ (W : World) (C : Array Value), HR w0 w W g A c b (aH, eH) 37 C → W.cell? ⟨g, 2, none⟩ = some (.int .i64 eH)) := ⟨fun W C h => (blk_cell h.rs.blk 2).trans rfl⟩
    go_wp2_with fail
    go_region_held3 (fun W => W.cell? ⟨g, 2, none⟩ = some (.int .i64 eH)) (first | (with_reducible exact HSK.out _ _ HH.out) | (with_reducible exact HSK.out _ _ (HR.drew (HN.out.fill10 (.int .i64 0) (.int .i64 0) (.int .i64 0) (.int .i64 0) (.int .i64 0) (.int .u32 0) (.int .u32 0) (.int .u32 0) (.slice none 0 0) (.slice none 0 0))))) (fail)
    all_goals
      refine ex_gen (X := Exit.then _ _ _ _) (fun W => HR w0 w W g A c b (aH, eH) 37 #[.int .i64 0, .int .i64 0, .int .i64 0, .int .i64 0, .int .i64 0, .int .u32 0, .int .u32 0, .int .u32 0, .slice none 0 0, .slice none 0 0]) ?_ ?_
      · with_reducible exact HR.drew (HN.out.fill10 (.int .i64 0) (.int .i64 0) (.int .i64 0) (.int .i64 0) (.int .i64 0) (.int .u32 0) (.int .u32 0) (.int .u32 0) (.slice none 0 0) (.slice none 0 0))
      rintro W7 hh
      replace HH := Aside0.mk hh
      clear hh
      go_wp2
      refine bodyPost_ret (results_ct rfl _ _ w.heap.size 37 _ (0, 0) _ rfl HH.out.r2 Try.underlying37 rfl (by kernel_rfl)) rfl ?_
      exact ⟨rfl, HH.out.rs, HH.out.kk⟩
set_option maxHeartbeats 8000000 in
set_option maxRecDepth 100000 in
theorem ref_readLocal_ok (w0 w : World) (g : Nat) (A : Option Addr) (c : Nat) (b : List Int) (s : Sta) (h : RS0 w0 w g A c b s) (hb : ∀ x ∈ b, 0 ≤ x ∧ x ≤ 255) (hE : sgE b s 67324752 = 0) (q0 q1 q2 q3 q4 q5 q6 q7 q8 q9 q10 t1 t2 : Sta) (x1 x2 x3 x4 x5 x6 x7 x8 x9 x10 : Int) (hs1 : rA b s 4 = q0) (e1 : rA b q0 2 = q1) (v1 : rV b q0 2 = x1) (e2 : rA b q1 2 = q2) (v2 : rV b q1 2 = x2) (e3 : rA b q2 2 = q3) (v3 : rV b q2 2 = x3) (e4 : rA b q3 2 = q4) (v4 : rV b q3 2 = x4) (e5 : rA b q4 2 = q5) (v5 : rV b q4 2 = x5) (e6 : rA b q5 4 = q6) (v6 : rV b q5 4 = x6) (e7 : rA b q6 4 = q7) (v7 : rV b q6 4 = x7) (e8 : rA b q7 4 = q8) (v8 : rV b q7 4 = x8) (e9 : rA b q8 2 = q9) (v9 : rV b q8 2 = x9) (e10 : rA b q9 2 = q10) (v10 : rV b q9 2 = x10) (D1 D2 : List Int) (k1 : rL b q10 x9 = D1) (j1 : rA b q10 x9 = t1) (k2 : rL b t1 x10 = D2) (j2 : rA b t1 x10 = t2) (h5 : t2.2 = 0) :
    Calls Try.prog 33 #[.pointer (some ⟨g, 0, none⟩)] w (fun r w' => ∃ A1 c1 A2 c2, RfPost w0 w g A c b t2 #[.int .i64 x1, .int .i64 x2, .int .i64 x3, .int .i64 x4, .int .i64 x5, .int .u32 x6, .int .u32 x7, .int .u32 x8, .slice A1 D1.length c1, .slice A2 D2.length c2] 0 r w' ∧ Ow w w' A1 D1 c1 ∧ Ow w w' A2 D2 c2) := by
  have HH : Aside0 (HR w0 w (w.alloc (.cells #[.int .i64 0, .int .i64 0, .int .i64 0, .int .i64 0, .int .i64 0, .int .u32 0, .int .u32 0, .int .u32 0, .slice none 0 0, .slice none 0 0] 37)) g A c b s 37 #[.int .i64 0, .int .i64 0, .int .i64 0, .int .i64 0, .int .i64 0, .int .u32 0, .int .u32 0, .int .u32 0, .slice none 0 0, .slice none 0 0]) := ⟨HR.start h _ _⟩
  have HSG : Aside0 (∀ W, RS0 w0 W g A c b s → Calls Try.prog 58 #[.pointer (some ⟨g, 0, none⟩), .int .u32 67324752] W (SgPost w0 W g A c b q0 0)) := ⟨fun W hW => by have h9 := ref_sign w0 W g A c b s 67324752 hW hb; rw [hs1, hE] at h9; exact h9⟩
  have hP := loP hb e1 v1 e2 v2 e3 v3 e4 v4 e5 v5 e6 v6 e7 v7 e8 v8 e9 v9 e10 v10
  obtain ⟨D, hD⟩ : ∃ D, (tkN b q0 [2, 2, 2, 2, 2, 4, 4, 4, 2, 2] 10).1 = D := ⟨_, rfl⟩
  have HTK : Aside0 (∀ W base A1 c1, RS0 w0 W g A c b q0 → W.ownsRow base 3 1 (.slice A1 10 c1) 10 (nums .i64 [2, 2, 2, 2, 2, 4, 4, 4, 2, 2]) → Calls Try.prog 59 #[.pointer (some ⟨g, 0, none⟩), .slice A1 10 c1] W (fun r w' => ∃ A5 c5, r = .returned (.slice A5 D.length c5) ∧ w'.ownsRow W.heap.size 5 1 (.slice A5 D.length c5) D.length (nums .u8 D) ∧ RS0 w0 w' g A c b q10 ∧ Kept W w' (fun k => k = g))) := ⟨fun W base A1 c1 hW hz => by
    have h9 := ref_take w0 W g A c b q0 [2, 2, 2, 2, 2, 4, 4, 4, 2, 2] A1 c1 base hW hz (by simp)
    rw [show ([2, 2, 2, 2, 2, 4, 4, 4, 2, 2] : List Int).length = 10 from rfl, hD, hP.1] at h9
    exact h9⟩
  have HB1 : Aside0 (∀ W, RS0 w0 W g A c b q10 → Calls Try.prog 32 #[.pointer (some ⟨g, 0, none⟩), .int .i64 x9] W (fun r w' => ∃ A1 c1, r = .returned (.slice A1 D1.length c1) ∧ w'.ownsRow W.heap.size 5 1 (.slice A1 D1.length c1) D1.length (nums .u8 D1) ∧ RS0 w0 w' g A c b t1 ∧ Kept W w' (fun k => k = g))) := ⟨fun W hW => k1 ▸ j1 ▸ rs_take hW x9⟩
  have HB2 : Aside0 (∀ W, RS0 w0 W g A c b t1 → Calls Try.prog 32 #[.pointer (some ⟨g, 0, none⟩), .int .i64 x10] W (fun r w' => ∃ A1 c1, r = .returned (.slice A1 D2.length c1) ∧ w'.ownsRow W.heap.size 5 1 (.slice A1 D2.length c1) D2.length (nums .u8 D2) ∧ RS0 w0 w' g A c b t2 ∧ Kept W w' (fun k => k = g))) := ⟨fun W hW => k2 ▸ j2 ▸ rs_take hW x10⟩
  have HST : Aside0 (q10.2 ≠ 0 → t2 = q10) := ⟨fun h => by
    have g1 : t1 = q10 := by rw [← j1]; exact rA_stuck h
    have g2 : t2 = q10 := by rw [← j2, g1]; exact rA_stuck h
    exact g2⟩
  have HPP := Aside0.mk hP.2
  rw [hD] at HPP
  have HE2 := Aside0.mk h5
  clear h hb hE hs1 hP hD h5 e1 v1 e2 v2 e3 v3 e4 v4 e5 v5 e6 v6 e7 v7 e8 v8 e9 v9 e10 v10 k1 j1 k2 j2
  obtain ⟨aH, eH⟩ := q10
  go_enter Try.func33, Try.ntmps33
  go_upto_if 20 with (first
    | (go_at_call 58; (with_reducible refine (HSG.out _ HH.out.rs).mono ?_); rintro r w9 ⟨rfl, hc, hk⟩; replace HH := Aside0.mk (HH.out.op hc hk); clear hc hk)
    | ((with_reducible refine gate_dst (N := 14) rfl ?_); (try (refine gate_guard (by rfl) ?_; dsimp only)); refine Kd.R_lit (Kd.int .i64) _ 3 ?hg (N := 14) ?hd (xs := ([2, 2, 2, 2, 2, 4, 4, 4, 2, 2] : List Int)) (inner := [.int .i64 2, .int .i64 2, .int .i64 2, .int .i64 2, .int .i64 2, .int .i64 4, .int .i64 4, .int .i64 4, .int .i64 2, .int .i64 2]) (ok := fun _ => True) (okp := fun _ => True) ?hr ?hp (fun _ hk => hk) trivial (Below.refl _ _) (Nat.le_refl _) (by simp) ?_; (case hd => rfl); (case hg => rfl); (case hr => first | (go_simp; done) | (go_simp; rfl)); (case hp => exact (Reps.one (show Kd.M (Kd.int .i64) _ _ _ 2 [.int .i64 2] from rfl) (Reps.one (show Kd.M (Kd.int .i64) _ _ _ 2 [.int .i64 2] from rfl) (Reps.one (show Kd.M (Kd.int .i64) _ _ _ 2 [.int .i64 2] from rfl) (Reps.one (show Kd.M (Kd.int .i64) _ _ _ 2 [.int .i64 2] from rfl) (Reps.one (show Kd.M (Kd.int .i64) _ _ _ 2 [.int .i64 2] from rfl) (Reps.one (show Kd.M (Kd.int .i64) _ _ _ 4 [.int .i64 4] from rfl) (Reps.one (show Kd.M (Kd.int .i64) _ _ _ 4 [.int .i64 4] from rfl) (Reps.one (show Kd.M (Kd.int .i64) _ _ _ 4 [.int .i64 4] from rfl) (Reps.one (show Kd.M (Kd.int .i64) _ _ _ 2 [.int .i64 2] from rfl) (Reps.one (show Kd.M (Kd.int .i64) _ _ _ 2 [.int .i64 2] from rfl) (Reps.none _ _)))))))))))); intro v1 w1 ho hb hg_ hnew_; have HZ := Aside0.mk (Kd.own_of_R ho); obtain ⟨A1, c1, rfl⟩ := own_slice HZ.out; replace HH := Aside0.mk (HH.out.bel hb); clear ho hb hg_ hnew_)
    | (go_at_call 59; (with_reducible refine (HTK.out _ _ _ _ HH.out.rs HZ.out).mono ?_); rintro r w9 ⟨A5, c5, rfl, ho, hc, hk⟩; have HOD := Aside0.mk (own_weaken ho HH.out.kk.1); replace HH := Aside0.mk (HH.out.op hc hk); have ce : w9.cell? ⟨g, 2, none⟩ = some (.int .i64 eH) := (blk_cell hc.blk 2).trans rfl; clear ho hc hk)
    | fail)
  by_cases heH : eH = 0
  · subst heH
    obtain ⟨D0, hD0, hDl, hDb, r0, r1, r2⟩ := HPP.out rfl
    subst hD0
    clear HPP
    have HHD : Aside0 (∀ W, Rd W A5 D c5 → Calls Try.prog 60 #[.slice A5 D.length c5] W (fun r w' => ∃ v8_ v9_ : Value, r = .returned (.agg #[.int .i64 x1, .int .i64 x2, .int .i64 x3, .int .i64 x4, .int .i64 x5, .int .u32 x6, .int .u32 x7, .int .u32 x8, v8_, v9_]) ∧ Kd.R (Kd.int .u8) 5 w' W.heap.size (fun k_ => some k_ ≠ (v9_ : Value).ownBlock) v8_ [] ∧ Kd.R (Kd.int .u8) 5 w' W.heap.size (fun k_ => some k_ ≠ (v8_ : Value).ownBlock) v9_ [] ∧ Below W.heap.size W w')) := ⟨fun W hW => Go.Proofs.Ytpmiofjhgmdghaa.RQ.duffelref24_head.calls 10 A5 c5 D x1 x2 x3 x4 x5 x6 x7 x8 [] [] W hW.1 hW.2 r0⟩
    have HA1 : Aside0 (∀ W, Rd W A5 D c5 → Calls Try.prog 41 #[.slice A5 D.length c5, .int .i64 22] W (fun r w' => r = .returned (.int .i64 x9) ∧ Drawn0 W w')) := ⟨fun W hW => Go.Proofs.Ytpmiofjhgmdghaa.RQ.duffelref24_at.calls 10 A5 c5 D 22 x9 W hW.1 hW.2 r1⟩
    have HA2 : Aside0 (∀ W, Rd W A5 D c5 → Calls Try.prog 41 #[.slice A5 D.length c5, .int .i64 24] W (fun r w' => r = .returned (.int .i64 x10) ∧ Drawn0 W w')) := ⟨fun W hW => Go.Proofs.Ytpmiofjhgmdghaa.RQ.duffelref24_at.calls 10 A5 c5 D 24 x10 W hW.1 hW.2 r2⟩
    clear r0 r1 r2 hDb hDl
    go_upto_region 8 with (first
      | (go_at_call 60; (with_reducible refine (HHD.out _ (own_Rd HOD.out)).mono ?_); rintro r w8 ⟨m8, m9, rfl, hr8, hr9, hb⟩; obtain ⟨M8, N8, rfl⟩ := own_slice (Kd.own_of_R hr8); obtain ⟨M9, N9, rfl⟩ := own_slice (Kd.own_of_R hr9); replace HH := Aside0.mk (HH.out.bel hb); replace HOD := Aside0.mk (pw_own_below HOD.out hb); clear hr8 hr9 hb ce)
      | ((with_reducible refine gate_store (t := 37) (p := 6) (v := .tmp 27) rfl ?_); refine wpList_store_mid rfl 37 (.tmp 6) (.tmp 27) rfl w8.heap.size 0 #[.int .i64 x1, .int .i64 x2, .int .i64 x3, .int .i64 x4, .int .i64 x5, .int .u32 x6, .int .u32 x7, .int .u32 x8, .slice M8 ([] : List Int).length N8, .slice M9 ([] : List Int).length N9] rfl rfl (there_of (heap_alloc_new w8 _) _ (by simp)) (by kernel_rfl) (by simp [Value.oneCell']) ?_; refine wpl_gen (fun W => Below w8.heap.size w8 W ∧ W.heap[w8.heap.size]? = some (.cells #[.int .i64 x1, .int .i64 x2, .int .i64 x3, .int .i64 x4, .int .i64 x5, .int .u32 x6, .int .u32 x7, .int .u32 x8, .slice M8 ([] : List Int).length N8, .slice M9 ([] : List Int).length N9] 37 (0, 0))) ⟨below_setCells (below_alloc (Below.refl _ _) _) (Nat.le_refl _) _, blk_putall (heap_alloc_new w8 _) rfl⟩ ?_; rintro w5 ⟨hb5, hx5⟩; have HX := Aside0.mk hx5; have HLT := Aside0.mk (blk_lt HH.out.r2); replace HH := Aside0.mk (HH.out.bel hb5); replace HOD := Aside0.mk (pw_own_below HOD.out hb5); clear hb5 hx5)
      | fail)
    obtain ⟨bx, hbx⟩ : ∃ bx, w8.heap.size = bx := ⟨_, rfl⟩
    rw [hbx] at HX HLT
    try rw [hbx]
    clear hbx
    go_upto_region 9 with (first
      | (go_at_call 41; (with_reducible refine (HA1.out _ (own_Rd HOD.out)).mono ?_); rintro r w7 ⟨rfl, nd, rfl⟩; replace HH := Aside0.mk (HH.out.bel (pw_below_drewN (Below.refl _ _) nd)); replace HOD := Aside0.mk (pw_own_below HOD.out (pw_below_drewN (Below.refl _ _) nd)); replace HX := Aside0.mk (blk_drewN HX.out nd))
      | (go_at_call 32; (with_reducible refine (HB1.out _ HH.out.rs).mono ?_); rintro r w6 ⟨B1, f1, rfl, ho, hc, hk⟩; replace HX := Aside0.mk (blk_rcur HX.out (by decide) HH.out.rs hk); replace HOD := Aside0.mk (own_rcur HOD.out (by decide) HH.out.rs hk);  have HO1 := Aside0.mk (own_weaken ho HH.out.kk.1); replace HH := Aside0.mk (HH.out.op hc hk); clear ho hc hk; have hx : w6.cell? ⟨bx, 8, none⟩ = some (.slice M8 ([] : List Int).length N8) := (blk_cell HX.out 8).trans rfl; have fx : w6.frozen? ⟨bx, 8, none⟩ = false := blk_frozen HX.out 8)
      | fail)
    refine wp_gen (fun W => HR w0 w W g A c b t1 37 #[.int .i64 0, .int .i64 0, .int .i64 0, .int .i64 0, .int .i64 0, .int .u32 0, .int .u32 0, .int .u32 0, .slice none 0 0, .slice none 0 0] ∧ W.heap[bx]? = some (.cells #[.int .i64 x1, .int .i64 x2, .int .i64 x3, .int .i64 x4, .int .i64 x5, .int .u32 x6, .int .u32 x7, .int .u32 x8, .slice B1 D1.length f1, .slice M9 ([] : List Int).length N9] 37 (0, 0)) ∧ W.ownsRow w.heap.size 5 1 (.slice A5 D.length c5) D.length (nums .u8 D) ∧ W.ownsRow w.heap.size 5 1 (.slice B1 D1.length f1) D1.length (nums .u8 D1)) ⟨HH.out.far HLT.out 8 _, blk_set HX.out 8 _, own_setCell HOD.out (own_ne HOD.out HX.out (by decide)) _, own_setCell HO1.out (own_ne HO1.out HX.out (by decide)) _⟩ ?_
    rintro W9 ⟨hh, hx', hod, ho1⟩
    replace HH := Aside0.mk hh
    replace HX := Aside0.mk hx'
    replace HOD := Aside0.mk hod
    replace HO1 := Aside0.mk ho1
    clear hh hx' hod ho1
    try clear hx fx
    go_upto_region 10 with (first
      | (go_at_call 41; (with_reducible refine (HA2.out _ (own_Rd HOD.out)).mono ?_); rintro r w7 ⟨rfl, nd, rfl⟩; replace HH := Aside0.mk (HH.out.bel (pw_below_drewN (Below.refl _ _) nd)); replace HOD := Aside0.mk (pw_own_below HOD.out (pw_below_drewN (Below.refl _ _) nd)); replace HX := Aside0.mk (blk_drewN HX.out nd); replace HO1 := Aside0.mk (pw_own_below HO1.out (pw_below_drewN (Below.refl _ _) nd)))
      | (go_at_call 32; (with_reducible refine (HB2.out _ HH.out.rs).mono ?_); rintro r w6 ⟨B2, f2, rfl, ho, hc, hk⟩; replace HX := Aside0.mk (blk_rcur HX.out (by decide) HH.out.rs hk); replace HOD := Aside0.mk (own_rcur HOD.out (by decide) HH.out.rs hk); replace HO1 := Aside0.mk (own_rcur HO1.out (by decide) HH.out.rs hk); have HO2 := Aside0.mk (own_weaken ho HH.out.kk.1); replace HH := Aside0.mk (HH.out.op hc hk); clear ho hc hk; have hx : w6.cell? ⟨bx, 9, none⟩ = some (.slice M9 ([] : List Int).length N9) := (blk_cell HX.out 9).trans rfl; have fx : w6.frozen? ⟨bx, 9, none⟩ = false := blk_frozen HX.out 9)
      | fail)
    refine wp_gen (fun W => HR w0 w W g A c b t2 37 #[.int .i64 0, .int .i64 0, .int .i64 0, .int .i64 0, .int .i64 0, .int .u32 0, .int .u32 0, .int .u32 0, .slice none 0 0, .slice none 0 0] ∧ W.heap[bx]? = some (.cells #[.int .i64 x1, .int .i64 x2, .int .i64 x3, .int .i64 x4, .int .i64 x5, .int .u32 x6, .int .u32 x7, .int .u32 x8, .slice B1 D1.length f1, .slice B2 D2.length f2] 37 (0, 0)) ∧ W.ownsRow w.heap.size 5 1 (.slice A5 D.length c5) D.length (nums .u8 D) ∧ W.ownsRow w.heap.size 5 1 (.slice B1 D1.length f1) D1.length (nums .u8 D1) ∧ W.ownsRow w.heap.size 5 1 (.slice B2 D2.length f2) D2.length (nums .u8 D2)) ⟨HH.out.far HLT.out 9 _, blk_set HX.out 9 _, own_setCell HOD.out (own_ne HOD.out HX.out (by decide)) _, own_setCell HO1.out (own_ne HO1.out HX.out (by decide)) _, own_setCell HO2.out (own_ne HO2.out HX.out (by decide)) _⟩ ?_
    rintro W10 ⟨hh, hx', hod, ho1, ho2⟩
    replace HH := Aside0.mk hh
    replace HX := Aside0.mk hx'
    replace HOD := Aside0.mk hod
    replace HO1 := Aside0.mk ho1
    replace HO2 := Aside0.mk ho2
    clear hh hx' hod ho1 ho2
    try clear hx fx
    have ce : W10.cell? ⟨g, 2, none⟩ = some (.int .i64 0) := by have h9 := (blk_cell HH.out.rs.blk 2).trans rfl; rw [HE2.out] at h9; exact h9
    go_upto_if 42 with fail
    go_wp2_with (first
      | ((with_reducible refine gate_dst (N := 48) rfl ?_); refine wpList_load_row rfl 37 (.tmp 6) rfl bx rfl 37 _ (0, 0) _ HX.out Try.underlying37 rfl (by kernel_rfl) ?_)
      | ((with_reducible refine gate_store (t := 37) (p := 2) (v := .tmp 48) rfl ?_); refine wpList_store_mid rfl 37 (.tmp 2) (.tmp 48) rfl w.heap.size 0 #[.int .i64 x1, .int .i64 x2, .int .i64 x3, .int .i64 x4, .int .i64 x5, .int .u32 x6, .int .u32 x7, .int .u32 x8, .slice B1 D1.length f1, .slice B2 D2.length f2] rfl rfl (there_of HH.out.r2 _ (by simp)) (by kernel_rfl) (by simp [Value.oneCell']) ?_; refine wpl_gen (fun W => HR w0 w W g A c b t2 37 #[.int .i64 x1, .int .i64 x2, .int .i64 x3, .int .i64 x4, .int .i64 x5, .int .u32 x6, .int .u32 x7, .int .u32 x8, .slice B1 D1.length f1, .slice B2 D2.length f2] ∧ W.ownsRow w.heap.size 5 1 (.slice B1 D1.length f1) D1.length (nums .u8 D1) ∧ W.ownsRow w.heap.size 5 1 (.slice B2 D2.length f2) D2.length (nums .u8 D2)) ⟨HH.out.put _ rfl, own_setCells HO1.out HH.out.r2 (by decide) _, own_setCells HO2.out HH.out.r2 (by decide) _⟩ ?_; rintro w5 ⟨hh, ho1, ho2⟩; replace HH := Aside0.mk hh; replace HO1 := Aside0.mk ho1; replace HO2 := Aside0.mk ho2)
      | fail)
    refine bodyPost_ret (results_ct rfl _ _ w.heap.size 37 _ (0, 0) _ rfl HH.out.r2 Try.underlying37 rfl (by kernel_rfl)) rfl ?_
    exact ⟨B1, f1, B2, f2, ⟨rfl, HH.out.rs, HH.out.kk⟩, HO1.out, HO2.out⟩
  · have hst := HST.out heH
    have h9 := HE2.out
    rw [hst] at h9
    exact absurd h9 heH
end Go.Proofs.Ytpmiofjhgmdghaa.Fld
