/- record: the reference's ReadCentral, walked. -/
import Derived.Test.YtpmiofjhgmdghaaRecRef2
import Derived.Deep.RegionHeld3
namespace Go.Proofs.Ytpmiofjhgmdghaa.Fld
open Go.RowKit Go.Proofs.YtpmiofjhgmdghaaW.PrintWords Go.Proofs.YtpmiofjhgmdghaaW.PrintLast Go.Proofs.YtpmiofjhgmdghaaW.PrintMore
set_option linter.unusedVariables false
set_option linter.unusedSimpArgs false
theorem any_gen {P : Program} {md : Region.Mode} {ops : Array Oper} {Q : Exit → Act → World → Prop} {S : World → Prop} {fuel : Nat} {listed : Array Bool} {a : Act} {W : World} (F : World → Prop) (hF : F W) (h : ∀ W', F W' → wpAnyH P md ops Q S fuel listed a W') : wpAnyH P md ops Q S fuel listed a W := h W hF
theorem HR.farS {w0 w W : World} {g : Nat} {A : Option Addr} {c : Nat} {b : List Int} {s : Sta} {t : Nat} {C : Array Value} (h : HR w0 w W g A c b s t C) {bx : Nat} (hb : w.heap.size < bx) (vs : List Value) : HR w0 w (W.setCells bx 0 vs) g A c b s t C := by
  have hg := h.gl
  have hbb := h.bb
  exact ⟨⟨(setCells_far _ 0 _ (by omega)).trans h.rs.blk, h.rs.ge, h.rs.C, h.rs.cap, below_setCells h.rs.bel (by omega) _, h.rs.le, h.rs.len⟩, (setCells_far _ 0 _ (by omega)).trans h.r2, ⟨Nat.le_trans h.kk.1 (below_setCells (Below.refl w.heap.size W) (by omega) vs).size, fun k hk hn => (setCells_far _ 0 _ (by omega)).trans (h.kk.2 k hk hn)⟩, hg, hbb⟩
/-- what is behind a place -/
theorem sliceF (A : Option Addr) (b : List Int) (lo : Int) (a m c : Nat) (hlo : lo = (a : Int)) (hc : b.length ≤ c) (h : a ≤ b.length) (p : List Int) (hp : b.drop a = p) (hm : p.length = m) :
    ∃ (A' : Option Addr) (c' : Nat), (∀ W : World, (Instr.slice 22 (.slice A b.length c) (some (.int .i64 lo)) none none).run Try.prog W = .ok (.slice A' m c') W) ∧ ∀ W : World, Rd W A b c → Rd W A' p c' := by
  subst hlo
  obtain ⟨i0, hi, _, hs, _⟩ := info_parts infoE
  have h1 := cut_from (P := Try.prog) 22 5 .i64 Try.underlying22 hi 1 hs A b.length c (a : Int) (by omega) (by omega)
  have hm' : b.length - a = m := by rw [← hm, ← hp, List.length_drop]
  simp only [Int.toNat_natCast, Nat.mul_one, hm'] at h1
  refine ⟨_, _, h1, fun W hW => ⟨?_, ?_⟩⟩
  · have h2 := Kd.C_drop hW.1 h hc
    have e3 : (Kd.int IntKind.u8).sz = 1 := rfl
    rw [hp, e3, Nat.mul_one] at h2
    exact h2
  · rw [← hp, List.length_drop]; omega
set_option maxHeartbeats 8000000 in
set_option maxRecDepth 100000 in
theorem ref_readCentral_sign (w0 w : World) (g : Nat) (A : Option Addr) (c : Nat) (b : List Int) (s : Sta) (h : RS0 w0 w g A c b s) (hb : ∀ x ∈ b, 0 ≤ x ∧ x ≤ 255) (E : Int) (hE : sgE b s 33639248 = E) (he : E ≠ 0) :
    Calls Try.prog 34 #[.pointer (some ⟨g, 0, none⟩)] w (RfPost w0 w g A c b (rA b s 4) #[.int .i64 0, .int .i64 0, .int .i64 0, .int .i64 0, .int .i64 0, .int .u32 0, .int .u32 0, .int .u32 0, .slice none 0 0, .slice none 0 0, .int .i64 0, .int .i64 0, .int .i64 0, .int .u32 0, .int .u32 0, .slice none 0 0] E) := by
  have HH : Aside0 (HR w0 w (w.alloc (.cells #[.int .i64 0, .int .i64 0, .int .i64 0, .int .i64 0, .int .i64 0, .int .u32 0, .int .u32 0, .int .u32 0, .slice none 0 0, .slice none 0 0, .int .i64 0, .int .i64 0, .int .i64 0, .int .u32 0, .int .u32 0, .slice none 0 0] 39)) g A c b s 39 #[.int .i64 0, .int .i64 0, .int .i64 0, .int .i64 0, .int .i64 0, .int .u32 0, .int .u32 0, .int .u32 0, .slice none 0 0, .slice none 0 0, .int .i64 0, .int .i64 0, .int .i64 0, .int .u32 0, .int .u32 0, .slice none 0 0]) := ⟨HR.start h _ _⟩
  have HSG : Aside0 (∀ W, RS0 w0 W g A c b s → Calls Try.prog 58 #[.pointer (some ⟨g, 0, none⟩), .int .u32 33639248] W (SgPost w0 W g A c b (rA b s 4) E)) := ⟨fun W hW => hE ▸ ref_sign w0 W g A c b s 33639248 hW hb⟩
  have c1 : decide (E = 0) = false := decide_eq_false he
  have c2 : (E == 0) = false := beq_eq_false_iff_ne.mpr he
  have c3 : (E != 0) = true := by simp [he]
  clear h hb hE he
  go_enter Try.func34, Try.ntmps34
  go_wp2_with (go_at_call 58; (with_reducible refine (HSG.out _ HH.out.rs).mono ?_); rintro r w9 ⟨rfl, hc, hk⟩; replace HH := Aside0.mk (HH.out.op hc hk); clear hc hk; have hp0 : w9.cell? ⟨w.heap.size, 0, none⟩ = some (.int .i64 0) := (blk_cell HH.out.r2 0).trans rfl; have fp0 : w9.frozen? ⟨w.heap.size, 0, none⟩ = false := blk_frozen HH.out.r2 0; have hp1 : w9.cell? ⟨w.heap.size, 1, none⟩ = some (.int .i64 0) := (blk_cell HH.out.r2 1).trans rfl; have fp1 : w9.frozen? ⟨w.heap.size, 1, none⟩ = false := blk_frozen HH.out.r2 1; have hp2 : w9.cell? ⟨w.heap.size, 2, none⟩ = some (.int .i64 0) := (blk_cell HH.out.r2 2).trans rfl; have fp2 : w9.frozen? ⟨w.heap.size, 2, none⟩ = false := blk_frozen HH.out.r2 2; have hp3 : w9.cell? ⟨w.heap.size, 3, none⟩ = some (.int .i64 0) := (blk_cell HH.out.r2 3).trans rfl; have fp3 : w9.frozen? ⟨w.heap.size, 3, none⟩ = false := blk_frozen HH.out.r2 3; have hp4 : w9.cell? ⟨w.heap.size, 4, none⟩ = some (.int .i64 0) := (blk_cell HH.out.r2 4).trans rfl; have fp4 : w9.frozen? ⟨w.heap.size, 4, none⟩ = false := blk_frozen HH.out.r2 4; have hp5 : w9.cell? ⟨w.heap.size, 5, none⟩ = some (.int .u32 0) := (blk_cell HH.out.r2 5).trans rfl; have fp5 : w9.frozen? ⟨w.heap.size, 5, none⟩ = false := blk_frozen HH.out.r2 5; have hp6 : w9.cell? ⟨w.heap.size, 6, none⟩ = some (.int .u32 0) := (blk_cell HH.out.r2 6).trans rfl; have fp6 : w9.frozen? ⟨w.heap.size, 6, none⟩ = false := blk_frozen HH.out.r2 6; have hp7 : w9.cell? ⟨w.heap.size, 7, none⟩ = some (.int .u32 0) := (blk_cell HH.out.r2 7).trans rfl; have fp7 : w9.frozen? ⟨w.heap.size, 7, none⟩ = false := blk_frozen HH.out.r2 7; have hp8 : w9.cell? ⟨w.heap.size, 8, none⟩ = some (.slice none 0 0) := (blk_cell HH.out.r2 8).trans rfl; have fp8 : w9.frozen? ⟨w.heap.size, 8, none⟩ = false := blk_frozen HH.out.r2 8; have hp9 : w9.cell? ⟨w.heap.size, 9, none⟩ = some (.slice none 0 0) := (blk_cell HH.out.r2 9).trans rfl; have fp9 : w9.frozen? ⟨w.heap.size, 9, none⟩ = false := blk_frozen HH.out.r2 9; have hp10 : w9.cell? ⟨w.heap.size, 10, none⟩ = some (.int .i64 0) := (blk_cell HH.out.r2 10).trans rfl; have fp10 : w9.frozen? ⟨w.heap.size, 10, none⟩ = false := blk_frozen HH.out.r2 10; have hp11 : w9.cell? ⟨w.heap.size, 11, none⟩ = some (.int .i64 0) := (blk_cell HH.out.r2 11).trans rfl; have fp11 : w9.frozen? ⟨w.heap.size, 11, none⟩ = false := blk_frozen HH.out.r2 11; have hp12 : w9.cell? ⟨w.heap.size, 12, none⟩ = some (.int .i64 0) := (blk_cell HH.out.r2 12).trans rfl; have fp12 : w9.frozen? ⟨w.heap.size, 12, none⟩ = false := blk_frozen HH.out.r2 12; have hp13 : w9.cell? ⟨w.heap.size, 13, none⟩ = some (.int .u32 0) := (blk_cell HH.out.r2 13).trans rfl; have fp13 : w9.frozen? ⟨w.heap.size, 13, none⟩ = false := blk_frozen HH.out.r2 13; have hp14 : w9.cell? ⟨w.heap.size, 14, none⟩ = some (.int .u32 0) := (blk_cell HH.out.r2 14).trans rfl; have fp14 : w9.frozen? ⟨w.heap.size, 14, none⟩ = false := blk_frozen HH.out.r2 14; have hp15 : w9.cell? ⟨w.heap.size, 15, none⟩ = some (.slice none 0 0) := (blk_cell HH.out.r2 15).trans rfl; have fp15 : w9.frozen? ⟨w.heap.size, 15, none⟩ = false := blk_frozen HH.out.r2 15)
  replace HH := Aside0.mk (HH.out.fill16 (.int .i64 0) (.int .i64 0) (.int .i64 0) (.int .i64 0) (.int .i64 0) (.int .u32 0) (.int .u32 0) (.int .u32 0) (.slice none 0 0) (.slice none 0 0) (.int .i64 0) (.int .i64 0) (.int .i64 0) (.int .u32 0) (.int .u32 0) (.slice none 0 0))
  refine bodyPost_ret (results_ct rfl _ _ w.heap.size 39 _ (0, 0) _ rfl HH.out.r2 Try.underlying39 rfl (by kernel_rfl)) rfl ?_
  exact ⟨rfl, HH.out.rs, HH.out.kk⟩
set_option maxHeartbeats 8000000 in
set_option maxRecDepth 100000 in
theorem ref_readCentral_err (w0 w : World) (g : Nat) (A : Option Addr) (c : Nat) (b : List Int) (s : Sta) (h : RS0 w0 w g A c b s) (hb : ∀ x ∈ b, 0 ≤ x ∧ x ≤ 255) (hE : sgE b s 33639248 = 0) (q0 q1 q2 q3 q4 q5 q6 q7 q8 q9 q10 q11 q12 q13 q14 q15 q16 t1 t2 t3 : Sta) (x1 x2 x3 x4 x5 x6 x7 x8 x9 x10 x11 x12 x13 x14 x15 x16 : Int) (hs1 : rA b s 4 = q0) (e1 : rA b q0 2 = q1) (v1 : rV b q0 2 = x1) (e2 : rA b q1 2 = q2) (v2 : rV b q1 2 = x2) (e3 : rA b q2 2 = q3) (v3 : rV b q2 2 = x3) (e4 : rA b q3 2 = q4) (v4 : rV b q3 2 = x4) (e5 : rA b q4 2 = q5) (v5 : rV b q4 2 = x5) (e6 : rA b q5 2 = q6) (v6 : rV b q5 2 = x6) (e7 : rA b q6 4 = q7) (v7 : rV b q6 4 = x7) (e8 : rA b q7 4 = q8) (v8 : rV b q7 4 = x8) (e9 : rA b q8 4 = q9) (v9 : rV b q8 4 = x9) (e10 : rA b q9 2 = q10) (v10 : rV b q9 2 = x10) (e11 : rA b q10 2 = q11) (v11 : rV b q10 2 = x11) (e12 : rA b q11 2 = q12) (v12 : rV b q11 2 = x12) (e13 : rA b q12 2 = q13) (v13 : rV b q12 2 = x13) (e14 : rA b q13 2 = q14) (v14 : rV b q13 2 = x14) (e15 : rA b q14 4 = q15) (v15 : rV b q14 4 = x15) (e16 : rA b q15 4 = q16) (v16 : rV b q15 4 = x16) (D1 D2 D3 : List Int) (k1 : rL b q16 x10 = D1) (j1 : rA b q16 x10 = t1) (k2 : rL b t1 x11 = D2) (j2 : rA b t1 x11 = t2) (k3 : rL b t2 x12 = D3) (j3 : rA b t2 x12 = t3) (EZ : Int) (h5 : t3.2 = EZ) (he : EZ ≠ 0) :
    Calls Try.prog 34 #[.pointer (some ⟨g, 0, none⟩)] w (RfPost w0 w g A c b t3 #[.int .i64 0, .int .i64 0, .int .i64 0, .int .i64 0, .int .i64 0, .int .u32 0, .int .u32 0, .int .u32 0, .slice none 0 0, .slice none 0 0, .int .i64 0, .int .i64 0, .int .i64 0, .int .u32 0, .int .u32 0, .slice none 0 0] EZ) := by
  have HH : Aside0 (HR w0 w (w.alloc (.cells #[.int .i64 0, .int .i64 0, .int .i64 0, .int .i64 0, .int .i64 0, .int .u32 0, .int .u32 0, .int .u32 0, .slice none 0 0, .slice none 0 0, .int .i64 0, .int .i64 0, .int .i64 0, .int .u32 0, .int .u32 0, .slice none 0 0] 39)) g A c b s 39 #[.int .i64 0, .int .i64 0, .int .i64 0, .int .i64 0, .int .i64 0, .int .u32 0, .int .u32 0, .int .u32 0, .slice none 0 0, .slice none 0 0, .int .i64 0, .int .i64 0, .int .i64 0, .int .u32 0, .int .u32 0, .slice none 0 0]) := ⟨HR.start h _ _⟩
  have HSG : Aside0 (∀ W, RS0 w0 W g A c b s → Calls Try.prog 58 #[.pointer (some ⟨g, 0, none⟩), .int .u32 33639248] W (SgPost w0 W g A c b q0 0)) := ⟨fun W hW => by have h9 := ref_sign w0 W g A c b s 33639248 hW hb; rw [hs1, hE] at h9; exact h9⟩
  have hP := ceP hb e1 v1 e2 v2 e3 v3 e4 v4 e5 v5 e6 v6 e7 v7 e8 v8 e9 v9 e10 v10 e11 v11 e12 v12 e13 v13 e14 v14 e15 v15 e16 v16
  obtain ⟨D, hD⟩ : ∃ D, (tkN b q0 [2, 2, 2, 2, 2, 2, 4, 4, 4, 2, 2, 2, 2, 2, 4, 4] 16).1 = D := ⟨_, rfl⟩
  have HTK : Aside0 (∀ W base A1 c1, RS0 w0 W g A c b q0 → W.ownsRow base 3 1 (.slice A1 16 c1) 16 (nums .i64 [2, 2, 2, 2, 2, 2, 4, 4, 4, 2, 2, 2, 2, 2, 4, 4]) → Calls Try.prog 59 #[.pointer (some ⟨g, 0, none⟩), .slice A1 16 c1] W (fun r w' => ∃ A5 c5, r = .returned (.slice A5 D.length c5) ∧ w'.ownsRow W.heap.size 5 1 (.slice A5 D.length c5) D.length (nums .u8 D) ∧ RS0 w0 w' g A c b q16 ∧ Kept W w' (fun k => k = g))) := ⟨fun W base A1 c1 hW hz => by
    have h9 := ref_take w0 W g A c b q0 [2, 2, 2, 2, 2, 2, 4, 4, 4, 2, 2, 2, 2, 2, 4, 4] A1 c1 base hW hz (by simp)
    rw [show ([2, 2, 2, 2, 2, 2, 4, 4, 4, 2, 2, 2, 2, 2, 4, 4] : List Int).length = 16 from rfl, hD, hP.1] at h9
    exact h9⟩
  have HB1 : Aside0 (∀ W, RS0 w0 W g A c b q16 → Calls Try.prog 32 #[.pointer (some ⟨g, 0, none⟩), .int .i64 x10] W (fun r w' => ∃ A1 c1, r = .returned (.slice A1 D1.length c1) ∧ w'.ownsRow W.heap.size 5 1 (.slice A1 D1.length c1) D1.length (nums .u8 D1) ∧ RS0 w0 w' g A c b t1 ∧ Kept W w' (fun k => k = g))) := ⟨fun W hW => k1 ▸ j1 ▸ rs_take hW x10⟩
  have HB2 : Aside0 (∀ W, RS0 w0 W g A c b t1 → Calls Try.prog 32 #[.pointer (some ⟨g, 0, none⟩), .int .i64 x11] W (fun r w' => ∃ A1 c1, r = .returned (.slice A1 D2.length c1) ∧ w'.ownsRow W.heap.size 5 1 (.slice A1 D2.length c1) D2.length (nums .u8 D2) ∧ RS0 w0 w' g A c b t2 ∧ Kept W w' (fun k => k = g))) := ⟨fun W hW => k2 ▸ j2 ▸ rs_take hW x11⟩
  have HB3 : Aside0 (∀ W, RS0 w0 W g A c b t2 → Calls Try.prog 32 #[.pointer (some ⟨g, 0, none⟩), .int .i64 x12] W (fun r w' => ∃ A1 c1, r = .returned (.slice A1 D3.length c1) ∧ w'.ownsRow W.heap.size 5 1 (.slice A1 D3.length c1) D3.length (nums .u8 D3) ∧ RS0 w0 w' g A c b t3 ∧ Kept W w' (fun k => k = g))) := ⟨fun W hW => k3 ▸ j3 ▸ rs_take hW x12⟩
  have HST : Aside0 (q16.2 ≠ 0 → t3 = q16) := ⟨fun h => by
    have g1 : t1 = q16 := by rw [← j1]; exact rA_stuck h
    have g2 : t2 = q16 := by rw [← j2, g1]; exact rA_stuck h
    have g3 : t3 = q16 := by rw [← j3, g2]; exact rA_stuck h
    exact g3⟩
  have HPP := Aside0.mk hP.2
  rw [hD] at HPP
  have HE2 := Aside0.mk h5
  clear h hb hE hs1 hP hD h5 e1 v1 e2 v2 e3 v3 e4 v4 e5 v5 e6 v6 e7 v7 e8 v8 e9 v9 e10 v10 e11 v11 e12 v12 e13 v13 e14 v14 e15 v15 e16 v16 k1 j1 k2 j2 k3 j3
  have c1 : decide (EZ = 0) = false := decide_eq_false he
  have c2 : (EZ == 0) = false := beq_eq_false_iff_ne.mpr he
  have c3 : (EZ != 0) = true := by simp [he]
  have HNE := Aside0.mk he
  clear he
  obtain ⟨aH, eH⟩ := q16
  go_enter Try.func34, Try.ntmps34
  go_upto_if 20 with (first
    | (go_at_call 58; (with_reducible refine (HSG.out _ HH.out.rs).mono ?_); rintro r w9 ⟨rfl, hc, hk⟩; replace HH := Aside0.mk (HH.out.op hc hk); clear hc hk)
    | ((with_reducible refine gate_dst (N := 14) rfl ?_); (try (refine gate_guard (by rfl) ?_; dsimp only)); refine Kd.R_lit (Kd.int .i64) _ 3 ?hg (N := 14) ?hd (xs := ([2, 2, 2, 2, 2, 2, 4, 4, 4, 2, 2, 2, 2, 2, 4, 4] : List Int)) (inner := [.int .i64 2, .int .i64 2, .int .i64 2, .int .i64 2, .int .i64 2, .int .i64 2, .int .i64 4, .int .i64 4, .int .i64 4, .int .i64 2, .int .i64 2, .int .i64 2, .int .i64 2, .int .i64 2, .int .i64 4, .int .i64 4]) (ok := fun _ => True) (okp := fun _ => True) ?hr ?hp (fun _ hk => hk) trivial (Below.refl _ _) (Nat.le_refl _) (by simp) ?_; (case hd => rfl); (case hg => rfl); (case hr => first | (go_simp; done) | (go_simp; rfl)); (case hp => exact (Reps.one (show Kd.M (Kd.int .i64) _ _ _ 2 [.int .i64 2] from rfl) (Reps.one (show Kd.M (Kd.int .i64) _ _ _ 2 [.int .i64 2] from rfl) (Reps.one (show Kd.M (Kd.int .i64) _ _ _ 2 [.int .i64 2] from rfl) (Reps.one (show Kd.M (Kd.int .i64) _ _ _ 2 [.int .i64 2] from rfl) (Reps.one (show Kd.M (Kd.int .i64) _ _ _ 2 [.int .i64 2] from rfl) (Reps.one (show Kd.M (Kd.int .i64) _ _ _ 2 [.int .i64 2] from rfl) (Reps.one (show Kd.M (Kd.int .i64) _ _ _ 4 [.int .i64 4] from rfl) (Reps.one (show Kd.M (Kd.int .i64) _ _ _ 4 [.int .i64 4] from rfl) (Reps.one (show Kd.M (Kd.int .i64) _ _ _ 4 [.int .i64 4] from rfl) (Reps.one (show Kd.M (Kd.int .i64) _ _ _ 2 [.int .i64 2] from rfl) (Reps.one (show Kd.M (Kd.int .i64) _ _ _ 2 [.int .i64 2] from rfl) (Reps.one (show Kd.M (Kd.int .i64) _ _ _ 2 [.int .i64 2] from rfl) (Reps.one (show Kd.M (Kd.int .i64) _ _ _ 2 [.int .i64 2] from rfl) (Reps.one (show Kd.M (Kd.int .i64) _ _ _ 2 [.int .i64 2] from rfl) (Reps.one (show Kd.M (Kd.int .i64) _ _ _ 4 [.int .i64 4] from rfl) (Reps.one (show Kd.M (Kd.int .i64) _ _ _ 4 [.int .i64 4] from rfl) (Reps.none _ _)))))))))))))))))); intro v1 w1 ho hb hg_ hnew_; have HZ := Aside0.mk (Kd.own_of_R ho); obtain ⟨A1, c1, rfl⟩ := own_slice HZ.out; replace HH := Aside0.mk (HH.out.bel hb); clear ho hb hg_ hnew_)
    | (go_at_call 59; (with_reducible refine (HTK.out _ _ _ _ HH.out.rs HZ.out).mono ?_); rintro r w9 ⟨A5, c5, rfl, ho, hc, hk⟩; have HOD := Aside0.mk (own_weaken ho HH.out.kk.1); replace HH := Aside0.mk (HH.out.op hc hk); have ce : w9.cell? ⟨g, 2, none⟩ = some (.int .i64 eH) := (blk_cell hc.blk 2).trans rfl; clear ho hc hk)
    | fail)
  by_cases heH : eH = 0
  · subst heH
    obtain ⟨D0, hD0, hDl, hDb, r0, r1, r2, r3, r4, r5, r6, r7, r8⟩ := HPP.out rfl
    subst hD0
    clear HPP
    have HA1 : Aside0 (∀ W, Rd W A5 D c5 → Calls Try.prog 41 #[.slice A5 D.length c5, .int .i64 0] W (fun r w' => r = .returned (.int .i64 x1) ∧ Below W.heap.size W w')) := ⟨fun W hW => (Go.Proofs.Ytpmiofjhgmdghaa.RQ.duffelref24_at.calls 10 A5 c5 D 0 x1 W hW.1 hW.2 r1).mono (fun _ _ h => ⟨h.1, h.2.below⟩)⟩
    have HA2 : Aside0 (∀ W, Rd W A5 D c5 → Calls Try.prog 41 #[.slice A5 D.length c5, .int .i64 24] W (fun r w' => r = .returned (.int .i64 x10) ∧ Below W.heap.size W w')) := ⟨fun W hW => (Go.Proofs.Ytpmiofjhgmdghaa.RQ.duffelref24_at.calls 10 A5 c5 D 24 x10 W hW.1 hW.2 r2).mono (fun _ _ h => ⟨h.1, h.2.below⟩)⟩
    have HA3 : Aside0 (∀ W, Rd W A5 D c5 → Calls Try.prog 41 #[.slice A5 D.length c5, .int .i64 26] W (fun r w' => r = .returned (.int .i64 x11) ∧ Below W.heap.size W w')) := ⟨fun W hW => (Go.Proofs.Ytpmiofjhgmdghaa.RQ.duffelref24_at.calls 10 A5 c5 D 26 x11 W hW.1 hW.2 r3).mono (fun _ _ h => ⟨h.1, h.2.below⟩)⟩
    have HA4 : Aside0 (∀ W, Rd W A5 D c5 → Calls Try.prog 41 #[.slice A5 D.length c5, .int .i64 28] W (fun r w' => r = .returned (.int .i64 x12) ∧ Below W.heap.size W w')) := ⟨fun W hW => (Go.Proofs.Ytpmiofjhgmdghaa.RQ.duffelref24_at.calls 10 A5 c5 D 28 x12 W hW.1 hW.2 r4).mono (fun _ _ h => ⟨h.1, h.2.below⟩)⟩
    have HA5 : Aside0 (∀ W, Rd W A5 D c5 → Calls Try.prog 41 #[.slice A5 D.length c5, .int .i64 30] W (fun r w' => r = .returned (.int .i64 x13) ∧ Below W.heap.size W w')) := ⟨fun W hW => (Go.Proofs.Ytpmiofjhgmdghaa.RQ.duffelref24_at.calls 10 A5 c5 D 30 x13 W hW.1 hW.2 r5).mono (fun _ _ h => ⟨h.1, h.2.below⟩)⟩
    have HA6 : Aside0 (∀ W, Rd W A5 D c5 → Calls Try.prog 41 #[.slice A5 D.length c5, .int .i64 32] W (fun r w' => r = .returned (.int .i64 x14) ∧ Below W.heap.size W w')) := ⟨fun W hW => (Go.Proofs.Ytpmiofjhgmdghaa.RQ.duffelref24_at.calls 10 A5 c5 D 32 x14 W hW.1 hW.2 r6).mono (fun _ _ h => ⟨h.1, h.2.below⟩)⟩
    obtain ⟨p7, hp7⟩ : ∃ p, (D.take 38).drop 34 = p := ⟨_, rfl⟩
    rw [hp7] at r7
    obtain ⟨N7, d7, hs7, hr7⟩ := sliceK A5 D 34 38 34 4 c5 rfl rfl (own_C HOD.out).2.2.1 (by omega) p7 hp7
    have HN7 : Aside0 (∀ W, Rd W A5 D c5 → Calls Try.prog 40 #[.slice N7 4 d7] W (fun r w' => r = .returned (.int .u32 x15) ∧ Below W.heap.size W w')) := ⟨fun W hW => (num_at (hr7 W hW).1 (hr7 W hW).2 r7).mono (fun _ _ h => ⟨h.1, h.2.below⟩)⟩
    clear hr7 hp7
    obtain ⟨p8, hp8⟩ : ∃ p, (D.take 42).drop 38 = p := ⟨_, rfl⟩
    rw [hp8] at r8
    obtain ⟨N8, d8, hs8, hr8⟩ := sliceK A5 D 38 42 38 4 c5 rfl rfl (own_C HOD.out).2.2.1 (by omega) p8 hp8
    have HN8 : Aside0 (∀ W, Rd W A5 D c5 → Calls Try.prog 40 #[.slice N8 4 d8] W (fun r w' => r = .returned (.int .u32 x16) ∧ Below W.heap.size W w')) := ⟨fun W hW => (num_at (hr8 W hW).1 (hr8 W hW).2 r8).mono (fun _ _ h => ⟨h.1, h.2.below⟩)⟩
    clear hr8 hp8
    obtain ⟨pH, hpH⟩ : ∃ p, D.drop 2 = p := ⟨_, rfl⟩
    rw [hpH] at r0
    obtain ⟨NH, dH, hsH, hrH⟩ := sliceF A5 D 2 2 40 c5 rfl (own_C HOD.out).2.2.1 (by omega) pH hpH (by rw [← hpH, List.length_drop]; omega)
    have hpl : pH.length = 40 := by rw [← hpH, List.length_drop]; omega
    have HHD : Aside0 (∀ W, Rd W A5 D c5 → Calls Try.prog 60 #[.slice NH 40 dH] W (fun r w' => ∃ v8_ v9_ : Value, r = .returned (.agg #[.int .i64 x2, .int .i64 x3, .int .i64 x4, .int .i64 x5, .int .i64 x6, .int .u32 x7, .int .u32 x8, .int .u32 x9, v8_, v9_]) ∧ Kd.R (Kd.int .u8) 5 w' W.heap.size (fun k_ => some k_ ≠ (v9_ : Value).ownBlock) v8_ [] ∧ Kd.R (Kd.int .u8) 5 w' W.heap.size (fun k_ => some k_ ≠ (v8_ : Value).ownBlock) v9_ [] ∧ Below W.heap.size W w')) := ⟨fun W hW => by
      have h9 := Go.Proofs.Ytpmiofjhgmdghaa.RQ.duffelref24_head.calls 10 NH dH pH x2 x3 x4 x5 x6 x7 x8 x9 [] [] W (hrH W hW).1 (hrH W hW).2 r0
      rw [hpl] at h9
      exact h9⟩
    clear hrH hpH hpl
    clear hDb hDl
    refine wp_gen (fun W => HR w0 w W g A c b (aH, 0) 39 #[.int .i64 0, .int .i64 0, .int .i64 0, .int .i64 0, .int .i64 0, .int .u32 0, .int .u32 0, .int .u32 0, .slice none 0 0, .slice none 0 0, .int .i64 0, .int .i64 0, .int .i64 0, .int .u32 0, .int .u32 0, .slice none 0 0] ∧ W.ownsRow w.heap.size 5 1 (.slice A5 D.length c5) D.length (nums .u8 D)) ⟨HH.out, HOD.out⟩ ?_
    rintro w7 ⟨hh, hod⟩
    have HH0 := Aside0.mk hh
    have HOD0 := Aside0.mk hod
    replace HH := Aside0.mk hh.drew
    replace HOD := Aside0.mk (pw_own_below hod (below_drew (Below.refl _ _)))
    clear hh hod ce
    go_upto_region 7 with fail
    go_cut [6] from 7 (fun s6 W => ∃ bx M8 N8 M9 N9, s6 = .pointer (some ⟨bx, 0, none⟩) ∧ w.heap.size < bx ∧ HR w0 w W g A c b (aH, 0) 39 #[.int .i64 0, .int .i64 0, .int .i64 0, .int .i64 0, .int .i64 0, .int .u32 0, .int .u32 0, .int .u32 0, .slice none 0 0, .slice none 0 0, .int .i64 0, .int .i64 0, .int .i64 0, .int .u32 0, .int .u32 0, .slice none 0 0] ∧ W.heap[bx]? = some (.cells #[.int .i64 x2, .int .i64 x3, .int .i64 x4, .int .i64 x5, .int .i64 x6, .int .u32 x7, .int .u32 x8, .int .u32 x9, .slice M8 ([] : List Int).length N8, .slice M9 ([] : List Int).length N9, .int .i64 x1, .int .i64 x13, .int .i64 x14, .int .u32 x15, .int .u32 x16, .slice none 0 0] 39 (0, 0)) ∧ W.ownsRow w.heap.size 5 1 (.slice A5 D.length c5) D.length (nums .u8 D))
    case first =>
      rename_i J0 K0 hJ0 hM0
      refine wp_region_held_drew (S := fun _ => True) (by kernel_rfl) trivial (fun hHeld => ?_)
      refine wpAnyH_take (i := 0) (v := ?_) rfl (by kernel_rfl) (by kernel_rfl) (by kernel_rfl) (fun _ _ _ h => h) (Or.inl ⟨by rfl, ?_⟩) (by assumption) ?_
      rotate_left
      · (intro w hSw; go_simp; try with_reducible rfl)
      try simp only [Act.put, List.setIfInBounds_toArray, List.set_cons_zero, List.set_cons_succ]
      refine wpAnyH_take (i := 2) (v := ?_) rfl (by kernel_rfl) (by kernel_rfl) (by kernel_rfl) (fun _ _ _ h => h) (Or.inl ⟨by rfl, ?_⟩) (by assumption) ?_
      rotate_left
      · (intro w hSw; go_simp; try with_reducible rfl)
      try simp only [Act.put, List.setIfInBounds_toArray, List.set_cons_zero, List.set_cons_succ]
      refine wpAnyH_take (i := 3) (v := ?_) rfl (by kernel_rfl) (by kernel_rfl) (by kernel_rfl) (fun _ _ _ h => h) (Or.inl ⟨by rfl, ?_⟩) (by assumption) ?_
      rotate_left
      · (intro w hSw; go_simp; try with_reducible rfl)
      try simp only [Act.put, List.setIfInBounds_toArray, List.set_cons_zero, List.set_cons_succ]
      refine wpAnyH_take (i := 5) (v := ?_) rfl (by kernel_rfl) (by kernel_rfl) (by kernel_rfl) (fun _ _ _ h => h) (Or.inl ⟨by rfl, ?_⟩) (by assumption) ?_
      rotate_left
      · (intro w hSw; go_simp; try with_reducible rfl)
      try simp only [Act.put, List.setIfInBounds_toArray, List.set_cons_zero, List.set_cons_succ]
      refine wpAnyH_take (i := 7) (v := ?_) rfl (by kernel_rfl) (by kernel_rfl) (by kernel_rfl) (fun _ _ _ h => h) (Or.inl ⟨by rfl, ?_⟩) (by assumption) ?_
      rotate_left
      · (intro w hSw; go_simp; try with_reducible rfl)
      try simp only [Act.put, List.setIfInBounds_toArray, List.set_cons_zero, List.set_cons_succ]
      refine wpAnyH_take (i := 9) (v := ?_) rfl (by kernel_rfl) (by kernel_rfl) (by kernel_rfl) (fun _ _ _ h => h) (Or.inl ⟨by rfl, ?_⟩) (by assumption) ?_
      rotate_left
      · (intro w hSw; go_simp; try with_reducible rfl)
      try simp only [Act.put, List.setIfInBounds_toArray, List.set_cons_zero, List.set_cons_succ]
      refine wpAnyH_take (i := 10) (v := ?_) rfl (by kernel_rfl) (by kernel_rfl) (by kernel_rfl) (fun _ _ _ h => h) (Or.inl ⟨by rfl, ?_⟩) (by assumption) ?_
      rotate_left
      · (intro w hSw; go_simp; try with_reducible rfl)
      try simp only [Act.put, List.setIfInBounds_toArray, List.set_cons_zero, List.set_cons_succ]
      refine wpAnyH_take (i := 12) (v := ?_) rfl (by kernel_rfl) (by kernel_rfl) (by kernel_rfl) (fun _ _ _ h => h) (Or.inl ⟨by rfl, ?_⟩) (by assumption) ?_
      rotate_left
      · (intro w hSw; go_simp; try with_reducible rfl)
      try simp only [Act.put, List.setIfInBounds_toArray, List.set_cons_zero, List.set_cons_succ]
      refine wpAnyH_take (i := 13) (v := ?_) rfl (by kernel_rfl) (by kernel_rfl) (by kernel_rfl) (fun _ _ _ h => h) (Or.inl ⟨by rfl, ?_⟩) (by assumption) ?_
      rotate_left
      · (intro w hSw; go_simp; try with_reducible rfl)
      try simp only [Act.put, List.setIfInBounds_toArray, List.set_cons_zero, List.set_cons_succ]
      refine wpAnyH_ready (rs := [1, 16]) (by kernel_rfl) (by simp) ?_
      refine AllReadyH.cons rfl (fun K hK => ?_) ?_
      · go_simp
        (go_at_call 41; (with_reducible refine (HA1.out _ (own_Rd HOD.out)).mono ?_); rintro r w7 ⟨rfl, hb⟩; replace HH := Aside0.mk (HH.out.bel hb); replace HOD := Aside0.mk (pw_own_below HOD.out hb); clear hb)
        try go_simp
        refine hK.out _ _ trivial (fun hHeld => ?_)
        clear hK K
        refine wpAnyH_ready (rs := [4, 16]) (by kernel_rfl) (by simp) ?_
        refine AllReadyH.cons rfl (fun K hK => ?_) ?_
        · go_simp
          (go_at_call 60; (with_reducible refine (HHD.out _ (own_Rd HOD.out)).mono ?_); rintro r w7 ⟨m8, m9, rfl, hr8, hr9, hb⟩; obtain ⟨M8, N8, rfl⟩ := own_slice (Kd.own_of_R hr8); obtain ⟨M9, N9, rfl⟩ := own_slice (Kd.own_of_R hr9); clear hr8 hr9; replace HH := Aside0.mk (HH.out.bel hb); replace HOD := Aside0.mk (pw_own_below HOD.out hb); clear hb)
          try go_simp
          refine hK.out _ _ trivial (fun hHeld => ?_)
          clear hK K
          refine wpAnyH_ready (rs := [6, 16]) (by kernel_rfl) (by simp) ?_
          refine AllReadyH.cons rfl (fun K hK => ?_) ?_
          · go_simp
            (go_at_call 41; (with_reducible refine (HA5.out _ (own_Rd HOD.out)).mono ?_); rintro r w7 ⟨rfl, hb⟩; replace HH := Aside0.mk (HH.out.bel hb); replace HOD := Aside0.mk (pw_own_below HOD.out hb); clear hb)
            try go_simp
            refine hK.out _ _ trivial (fun hHeld => ?_)
            clear hK K
            refine wpAnyH_ready (rs := [8, 16]) (by kernel_rfl) (by simp) ?_
            refine AllReadyH.cons rfl (fun K hK => ?_) ?_
            · go_simp
              (go_at_call 41; (with_reducible refine (HA6.out _ (own_Rd HOD.out)).mono ?_); rintro r w7 ⟨rfl, hb⟩; replace HH := Aside0.mk (HH.out.bel hb); replace HOD := Aside0.mk (pw_own_below HOD.out hb); clear hb)
              try go_simp
              refine hK.out _ _ trivial (fun hHeld => ?_)
              clear hK K
              refine wpAnyH_ready (rs := [11, 16]) (by kernel_rfl) (by simp) ?_
              refine AllReadyH.cons rfl (fun K hK => ?_) ?_
              · go_simp
                (go_at_call 40; (with_reducible refine (HN7.out _ (own_Rd HOD.out)).mono ?_); rintro r w7 ⟨rfl, hb⟩; replace HH := Aside0.mk (HH.out.bel hb); replace HOD := Aside0.mk (pw_own_below HOD.out hb); clear hb)
                try go_simp
                refine hK.out _ _ trivial (fun hHeld => ?_)
                clear hK K
                refine wpAnyH_ready (rs := [14, 16]) (by kernel_rfl) (by simp) ?_
                refine AllReadyH.cons rfl (fun K hK => ?_) ?_
                · go_simp
                  (go_at_call 40; (with_reducible refine (HN8.out _ (own_Rd HOD.out)).mono ?_); rintro r w7 ⟨rfl, hb⟩; replace HH := Aside0.mk (HH.out.bel hb); replace HOD := Aside0.mk (pw_own_below HOD.out hb); clear hb)
                  try go_simp
                  refine hK.out _ _ trivial (fun hHeld => ?_)
                  clear hK K
                  refine wpAnyH_take (i := 15) (v := ?_) rfl (by kernel_rfl) (by kernel_rfl) (by kernel_rfl) (fun _ _ _ h => h) (Or.inl ⟨by rfl, ?_⟩) (by assumption) ?_
                  rotate_left
                  · (intro w hSw; go_simp; try with_reducible rfl)
                  try simp only [Act.put, List.setIfInBounds_toArray, List.set_cons_zero, List.set_cons_succ]
                  refine wpAnyH_ready (rs := [16]) (by kernel_rfl) (by simp) ?_
                  refine AllReadyH.cons rfl (fun K hK => ?_) AllReadyH.nil
                  go_simp
                  refine hK.out _ _ trivial (fun hHeld => ?_)
                  clear hK K hHeld
                  refine any_gen (fun W => HR w0 w W g A c b (aH, 0) 39 #[.int .i64 0, .int .i64 0, .int .i64 0, .int .i64 0, .int .i64 0, .int .u32 0, .int .u32 0, .int .u32 0, .slice none 0 0, .slice none 0 0, .int .i64 0, .int .i64 0, .int .i64 0, .int .u32 0, .int .u32 0, .slice none 0 0] ∧ W.heap[w7.heap.size]? = some (.cells #[.int .i64 0, .int .i64 0, .int .i64 0, .int .i64 0, .int .i64 0, .int .u32 0, .int .u32 0, .int .u32 0, .slice none 0 0, .slice none 0 0, .int .i64 0, .int .i64 0, .int .i64 0, .int .u32 0, .int .u32 0, .slice none 0 0] 39 (0, 0)) ∧ W.ownsRow w.heap.size 5 1 (.slice A5 D.length c5) D.length (nums .u8 D)) ⟨HH.out.bel (below_alloc (Below.refl _ _) _), (heap_alloc_new w7 _), pw_own_below HOD.out (below_alloc (Below.refl _ _) _)⟩ ?_
                  obtain ⟨bx, hbx⟩ : ∃ bx, w7.heap.size = bx := ⟨_, rfl⟩
                  have HLT : Aside0 (w.heap.size < bx) := ⟨hbx ▸ blk_lt HH.out.r2⟩
                  rw [hbx]
                  rintro w7 ⟨hh, hx, hod⟩
                  replace HH := Aside0.mk hh
                  have HX := Aside0.mk hx
                  replace HOD := Aside0.mk hod
                  clear hh hx hod hbx
                  have hHeld : (fun _ : World => True) w7 := trivial
                  refine wpAnyH_ready (rs := [17]) (by kernel_rfl) (by simp) ?_
                  refine AllReadyH.cons rfl (fun K hK => ?_) AllReadyH.nil
                  rw [if_pos (by rfl)]
                  refine wp_store_mid 39 (.tmp 6) (.tmp 41) rfl bx 0 #[.int .i64 x2, .int .i64 x3, .int .i64 x4, .int .i64 x5, .int .i64 x6, .int .u32 x7, .int .u32 x8, .int .u32 x9, .slice M8 ([] : List Int).length N8, .slice M9 ([] : List Int).length N9, .int .i64 x1, .int .i64 x13, .int .i64 x14, .int .u32 x15, .int .u32 x16, .slice none 0 0] rfl rfl (there_of HX.out _ (by simp)) (by kernel_rfl) (by simp [Value.oneCell']) ?_
                  refine hK.out _ _ trivial (fun _ => ?_)
                  refine wpAnyH_done (by kernel_rfl) ?_ _
                  refine hM0 _ _ (Met.intro (hJ0 _ _ ?_))
                  (repeat apply Exists.intro)
                  refine ⟨?_, rfl⟩
                  exact ⟨bx, M8, N8, M9, N9, rfl, HLT.out, HH.out.farS HLT.out _, blk_putall HX.out rfl, own_setCells HOD.out HX.out (by decide) _⟩
                refine AllReadyH.cons rfl (fun K hK => ?_) AllReadyH.nil
                go_simp
                refine hK.out _ _ trivial (fun hHeld => ?_)
                clear hK K hHeld
                refine any_gen (fun W => HR w0 w W g A c b (aH, 0) 39 #[.int .i64 0, .int .i64 0, .int .i64 0, .int .i64 0, .int .i64 0, .int .u32 0, .int .u32 0, .int .u32 0, .slice none 0 0, .slice none 0 0, .int .i64 0, .int .i64 0, .int .i64 0, .int .u32 0, .int .u32 0, .slice none 0 0] ∧ W.heap[w7.heap.size]? = some (.cells #[.int .i64 0, .int .i64 0, .int .i64 0, .int .i64 0, .int .i64 0, .int .u32 0, .int .u32 0, .int .u32 0, .slice none 0 0, .slice none 0 0, .int .i64 0, .int .i64 0, .int .i64 0, .int .u32 0, .int .u32 0, .slice none 0 0] 39 (0, 0)) ∧ W.ownsRow w.heap.size 5 1 (.slice A5 D.length c5) D.length (nums .u8 D)) ⟨HH.out.bel (below_alloc (Below.refl _ _) _), (heap_alloc_new w7 _), pw_own_below HOD.out (below_alloc (Below.refl _ _) _)⟩ ?_
                obtain ⟨bx, hbx⟩ : ∃ bx, w7.heap.size = bx := ⟨_, rfl⟩
                have HLT : Aside0 (w.heap.size < bx) := ⟨hbx ▸ blk_lt HH.out.r2⟩
                rw [hbx]
                rintro w7 ⟨hh, hx, hod⟩
                replace HH := Aside0.mk hh
                have HX := Aside0.mk hx
                replace HOD := Aside0.mk hod
                clear hh hx hod hbx
                have hHeld : (fun _ : World => True) w7 := trivial
                refine wpAnyH_ready (rs := [14]) (by kernel_rfl) (by simp) ?_
                refine AllReadyH.cons rfl (fun K hK => ?_) AllReadyH.nil
                · go_simp
                  (go_at_call 40; (with_reducible refine (HN8.out _ (own_Rd HOD.out)).mono ?_); rintro r w7 ⟨rfl, hb⟩; replace HH := Aside0.mk (HH.out.bel hb); replace HOD := Aside0.mk (pw_own_below HOD.out hb); replace HX := Aside0.mk (blk_below HX.out hb); clear hb)
                  try go_simp
                  refine hK.out _ _ trivial (fun hHeld => ?_)
                  clear hK K
                  refine wpAnyH_take (i := 15) (v := ?_) rfl (by kernel_rfl) (by kernel_rfl) (by kernel_rfl) (fun _ _ _ h => h) (Or.inl ⟨by rfl, ?_⟩) (by assumption) ?_
                  rotate_left
                  · (intro w hSw; go_simp; try with_reducible rfl)
                  try simp only [Act.put, List.setIfInBounds_toArray, List.set_cons_zero, List.set_cons_succ]
                  refine wpAnyH_ready (rs := [17]) (by kernel_rfl) (by simp) ?_
                  refine AllReadyH.cons rfl (fun K hK => ?_) AllReadyH.nil
                  rw [if_pos (by rfl)]
                  refine wp_store_mid 39 (.tmp 6) (.tmp 41) rfl bx 0 #[.int .i64 x2, .int .i64 x3, .int .i64 x4, .int .i64 x5, .int .i64 x6, .int .u32 x7, .int .u32 x8, .int .u32 x9, .slice M8 ([] : List Int).length N8, .slice M9 ([] : List Int).length N9, .int .i64 x1, .int .i64 x13, .int .i64 x14, .int .u32 x15, .int .u32 x16, .slice none 0 0] rfl rfl (there_of HX.out _ (by simp)) (by kernel_rfl) (by simp [Value.oneCell']) ?_
                  refine hK.out _ _ trivial (fun _ => ?_)
                  refine wpAnyH_done (by kernel_rfl) ?_ _
                  refine hM0 _ _ (Met.intro (hJ0 _ _ ?_))
                  (repeat apply Exists.intro)
                  refine ⟨?_, rfl⟩
                  exact ⟨bx, M8, N8, M9, N9, rfl, HLT.out, HH.out.farS HLT.out _, blk_putall HX.out rfl, own_setCells HOD.out HX.out (by decide) _⟩
              refine AllReadyH.cons rfl (fun K hK => ?_) AllReadyH.nil
              go_simp
              refine hK.out _ _ trivial (fun hHeld => ?_)
              clear hK K hHeld
              refine any_gen (fun W => HR w0 w W g A c b (aH, 0) 39 #[.int .i64 0, .int .i64 0, .int .i64 0, .int .i64 0, .int .i64 0, .int .u32 0, .int .u32 0, .int .u32 0, .slice none 0 0, .slice none 0 0, .int .i64 0, .int .i64 0, .int .i64 0, .int .u32 0, .int .u32 0, .slice none 0 0] ∧ W.heap[w7.heap.size]? = some (.cells #[.int .i64 0, .int .i64 0, .int .i64 0, .int .i64 0, .int .i64 0, .int .u32 0, .int .u32 0, .int .u32 0, .slice none 0 0, .slice none 0 0, .int .i64 0, .int .i64 0, .int .i64 0, .int .u32 0, .int .u32 0, .slice none 0 0] 39 (0, 0)) ∧ W.ownsRow w.heap.size 5 1 (.slice A5 D.length c5) D.length (nums .u8 D)) ⟨HH.out.bel (below_alloc (Below.refl _ _) _), (heap_alloc_new w7 _), pw_own_below HOD.out (below_alloc (Below.refl _ _) _)⟩ ?_
              obtain ⟨bx, hbx⟩ : ∃ bx, w7.heap.size = bx := ⟨_, rfl⟩
              have HLT : Aside0 (w.heap.size < bx) := ⟨hbx ▸ blk_lt HH.out.r2⟩
              rw [hbx]
              rintro w7 ⟨hh, hx, hod⟩
              replace HH := Aside0.mk hh
              have HX := Aside0.mk hx
              replace HOD := Aside0.mk hod
              clear hh hx hod hbx
              have hHeld : (fun _ : World => True) w7 := trivial
              refine wpAnyH_ready (rs := [11]) (by kernel_rfl) (by simp) ?_
              refine AllReadyH.cons rfl (fun K hK => ?_) AllReadyH.nil
              · go_simp
                (go_at_call 40; (with_reducible refine (HN7.out _ (own_Rd HOD.out)).mono ?_); rintro r w7 ⟨rfl, hb⟩; replace HH := Aside0.mk (HH.out.bel hb); replace HOD := Aside0.mk (pw_own_below HOD.out hb); replace HX := Aside0.mk (blk_below HX.out hb); clear hb)
                try go_simp
                refine hK.out _ _ trivial (fun hHeld => ?_)
                clear hK K
                refine wpAnyH_ready (rs := [14]) (by kernel_rfl) (by simp) ?_
                refine AllReadyH.cons rfl (fun K hK => ?_) AllReadyH.nil
                · go_simp
                  (go_at_call 40; (with_reducible refine (HN8.out _ (own_Rd HOD.out)).mono ?_); rintro r w7 ⟨rfl, hb⟩; replace HH := Aside0.mk (HH.out.bel hb); replace HOD := Aside0.mk (pw_own_below HOD.out hb); replace HX := Aside0.mk (blk_below HX.out hb); clear hb)
                  try go_simp
                  refine hK.out _ _ trivial (fun hHeld => ?_)
                  clear hK K
                  refine wpAnyH_take (i := 15) (v := ?_) rfl (by kernel_rfl) (by kernel_rfl) (by kernel_rfl) (fun _ _ _ h => h) (Or.inl ⟨by rfl, ?_⟩) (by assumption) ?_
                  rotate_left
                  · (intro w hSw; go_simp; try with_reducible rfl)
                  try simp only [Act.put, List.setIfInBounds_toArray, List.set_cons_zero, List.set_cons_succ]
                  refine wpAnyH_ready (rs := [17]) (by kernel_rfl) (by simp) ?_
                  refine AllReadyH.cons rfl (fun K hK => ?_) AllReadyH.nil
                  rw [if_pos (by rfl)]
                  refine wp_store_mid 39 (.tmp 6) (.tmp 41) rfl bx 0 #[.int .i64 x2, .int .i64 x3, .int .i64 x4, .int .i64 x5, .int .i64 x6, .int .u32 x7, .int .u32 x8, .int .u32 x9, .slice M8 ([] : List Int).length N8, .slice M9 ([] : List Int).length N9, .int .i64 x1, .int .i64 x13, .int .i64 x14, .int .u32 x15, .int .u32 x16, .slice none 0 0] rfl rfl (there_of HX.out _ (by simp)) (by kernel_rfl) (by simp [Value.oneCell']) ?_
                  refine hK.out _ _ trivial (fun _ => ?_)
                  refine wpAnyH_done (by kernel_rfl) ?_ _
                  refine hM0 _ _ (Met.intro (hJ0 _ _ ?_))
                  (repeat apply Exists.intro)
                  refine ⟨?_, rfl⟩
                  exact ⟨bx, M8, N8, M9, N9, rfl, HLT.out, HH.out.farS HLT.out _, blk_putall HX.out rfl, own_setCells HOD.out HX.out (by decide) _⟩
            refine AllReadyH.cons rfl (fun K hK => ?_) AllReadyH.nil
            go_simp
            refine hK.out _ _ trivial (fun hHeld => ?_)
            clear hK K hHeld
            refine any_gen (fun W => HR w0 w W g A c b (aH, 0) 39 #[.int .i64 0, .int .i64 0, .int .i64 0, .int .i64 0, .int .i64 0, .int .u32 0, .int .u32 0, .int .u32 0, .slice none 0 0, .slice none 0 0, .int .i64 0, .int .i64 0, .int .i64 0, .int .u32 0, .int .u32 0, .slice none 0 0] ∧ W.heap[w7.heap.size]? = some (.cells #[.int .i64 0, .int .i64 0, .int .i64 0, .int .i64 0, .int .i64 0, .int .u32 0, .int .u32 0, .int .u32 0, .slice none 0 0, .slice none 0 0, .int .i64 0, .int .i64 0, .int .i64 0, .int .u32 0, .int .u32 0, .slice none 0 0] 39 (0, 0)) ∧ W.ownsRow w.heap.size 5 1 (.slice A5 D.length c5) D.length (nums .u8 D)) ⟨HH.out.bel (below_alloc (Below.refl _ _) _), (heap_alloc_new w7 _), pw_own_below HOD.out (below_alloc (Below.refl _ _) _)⟩ ?_
            obtain ⟨bx, hbx⟩ : ∃ bx, w7.heap.size = bx := ⟨_, rfl⟩
            have HLT : Aside0 (w.heap.size < bx) := ⟨hbx ▸ blk_lt HH.out.r2⟩
            rw [hbx]
            rintro w7 ⟨hh, hx, hod⟩
            replace HH := Aside0.mk hh
            have HX := Aside0.mk hx
            replace HOD := Aside0.mk hod
            clear hh hx hod hbx
            have hHeld : (fun _ : World => True) w7 := trivial
            refine wpAnyH_ready (rs := [8]) (by kernel_rfl) (by simp) ?_
            refine AllReadyH.cons rfl (fun K hK => ?_) AllReadyH.nil
            · go_simp
              (go_at_call 41; (with_reducible refine (HA6.out _ (own_Rd HOD.out)).mono ?_); rintro r w7 ⟨rfl, hb⟩; replace HH := Aside0.mk (HH.out.bel hb); replace HOD := Aside0.mk (pw_own_below HOD.out hb); replace HX := Aside0.mk (blk_below HX.out hb); clear hb)
              try go_simp
              refine hK.out _ _ trivial (fun hHeld => ?_)
              clear hK K
              refine wpAnyH_ready (rs := [11]) (by kernel_rfl) (by simp) ?_
              refine AllReadyH.cons rfl (fun K hK => ?_) AllReadyH.nil
              · go_simp
                (go_at_call 40; (with_reducible refine (HN7.out _ (own_Rd HOD.out)).mono ?_); rintro r w7 ⟨rfl, hb⟩; replace HH := Aside0.mk (HH.out.bel hb); replace HOD := Aside0.mk (pw_own_below HOD.out hb); replace HX := Aside0.mk (blk_below HX.out hb); clear hb)
                try go_simp
                refine hK.out _ _ trivial (fun hHeld => ?_)
                clear hK K
                refine wpAnyH_ready (rs := [14]) (by kernel_rfl) (by simp) ?_
                refine AllReadyH.cons rfl (fun K hK => ?_) AllReadyH.nil
                · go_simp
                  (go_at_call 40; (with_reducible refine (HN8.out _ (own_Rd HOD.out)).mono ?_); rintro r w7 ⟨rfl, hb⟩; replace HH := Aside0.mk (HH.out.bel hb); replace HOD := Aside0.mk (pw_own_below HOD.out hb); replace HX := Aside0.mk (blk_below HX.out hb); clear hb)
                  try go_simp
                  refine hK.out _ _ trivial (fun hHeld => ?_)
                  clear hK K
                  refine wpAnyH_take (i := 15) (v := ?_) rfl (by kernel_rfl) (by kernel_rfl) (by kernel_rfl) (fun _ _ _ h => h) (Or.inl ⟨by rfl, ?_⟩) (by assumption) ?_
                  rotate_left
                  · (intro w hSw; go_simp; try with_reducible rfl)
                  try simp only [Act.put, List.setIfInBounds_toArray, List.set_cons_zero, List.set_cons_succ]
                  refine wpAnyH_ready (rs := [17]) (by kernel_rfl) (by simp) ?_
                  refine AllReadyH.cons rfl (fun K hK => ?_) AllReadyH.nil
                  rw [if_pos (by rfl)]
                  refine wp_store_mid 39 (.tmp 6) (.tmp 41) rfl bx 0 #[.int .i64 x2, .int .i64 x3, .int .i64 x4, .int .i64 x5, .int .i64 x6, .int .u32 x7, .int .u32 x8, .int .u32 x9, .slice M8 ([] : List Int).length N8, .slice M9 ([] : List Int).length N9, .int .i64 x1, .int .i64 x13, .int .i64 x14, .int .u32 x15, .int .u32 x16, .slice none 0 0] rfl rfl (there_of HX.out _ (by simp)) (by kernel_rfl) (by simp [Value.oneCell']) ?_
                  refine hK.out _ _ trivial (fun _ => ?_)
                  refine wpAnyH_done (by kernel_rfl) ?_ _
                  refine hM0 _ _ (Met.intro (hJ0 _ _ ?_))
                  (repeat apply Exists.intro)
                  refine ⟨?_, rfl⟩
                  exact ⟨bx, M8, N8, M9, N9, rfl, HLT.out, HH.out.farS HLT.out _, blk_putall HX.out rfl, own_setCells HOD.out HX.out (by decide) _⟩
          refine AllReadyH.cons rfl (fun K hK => ?_) AllReadyH.nil
          go_simp
          refine hK.out _ _ trivial (fun hHeld => ?_)
          clear hK K hHeld
          refine any_gen (fun W => HR w0 w W g A c b (aH, 0) 39 #[.int .i64 0, .int .i64 0, .int .i64 0, .int .i64 0, .int .i64 0, .int .u32 0, .int .u32 0, .int .u32 0, .slice none 0 0, .slice none 0 0, .int .i64 0, .int .i64 0, .int .i64 0, .int .u32 0, .int .u32 0, .slice none 0 0] ∧ W.heap[w7.heap.size]? = some (.cells #[.int .i64 0, .int .i64 0, .int .i64 0, .int .i64 0, .int .i64 0, .int .u32 0, .int .u32 0, .int .u32 0, .slice none 0 0, .slice none 0 0, .int .i64 0, .int .i64 0, .int .i64 0, .int .u32 0, .int .u32 0, .slice none 0 0] 39 (0, 0)) ∧ W.ownsRow w.heap.size 5 1 (.slice A5 D.length c5) D.length (nums .u8 D)) ⟨HH.out.bel (below_alloc (Below.refl _ _) _), (heap_alloc_new w7 _), pw_own_below HOD.out (below_alloc (Below.refl _ _) _)⟩ ?_
          obtain ⟨bx, hbx⟩ : ∃ bx, w7.heap.size = bx := ⟨_, rfl⟩
          have HLT : Aside0 (w.heap.size < bx) := ⟨hbx ▸ blk_lt HH.out.r2⟩
          rw [hbx]
          rintro w7 ⟨hh, hx, hod⟩
          replace HH := Aside0.mk hh
          have HX := Aside0.mk hx
          replace HOD := Aside0.mk hod
          clear hh hx hod hbx
          have hHeld : (fun _ : World => True) w7 := trivial
          refine wpAnyH_ready (rs := [6]) (by kernel_rfl) (by simp) ?_
          refine AllReadyH.cons rfl (fun K hK => ?_) AllReadyH.nil
          · go_simp
            (go_at_call 41; (with_reducible refine (HA5.out _ (own_Rd HOD.out)).mono ?_); rintro r w7 ⟨rfl, hb⟩; replace HH := Aside0.mk (HH.out.bel hb); replace HOD := Aside0.mk (pw_own_below HOD.out hb); replace HX := Aside0.mk (blk_below HX.out hb); clear hb)
            try go_simp
            refine hK.out _ _ trivial (fun hHeld => ?_)
            clear hK K
            refine wpAnyH_ready (rs := [8]) (by kernel_rfl) (by simp) ?_
            refine AllReadyH.cons rfl (fun K hK => ?_) AllReadyH.nil
            · go_simp
              (go_at_call 41; (with_reducible refine (HA6.out _ (own_Rd HOD.out)).mono ?_); rintro r w7 ⟨rfl, hb⟩; replace HH := Aside0.mk (HH.out.bel hb); replace HOD := Aside0.mk (pw_own_below HOD.out hb); replace HX := Aside0.mk (blk_below HX.out hb); clear hb)
              try go_simp
              refine hK.out _ _ trivial (fun hHeld => ?_)
              clear hK K
              refine wpAnyH_ready (rs := [11]) (by kernel_rfl) (by simp) ?_
              refine AllReadyH.cons rfl (fun K hK => ?_) AllReadyH.nil
              · go_simp
                (go_at_call 40; (with_reducible refine (HN7.out _ (own_Rd HOD.out)).mono ?_); rintro r w7 ⟨rfl, hb⟩; replace HH := Aside0.mk (HH.out.bel hb); replace HOD := Aside0.mk (pw_own_below HOD.out hb); replace HX := Aside0.mk (blk_below HX.out hb); clear hb)
                try go_simp
                refine hK.out _ _ trivial (fun hHeld => ?_)
                clear hK K
                refine wpAnyH_ready (rs := [14]) (by kernel_rfl) (by simp) ?_
                refine AllReadyH.cons rfl (fun K hK => ?_) AllReadyH.nil
                · go_simp
                  (go_at_call 40; (with_reducible refine (HN8.out _ (own_Rd HOD.out)).mono ?_); rintro r w7 ⟨rfl, hb⟩; replace HH := Aside0.mk (HH.out.bel hb); replace HOD := Aside0.mk (pw_own_below HOD.out hb); replace HX := Aside0.mk (blk_below HX.out hb); clear hb)
                  try go_simp
                  refine hK.out _ _ trivial (fun hHeld => ?_)
                  clear hK K
                  refine wpAnyH_take (i := 15) (v := ?_) rfl (by kernel_rfl) (by kernel_rfl) (by kernel_rfl) (fun _ _ _ h => h) (Or.inl ⟨by rfl, ?_⟩) (by assumption) ?_
                  rotate_left
                  · (intro w hSw; go_simp; try with_reducible rfl)
                  try simp only [Act.put, List.setIfInBounds_toArray, List.set_cons_zero, List.set_cons_succ]
                  refine wpAnyH_ready (rs := [17]) (by kernel_rfl) (by simp) ?_
                  refine AllReadyH.cons rfl (fun K hK => ?_) AllReadyH.nil
                  rw [if_pos (by rfl)]
                  refine wp_store_mid 39 (.tmp 6) (.tmp 41) rfl bx 0 #[.int .i64 x2, .int .i64 x3, .int .i64 x4, .int .i64 x5, .int .i64 x6, .int .u32 x7, .int .u32 x8, .int .u32 x9, .slice M8 ([] : List Int).length N8, .slice M9 ([] : List Int).length N9, .int .i64 x1, .int .i64 x13, .int .i64 x14, .int .u32 x15, .int .u32 x16, .slice none 0 0] rfl rfl (there_of HX.out _ (by simp)) (by kernel_rfl) (by simp [Value.oneCell']) ?_
                  refine hK.out _ _ trivial (fun _ => ?_)
                  refine wpAnyH_done (by kernel_rfl) ?_ _
                  refine hM0 _ _ (Met.intro (hJ0 _ _ ?_))
                  (repeat apply Exists.intro)
                  refine ⟨?_, rfl⟩
                  exact ⟨bx, M8, N8, M9, N9, rfl, HLT.out, HH.out.farS HLT.out _, blk_putall HX.out rfl, own_setCells HOD.out HX.out (by decide) _⟩
        refine AllReadyH.cons rfl (fun K hK => ?_) AllReadyH.nil
        go_simp
        refine hK.out _ _ trivial (fun hHeld => ?_)
        clear hK K hHeld
        refine any_gen (fun W => HR w0 w W g A c b (aH, 0) 39 #[.int .i64 0, .int .i64 0, .int .i64 0, .int .i64 0, .int .i64 0, .int .u32 0, .int .u32 0, .int .u32 0, .slice none 0 0, .slice none 0 0, .int .i64 0, .int .i64 0, .int .i64 0, .int .u32 0, .int .u32 0, .slice none 0 0] ∧ W.heap[w7.heap.size]? = some (.cells #[.int .i64 0, .int .i64 0, .int .i64 0, .int .i64 0, .int .i64 0, .int .u32 0, .int .u32 0, .int .u32 0, .slice none 0 0, .slice none 0 0, .int .i64 0, .int .i64 0, .int .i64 0, .int .u32 0, .int .u32 0, .slice none 0 0] 39 (0, 0)) ∧ W.ownsRow w.heap.size 5 1 (.slice A5 D.length c5) D.length (nums .u8 D)) ⟨HH.out.bel (below_alloc (Below.refl _ _) _), (heap_alloc_new w7 _), pw_own_below HOD.out (below_alloc (Below.refl _ _) _)⟩ ?_
        obtain ⟨bx, hbx⟩ : ∃ bx, w7.heap.size = bx := ⟨_, rfl⟩
        have HLT : Aside0 (w.heap.size < bx) := ⟨hbx ▸ blk_lt HH.out.r2⟩
        rw [hbx]
        rintro w7 ⟨hh, hx, hod⟩
        replace HH := Aside0.mk hh
        have HX := Aside0.mk hx
        replace HOD := Aside0.mk hod
        clear hh hx hod hbx
        have hHeld : (fun _ : World => True) w7 := trivial
        refine wpAnyH_ready (rs := [4]) (by kernel_rfl) (by simp) ?_
        refine AllReadyH.cons rfl (fun K hK => ?_) AllReadyH.nil
        · go_simp
          (go_at_call 60; (with_reducible refine (HHD.out _ (own_Rd HOD.out)).mono ?_); rintro r w7 ⟨m8, m9, rfl, hr8, hr9, hb⟩; obtain ⟨M8, N8, rfl⟩ := own_slice (Kd.own_of_R hr8); obtain ⟨M9, N9, rfl⟩ := own_slice (Kd.own_of_R hr9); clear hr8 hr9; replace HH := Aside0.mk (HH.out.bel hb); replace HOD := Aside0.mk (pw_own_below HOD.out hb); replace HX := Aside0.mk (blk_below HX.out hb); clear hb)
          try go_simp
          refine hK.out _ _ trivial (fun hHeld => ?_)
          clear hK K
          refine wpAnyH_ready (rs := [6]) (by kernel_rfl) (by simp) ?_
          refine AllReadyH.cons rfl (fun K hK => ?_) AllReadyH.nil
          · go_simp
            (go_at_call 41; (with_reducible refine (HA5.out _ (own_Rd HOD.out)).mono ?_); rintro r w7 ⟨rfl, hb⟩; replace HH := Aside0.mk (HH.out.bel hb); replace HOD := Aside0.mk (pw_own_below HOD.out hb); replace HX := Aside0.mk (blk_below HX.out hb); clear hb)
            try go_simp
            refine hK.out _ _ trivial (fun hHeld => ?_)
            clear hK K
            refine wpAnyH_ready (rs := [8]) (by kernel_rfl) (by simp) ?_
            refine AllReadyH.cons rfl (fun K hK => ?_) AllReadyH.nil
            · go_simp
              (go_at_call 41; (with_reducible refine (HA6.out _ (own_Rd HOD.out)).mono ?_); rintro r w7 ⟨rfl, hb⟩; replace HH := Aside0.mk (HH.out.bel hb); replace HOD := Aside0.mk (pw_own_below HOD.out hb); replace HX := Aside0.mk (blk_below HX.out hb); clear hb)
              try go_simp
              refine hK.out _ _ trivial (fun hHeld => ?_)
              clear hK K
              refine wpAnyH_ready (rs := [11]) (by kernel_rfl) (by simp) ?_
              refine AllReadyH.cons rfl (fun K hK => ?_) AllReadyH.nil
              · go_simp
                (go_at_call 40; (with_reducible refine (HN7.out _ (own_Rd HOD.out)).mono ?_); rintro r w7 ⟨rfl, hb⟩; replace HH := Aside0.mk (HH.out.bel hb); replace HOD := Aside0.mk (pw_own_below HOD.out hb); replace HX := Aside0.mk (blk_below HX.out hb); clear hb)
                try go_simp
                refine hK.out _ _ trivial (fun hHeld => ?_)
                clear hK K
                refine wpAnyH_ready (rs := [14]) (by kernel_rfl) (by simp) ?_
                refine AllReadyH.cons rfl (fun K hK => ?_) AllReadyH.nil
                · go_simp
                  (go_at_call 40; (with_reducible refine (HN8.out _ (own_Rd HOD.out)).mono ?_); rintro r w7 ⟨rfl, hb⟩; replace HH := Aside0.mk (HH.out.bel hb); replace HOD := Aside0.mk (pw_own_below HOD.out hb); replace HX := Aside0.mk (blk_below HX.out hb); clear hb)
                  try go_simp
                  refine hK.out _ _ trivial (fun hHeld => ?_)
                  clear hK K
                  refine wpAnyH_take (i := 15) (v := ?_) rfl (by kernel_rfl) (by kernel_rfl) (by kernel_rfl) (fun _ _ _ h => h) (Or.inl ⟨by rfl, ?_⟩) (by assumption) ?_
                  rotate_left
                  · (intro w hSw; go_simp; try with_reducible rfl)
                  try simp only [Act.put, List.setIfInBounds_toArray, List.set_cons_zero, List.set_cons_succ]
                  refine wpAnyH_ready (rs := [17]) (by kernel_rfl) (by simp) ?_
                  refine AllReadyH.cons rfl (fun K hK => ?_) AllReadyH.nil
                  rw [if_pos (by rfl)]
                  refine wp_store_mid 39 (.tmp 6) (.tmp 41) rfl bx 0 #[.int .i64 x2, .int .i64 x3, .int .i64 x4, .int .i64 x5, .int .i64 x6, .int .u32 x7, .int .u32 x8, .int .u32 x9, .slice M8 ([] : List Int).length N8, .slice M9 ([] : List Int).length N9, .int .i64 x1, .int .i64 x13, .int .i64 x14, .int .u32 x15, .int .u32 x16, .slice none 0 0] rfl rfl (there_of HX.out _ (by simp)) (by kernel_rfl) (by simp [Value.oneCell']) ?_
                  refine hK.out _ _ trivial (fun _ => ?_)
                  refine wpAnyH_done (by kernel_rfl) ?_ _
                  refine hM0 _ _ (Met.intro (hJ0 _ _ ?_))
                  (repeat apply Exists.intro)
                  refine ⟨?_, rfl⟩
                  exact ⟨bx, M8, N8, M9, N9, rfl, HLT.out, HH.out.farS HLT.out _, blk_putall HX.out rfl, own_setCells HOD.out HX.out (by decide) _⟩
      refine AllReadyH.cons rfl (fun K hK => ?_) AllReadyH.nil
      go_simp
      refine hK.out _ _ trivial (fun hHeld => ?_)
      clear hK K hHeld
      refine any_gen (fun W => HR w0 w W g A c b (aH, 0) 39 #[.int .i64 0, .int .i64 0, .int .i64 0, .int .i64 0, .int .i64 0, .int .u32 0, .int .u32 0, .int .u32 0, .slice none 0 0, .slice none 0 0, .int .i64 0, .int .i64 0, .int .i64 0, .int .u32 0, .int .u32 0, .slice none 0 0] ∧ W.heap[w7.heap.size]? = some (.cells #[.int .i64 0, .int .i64 0, .int .i64 0, .int .i64 0, .int .i64 0, .int .u32 0, .int .u32 0, .int .u32 0, .slice none 0 0, .slice none 0 0, .int .i64 0, .int .i64 0, .int .i64 0, .int .u32 0, .int .u32 0, .slice none 0 0] 39 (0, 0)) ∧ W.ownsRow w.heap.size 5 1 (.slice A5 D.length c5) D.length (nums .u8 D)) ⟨HH0.out.bel (below_drew (below_alloc (Below.refl _ _) _)), (show (World.drew (w7.alloc _)).heap[w7.heap.size]? = _ from heap_alloc_new w7 _), pw_own_below HOD0.out (below_drew (below_alloc (Below.refl _ _) _))⟩ ?_
      obtain ⟨bx, hbx⟩ : ∃ bx, w7.heap.size = bx := ⟨_, rfl⟩
      have HLT : Aside0 (w.heap.size < bx) := ⟨hbx ▸ blk_lt HH0.out.r2⟩
      rw [hbx]
      rintro w7 ⟨hh, hx, hod⟩
      replace HH := Aside0.mk hh
      have HX := Aside0.mk hx
      replace HOD := Aside0.mk hod
      clear hh hx hod hbx
      have hHeld : (fun _ : World => True) w7 := trivial
      refine wpAnyH_ready (rs := [1]) (by kernel_rfl) (by simp) ?_
      refine AllReadyH.cons rfl (fun K hK => ?_) AllReadyH.nil
      · go_simp
        (go_at_call 41; (with_reducible refine (HA1.out _ (own_Rd HOD.out)).mono ?_); rintro r w7 ⟨rfl, hb⟩; replace HH := Aside0.mk (HH.out.bel hb); replace HOD := Aside0.mk (pw_own_below HOD.out hb); replace HX := Aside0.mk (blk_below HX.out hb); clear hb)
        try go_simp
        refine hK.out _ _ trivial (fun hHeld => ?_)
        clear hK K
        refine wpAnyH_ready (rs := [4]) (by kernel_rfl) (by simp) ?_
        refine AllReadyH.cons rfl (fun K hK => ?_) AllReadyH.nil
        · go_simp
          (go_at_call 60; (with_reducible refine (HHD.out _ (own_Rd HOD.out)).mono ?_); rintro r w7 ⟨m8, m9, rfl, hr8, hr9, hb⟩; obtain ⟨M8, N8, rfl⟩ := own_slice (Kd.own_of_R hr8); obtain ⟨M9, N9, rfl⟩ := own_slice (Kd.own_of_R hr9); clear hr8 hr9; replace HH := Aside0.mk (HH.out.bel hb); replace HOD := Aside0.mk (pw_own_below HOD.out hb); replace HX := Aside0.mk (blk_below HX.out hb); clear hb)
          try go_simp
          refine hK.out _ _ trivial (fun hHeld => ?_)
          clear hK K
          refine wpAnyH_ready (rs := [6]) (by kernel_rfl) (by simp) ?_
          refine AllReadyH.cons rfl (fun K hK => ?_) AllReadyH.nil
          · go_simp
            (go_at_call 41; (with_reducible refine (HA5.out _ (own_Rd HOD.out)).mono ?_); rintro r w7 ⟨rfl, hb⟩; replace HH := Aside0.mk (HH.out.bel hb); replace HOD := Aside0.mk (pw_own_below HOD.out hb); replace HX := Aside0.mk (blk_below HX.out hb); clear hb)
            try go_simp
            refine hK.out _ _ trivial (fun hHeld => ?_)
            clear hK K
            refine wpAnyH_ready (rs := [8]) (by kernel_rfl) (by simp) ?_
            refine AllReadyH.cons rfl (fun K hK => ?_) AllReadyH.nil
            · go_simp
              (go_at_call 41; (with_reducible refine (HA6.out _ (own_Rd HOD.out)).mono ?_); rintro r w7 ⟨rfl, hb⟩; replace HH := Aside0.mk (HH.out.bel hb); replace HOD := Aside0.mk (pw_own_below HOD.out hb); replace HX := Aside0.mk (blk_below HX.out hb); clear hb)
              try go_simp
              refine hK.out _ _ trivial (fun hHeld => ?_)
              clear hK K
              refine wpAnyH_ready (rs := [11]) (by kernel_rfl) (by simp) ?_
              refine AllReadyH.cons rfl (fun K hK => ?_) AllReadyH.nil
              · go_simp
                (go_at_call 40; (with_reducible refine (HN7.out _ (own_Rd HOD.out)).mono ?_); rintro r w7 ⟨rfl, hb⟩; replace HH := Aside0.mk (HH.out.bel hb); replace HOD := Aside0.mk (pw_own_below HOD.out hb); replace HX := Aside0.mk (blk_below HX.out hb); clear hb)
                try go_simp
                refine hK.out _ _ trivial (fun hHeld => ?_)
                clear hK K
                refine wpAnyH_ready (rs := [14]) (by kernel_rfl) (by simp) ?_
                refine AllReadyH.cons rfl (fun K hK => ?_) AllReadyH.nil
                · go_simp
                  (go_at_call 40; (with_reducible refine (HN8.out _ (own_Rd HOD.out)).mono ?_); rintro r w7 ⟨rfl, hb⟩; replace HH := Aside0.mk (HH.out.bel hb); replace HOD := Aside0.mk (pw_own_below HOD.out hb); replace HX := Aside0.mk (blk_below HX.out hb); clear hb)
                  try go_simp
                  refine hK.out _ _ trivial (fun hHeld => ?_)
                  clear hK K
                  refine wpAnyH_take (i := 15) (v := ?_) rfl (by kernel_rfl) (by kernel_rfl) (by kernel_rfl) (fun _ _ _ h => h) (Or.inl ⟨by rfl, ?_⟩) (by assumption) ?_
                  rotate_left
                  · (intro w hSw; go_simp; try with_reducible rfl)
                  try simp only [Act.put, List.setIfInBounds_toArray, List.set_cons_zero, List.set_cons_succ]
                  refine wpAnyH_ready (rs := [17]) (by kernel_rfl) (by simp) ?_
                  refine AllReadyH.cons rfl (fun K hK => ?_) AllReadyH.nil
                  rw [if_pos (by rfl)]
                  refine wp_store_mid 39 (.tmp 6) (.tmp 41) rfl bx 0 #[.int .i64 x2, .int .i64 x3, .int .i64 x4, .int .i64 x5, .int .i64 x6, .int .u32 x7, .int .u32 x8, .int .u32 x9, .slice M8 ([] : List Int).length N8, .slice M9 ([] : List Int).length N9, .int .i64 x1, .int .i64 x13, .int .i64 x14, .int .u32 x15, .int .u32 x16, .slice none 0 0] rfl rfl (there_of HX.out _ (by simp)) (by kernel_rfl) (by simp [Value.oneCell']) ?_
                  refine hK.out _ _ trivial (fun _ => ?_)
                  refine wpAnyH_done (by kernel_rfl) ?_ _
                  refine hM0 _ _ (Met.intro (hJ0 _ _ ?_))
                  (repeat apply Exists.intro)
                  refine ⟨?_, rfl⟩
                  exact ⟨bx, M8, N8, M9, N9, rfl, HLT.out, HH.out.farS HLT.out _, blk_putall HX.out rfl, own_setCells HOD.out HX.out (by decide) _⟩
    clear HH HOD HH0 HOD0
    obtain ⟨bx, M8, N8, M9, N9, hs6, hlt, hh, hx', hod⟩ := hcut
    subst hs6
    have HLT := Aside0.mk hlt
    have HH := Aside0.mk hh
    have HX := Aside0.mk hx'
    have HOD := Aside0.mk hod
    clear hlt hh hx' hod
    go_upto_region 9 with (first
      | (go_at_call 41; (with_reducible refine (HA2.out _ (own_Rd HOD.out)).mono ?_); rintro r w7 ⟨rfl, hb⟩; replace HH := Aside0.mk (HH.out.bel hb); replace HOD := Aside0.mk (pw_own_below HOD.out hb); replace HX := Aside0.mk (blk_below HX.out hb))
      | (go_at_call 32; (with_reducible refine (HB1.out _ HH.out.rs).mono ?_); rintro r w6 ⟨B1, f1, rfl, ho, hc, hk⟩; replace HX := Aside0.mk (blk_rcur HX.out (by decide) HH.out.rs hk); replace HOD := Aside0.mk (own_rcur HOD.out (by decide) HH.out.rs hk);  have HO1 := Aside0.mk (own_weaken ho HH.out.kk.1); replace HH := Aside0.mk (HH.out.op hc hk); clear ho hc hk; have hx : w6.cell? ⟨bx, 8, none⟩ = some (.slice M8 ([] : List Int).length N8) := (blk_cell HX.out 8).trans rfl; have fx : w6.frozen? ⟨bx, 8, none⟩ = false := blk_frozen HX.out 8)
      | fail)
    refine wp_gen (fun W => HR w0 w W g A c b t1 39 #[.int .i64 0, .int .i64 0, .int .i64 0, .int .i64 0, .int .i64 0, .int .u32 0, .int .u32 0, .int .u32 0, .slice none 0 0, .slice none 0 0, .int .i64 0, .int .i64 0, .int .i64 0, .int .u32 0, .int .u32 0, .slice none 0 0] ∧ W.heap[bx]? = some (.cells #[.int .i64 x2, .int .i64 x3, .int .i64 x4, .int .i64 x5, .int .i64 x6, .int .u32 x7, .int .u32 x8, .int .u32 x9, .slice B1 D1.length f1, .slice M9 ([] : List Int).length N9, .int .i64 x1, .int .i64 x13, .int .i64 x14, .int .u32 x15, .int .u32 x16, .slice none 0 0] 39 (0, 0)) ∧ W.ownsRow w.heap.size 5 1 (.slice A5 D.length c5) D.length (nums .u8 D) ∧ W.ownsRow w.heap.size 5 1 (.slice B1 D1.length f1) D1.length (nums .u8 D1)) ⟨HH.out.far HLT.out 8 _, blk_set HX.out 8 _, own_setCell HOD.out (own_ne HOD.out HX.out (by decide)) _, own_setCell HO1.out (own_ne HO1.out HX.out (by decide)) _⟩ ?_
    rintro W9 ⟨hh, hx', hod, ho1⟩
    replace HH := Aside0.mk hh
    replace HX := Aside0.mk hx'
    replace HOD := Aside0.mk hod
    replace HO1 := Aside0.mk ho1
    clear hh hx' hod ho1
    try clear hx fx
    go_upto_region 10 with (first
      | (go_at_call 41; (with_reducible refine (HA3.out _ (own_Rd HOD.out)).mono ?_); rintro r w7 ⟨rfl, hb⟩; replace HH := Aside0.mk (HH.out.bel hb); replace HOD := Aside0.mk (pw_own_below HOD.out hb); replace HX := Aside0.mk (blk_below HX.out hb); replace HO1 := Aside0.mk (pw_own_below HO1.out hb))
      | (go_at_call 32; (with_reducible refine (HB2.out _ HH.out.rs).mono ?_); rintro r w6 ⟨B2, f2, rfl, ho, hc, hk⟩; replace HX := Aside0.mk (blk_rcur HX.out (by decide) HH.out.rs hk); replace HOD := Aside0.mk (own_rcur HOD.out (by decide) HH.out.rs hk); replace HO1 := Aside0.mk (own_rcur HO1.out (by decide) HH.out.rs hk); have HO2 := Aside0.mk (own_weaken ho HH.out.kk.1); replace HH := Aside0.mk (HH.out.op hc hk); clear ho hc hk; have hx : w6.cell? ⟨bx, 9, none⟩ = some (.slice M9 ([] : List Int).length N9) := (blk_cell HX.out 9).trans rfl; have fx : w6.frozen? ⟨bx, 9, none⟩ = false := blk_frozen HX.out 9)
      | fail)
    refine wp_gen (fun W => HR w0 w W g A c b t2 39 #[.int .i64 0, .int .i64 0, .int .i64 0, .int .i64 0, .int .i64 0, .int .u32 0, .int .u32 0, .int .u32 0, .slice none 0 0, .slice none 0 0, .int .i64 0, .int .i64 0, .int .i64 0, .int .u32 0, .int .u32 0, .slice none 0 0] ∧ W.heap[bx]? = some (.cells #[.int .i64 x2, .int .i64 x3, .int .i64 x4, .int .i64 x5, .int .i64 x6, .int .u32 x7, .int .u32 x8, .int .u32 x9, .slice B1 D1.length f1, .slice B2 D2.length f2, .int .i64 x1, .int .i64 x13, .int .i64 x14, .int .u32 x15, .int .u32 x16, .slice none 0 0] 39 (0, 0)) ∧ W.ownsRow w.heap.size 5 1 (.slice A5 D.length c5) D.length (nums .u8 D) ∧ W.ownsRow w.heap.size 5 1 (.slice B1 D1.length f1) D1.length (nums .u8 D1) ∧ W.ownsRow w.heap.size 5 1 (.slice B2 D2.length f2) D2.length (nums .u8 D2)) ⟨HH.out.far HLT.out 9 _, blk_set HX.out 9 _, own_setCell HOD.out (own_ne HOD.out HX.out (by decide)) _, own_setCell HO1.out (own_ne HO1.out HX.out (by decide)) _, own_setCell HO2.out (own_ne HO2.out HX.out (by decide)) _⟩ ?_
    rintro W10 ⟨hh, hx', hod, ho1, ho2⟩
    replace HH := Aside0.mk hh
    replace HX := Aside0.mk hx'
    replace HOD := Aside0.mk hod
    replace HO1 := Aside0.mk ho1
    replace HO2 := Aside0.mk ho2
    clear hh hx' hod ho1 ho2
    try clear hx fx
    go_upto_region 11 with (first
      | (go_at_call 41; (with_reducible refine (HA4.out _ (own_Rd HOD.out)).mono ?_); rintro r w7 ⟨rfl, hb⟩; replace HH := Aside0.mk (HH.out.bel hb); replace HOD := Aside0.mk (pw_own_below HOD.out hb); replace HX := Aside0.mk (blk_below HX.out hb); replace HO1 := Aside0.mk (pw_own_below HO1.out hb); replace HO2 := Aside0.mk (pw_own_below HO2.out hb))
      | (go_at_call 32; (with_reducible refine (HB3.out _ HH.out.rs).mono ?_); rintro r w6 ⟨B3, f3, rfl, ho, hc, hk⟩; replace HX := Aside0.mk (blk_rcur HX.out (by decide) HH.out.rs hk); replace HOD := Aside0.mk (own_rcur HOD.out (by decide) HH.out.rs hk); replace HO1 := Aside0.mk (own_rcur HO1.out (by decide) HH.out.rs hk); replace HO2 := Aside0.mk (own_rcur HO2.out (by decide) HH.out.rs hk); have HO3 := Aside0.mk (own_weaken ho HH.out.kk.1); replace HH := Aside0.mk (HH.out.op hc hk); clear ho hc hk; have hx : w6.cell? ⟨bx, 15, none⟩ = some (.slice none 0 0) := (blk_cell HX.out 15).trans rfl; have fx : w6.frozen? ⟨bx, 15, none⟩ = false := blk_frozen HX.out 15)
      | fail)
    refine wp_gen (fun W => HR w0 w W g A c b t3 39 #[.int .i64 0, .int .i64 0, .int .i64 0, .int .i64 0, .int .i64 0, .int .u32 0, .int .u32 0, .int .u32 0, .slice none 0 0, .slice none 0 0, .int .i64 0, .int .i64 0, .int .i64 0, .int .u32 0, .int .u32 0, .slice none 0 0] ∧ W.heap[bx]? = some (.cells #[.int .i64 x2, .int .i64 x3, .int .i64 x4, .int .i64 x5, .int .i64 x6, .int .u32 x7, .int .u32 x8, .int .u32 x9, .slice B1 D1.length f1, .slice B2 D2.length f2, .int .i64 x1, .int .i64 x13, .int .i64 x14, .int .u32 x15, .int .u32 x16, .slice B3 D3.length f3] 39 (0, 0)) ∧ W.ownsRow w.heap.size 5 1 (.slice A5 D.length c5) D.length (nums .u8 D) ∧ W.ownsRow w.heap.size 5 1 (.slice B1 D1.length f1) D1.length (nums .u8 D1) ∧ W.ownsRow w.heap.size 5 1 (.slice B2 D2.length f2) D2.length (nums .u8 D2) ∧ W.ownsRow w.heap.size 5 1 (.slice B3 D3.length f3) D3.length (nums .u8 D3)) ⟨HH.out.far HLT.out 15 _, blk_set HX.out 15 _, own_setCell HOD.out (own_ne HOD.out HX.out (by decide)) _, own_setCell HO1.out (own_ne HO1.out HX.out (by decide)) _, own_setCell HO2.out (own_ne HO2.out HX.out (by decide)) _, own_setCell HO3.out (own_ne HO3.out HX.out (by decide)) _⟩ ?_
    rintro W11 ⟨hh, hx', hod, ho1, ho2, ho3⟩
    replace HH := Aside0.mk hh
    replace HX := Aside0.mk hx'
    replace HOD := Aside0.mk hod
    replace HO1 := Aside0.mk ho1
    replace HO2 := Aside0.mk ho2
    replace HO3 := Aside0.mk ho3
    clear hh hx' hod ho1 ho2 ho3
    try clear hx fx
    have ce : W11.cell? ⟨g, 2, none⟩ = some (.int .i64 EZ) := by have h9 := (blk_cell HH.out.rs.blk 2).trans rfl; rw [HE2.out] at h9; exact h9
    go_upto_if 63 with fail
    refine wp_gen (fun W => HR w0 w W g A c b t3 39 #[.int .i64 0, .int .i64 0, .int .i64 0, .int .i64 0, .int .i64 0, .int .u32 0, .int .u32 0, .int .u32 0, .slice none 0 0, .slice none 0 0, .int .i64 0, .int .i64 0, .int .i64 0, .int .u32 0, .int .u32 0, .slice none 0 0]) HH.out ?_
    rintro Wx hh
    have HN := Aside0.mk hh
    replace HH := Aside0.mk hh.drew
    clear hh ce
    have ce : Wx.cell? ⟨g, 2, none⟩ = some (.int .i64 EZ) := by have h9 : Wx.cell? ⟨g, 2, none⟩ = some (.int .i64 t3.2) := (blk_cell HH.out.rs.blk 2).trans rfl; rw [HE2.out] at h9; exact h9
    have hne1 : (g = w.heap.size) = False := eq_false (by have h9 := HH.out.gl; omega)
    have hne2 : (w.heap.size = g) = False := eq_false (by have h9 := HH.out.gl; omega)
    have hp0 : Wx.cell? ⟨w.heap.size, 0, none⟩ = some (.int .i64 0) := (blk_cell HH.out.r2 0).trans rfl; have fp0 : Wx.frozen? ⟨w.heap.size, 0, none⟩ = false := blk_frozen HH.out.r2 0; have hp1 : Wx.cell? ⟨w.heap.size, 1, none⟩ = some (.int .i64 0) := (blk_cell HH.out.r2 1).trans rfl; have fp1 : Wx.frozen? ⟨w.heap.size, 1, none⟩ = false := blk_frozen HH.out.r2 1; have hp2 : Wx.cell? ⟨w.heap.size, 2, none⟩ = some (.int .i64 0) := (blk_cell HH.out.r2 2).trans rfl; have fp2 : Wx.frozen? ⟨w.heap.size, 2, none⟩ = false := blk_frozen HH.out.r2 2; have hp3 : Wx.cell? ⟨w.heap.size, 3, none⟩ = some (.int .i64 0) := (blk_cell HH.out.r2 3).trans rfl; have fp3 : Wx.frozen? ⟨w.heap.size, 3, none⟩ = false := blk_frozen HH.out.r2 3; have hp4 : Wx.cell? ⟨w.heap.size, 4, none⟩ = some (.int .i64 0) := (blk_cell HH.out.r2 4).trans rfl; have fp4 : Wx.frozen? ⟨w.heap.size, 4, none⟩ = false := blk_frozen HH.out.r2 4; have hp5 : Wx.cell? ⟨w.heap.size, 5, none⟩ = some (.int .u32 0) := (blk_cell HH.out.r2 5).trans rfl; have fp5 : Wx.frozen? ⟨w.heap.size, 5, none⟩ = false := blk_frozen HH.out.r2 5; have hp6 : Wx.cell? ⟨w.heap.size, 6, none⟩ = some (.int .u32 0) := (blk_cell HH.out.r2 6).trans rfl; have fp6 : Wx.frozen? ⟨w.heap.size, 6, none⟩ = false := blk_frozen HH.out.r2 6; have hp7 : Wx.cell? ⟨w.heap.size, 7, none⟩ = some (.int .u32 0) := (blk_cell HH.out.r2 7).trans rfl; have fp7 : Wx.frozen? ⟨w.heap.size, 7, none⟩ = false := blk_frozen HH.out.r2 7; have hp8 : Wx.cell? ⟨w.heap.size, 8, none⟩ = some (.slice none 0 0) := (blk_cell HH.out.r2 8).trans rfl; have fp8 : Wx.frozen? ⟨w.heap.size, 8, none⟩ = false := blk_frozen HH.out.r2 8; have hp9 : Wx.cell? ⟨w.heap.size, 9, none⟩ = some (.slice none 0 0) := (blk_cell HH.out.r2 9).trans rfl; have fp9 : Wx.frozen? ⟨w.heap.size, 9, none⟩ = false := blk_frozen HH.out.r2 9; have hp10 : Wx.cell? ⟨w.heap.size, 10, none⟩ = some (.int .i64 0) := (blk_cell HH.out.r2 10).trans rfl; have fp10 : Wx.frozen? ⟨w.heap.size, 10, none⟩ = false := blk_frozen HH.out.r2 10; have hp11 : Wx.cell? ⟨w.heap.size, 11, none⟩ = some (.int .i64 0) := (blk_cell HH.out.r2 11).trans rfl; have fp11 : Wx.frozen? ⟨w.heap.size, 11, none⟩ = false := blk_frozen HH.out.r2 11; have hp12 : Wx.cell? ⟨w.heap.size, 12, none⟩ = some (.int .i64 0) := (blk_cell HH.out.r2 12).trans rfl; have fp12 : Wx.frozen? ⟨w.heap.size, 12, none⟩ = false := blk_frozen HH.out.r2 12; have hp13 : Wx.cell? ⟨w.heap.size, 13, none⟩ = some (.int .u32 0) := (blk_cell HH.out.r2 13).trans rfl; have fp13 : Wx.frozen? ⟨w.heap.size, 13, none⟩ = false := blk_frozen HH.out.r2 13; have hp14 : Wx.cell? ⟨w.heap.size, 14, none⟩ = some (.int .u32 0) := (blk_cell HH.out.r2 14).trans rfl; have fp14 : Wx.frozen? ⟨w.heap.size, 14, none⟩ = false := blk_frozen HH.out.r2 14; have hp15 : Wx.cell? ⟨w.heap.size, 15, none⟩ = some (.slice none 0 0) := (blk_cell HH.out.r2 15).trans rfl; have fp15 : Wx.frozen? ⟨w.heap.size, 15, none⟩ = false := blk_frozen HH.out.r2 15
    have HSK : Aside0 (∀ (W : World) (C : Array Value), HR w0 w W g A c b t3 39 C → W.cell? ⟨g, 2, none⟩ = some (.int .i64 EZ)) := ⟨fun W C h => by have h9 : W.cell? ⟨g, 2, none⟩ = some (.int .i64 t3.2) := (blk_cell h.rs.blk 2).trans rfl; rw [HE2.out] at h9; exact h9⟩
    go_wp2_with fail
    go_region_held3 (fun W => W.cell? ⟨g, 2, none⟩ = some (.int .i64 EZ)) (first | (with_reducible exact HSK.out _ _ HH.out) | (with_reducible exact HSK.out _ _ (HR.drew (HN.out.fill16 (.int .i64 0) (.int .i64 0) (.int .i64 0) (.int .i64 0) (.int .i64 0) (.int .u32 0) (.int .u32 0) (.int .u32 0) (.slice none 0 0) (.slice none 0 0) (.int .i64 0) (.int .i64 0) (.int .i64 0) (.int .u32 0) (.int .u32 0) (.slice none 0 0))))) (fail)
    all_goals
      refine ex_gen (X := Exit.then _ _ _ _) (fun W => HR w0 w W g A c b t3 39 #[.int .i64 0, .int .i64 0, .int .i64 0, .int .i64 0, .int .i64 0, .int .u32 0, .int .u32 0, .int .u32 0, .slice none 0 0, .slice none 0 0, .int .i64 0, .int .i64 0, .int .i64 0, .int .u32 0, .int .u32 0, .slice none 0 0]) ?_ ?_
      · with_reducible exact HR.drew (HN.out.fill16 (.int .i64 0) (.int .i64 0) (.int .i64 0) (.int .i64 0) (.int .i64 0) (.int .u32 0) (.int .u32 0) (.int .u32 0) (.slice none 0 0) (.slice none 0 0) (.int .i64 0) (.int .i64 0) (.int .i64 0) (.int .u32 0) (.int .u32 0) (.slice none 0 0))
      rintro W7 hh
      replace HH := Aside0.mk hh
      clear hh
      go_wp2
      refine bodyPost_ret (results_ct rfl _ _ w.heap.size 39 _ (0, 0) _ rfl HH.out.r2 Try.underlying39 rfl (by kernel_rfl)) rfl ?_
      exact ⟨rfl, HH.out.rs, HH.out.kk⟩
  · have hst := HST.out heH
    have e3 : eH = EZ := by have h9 := HE2.out; rw [hst] at h9; exact h9
    subst e3
    rw [hst]
    refine wp_gen (fun W => HR w0 w W g A c b (aH, eH) 39 #[.int .i64 0, .int .i64 0, .int .i64 0, .int .i64 0, .int .i64 0, .int .u32 0, .int .u32 0, .int .u32 0, .slice none 0 0, .slice none 0 0, .int .i64 0, .int .i64 0, .int .i64 0, .int .u32 0, .int .u32 0, .slice none 0 0]) HH.out ?_
    rintro W1 hh
    have HN := Aside0.mk hh
    replace HH := Aside0.mk hh.drew
    clear hh ce HOD
    have ce : W1.cell? ⟨g, 2, none⟩ = some (.int .i64 eH) := (blk_cell HH.out.rs.blk 2).trans rfl
    have hne1 : (g = w.heap.size) = False := eq_false (by have h9 := HH.out.gl; omega)
    have hne2 : (w.heap.size = g) = False := eq_false (by have h9 := HH.out.gl; omega)
    have hp0 : W1.cell? ⟨w.heap.size, 0, none⟩ = some (.int .i64 0) := (blk_cell HH.out.r2 0).trans rfl; have fp0 : W1.frozen? ⟨w.heap.size, 0, none⟩ = false := blk_frozen HH.out.r2 0; have hp1 : W1.cell? ⟨w.heap.size, 1, none⟩ = some (.int .i64 0) := (blk_cell HH.out.r2 1).trans rfl; have fp1 : W1.frozen? ⟨w.heap.size, 1, none⟩ = false := blk_frozen HH.out.r2 1; have hp2 : W1.cell? ⟨w.heap.size, 2, none⟩ = some (.int .i64 0) := (blk_cell HH.out.r2 2).trans rfl; have fp2 : W1.frozen? ⟨w.heap.size, 2, none⟩ = false := blk_frozen HH.out.r2 2; have hp3 : W1.cell? ⟨w.heap.size, 3, none⟩ = some (.int .i64 0) := (blk_cell HH.out.r2 3).trans rfl; have fp3 : W1.frozen? ⟨w.heap.size, 3, none⟩ = false := blk_frozen HH.out.r2 3; have hp4 : W1.cell? ⟨w.heap.size, 4, none⟩ = some (.int .i64 0) := (blk_cell HH.out.r2 4).trans rfl; have fp4 : W1.frozen? ⟨w.heap.size, 4, none⟩ = false := blk_frozen HH.out.r2 4; have hp5 : W1.cell? ⟨w.heap.size, 5, none⟩ = some (.int .u32 0) := (blk_cell HH.out.r2 5).trans rfl; have fp5 : W1.frozen? ⟨w.heap.size, 5, none⟩ = false := blk_frozen HH.out.r2 5; have hp6 : W1.cell? ⟨w.heap.size, 6, none⟩ = some (.int .u32 0) := (blk_cell HH.out.r2 6).trans rfl; have fp6 : W1.frozen? ⟨w.heap.size, 6, none⟩ = false := blk_frozen HH.out.r2 6; have hp7 : W1.cell? ⟨w.heap.size, 7, none⟩ = some (.int .u32 0) := (blk_cell HH.out.r2 7).trans rfl; have fp7 : W1.frozen? ⟨w.heap.size, 7, none⟩ = false := blk_frozen HH.out.r2 7; have hp8 : W1.cell? ⟨w.heap.size, 8, none⟩ = some (.slice none 0 0) := (blk_cell HH.out.r2 8).trans rfl; have fp8 : W1.frozen? ⟨w.heap.size, 8, none⟩ = false := blk_frozen HH.out.r2 8; have hp9 : W1.cell? ⟨w.heap.size, 9, none⟩ = some (.slice none 0 0) := (blk_cell HH.out.r2 9).trans rfl; have fp9 : W1.frozen? ⟨w.heap.size, 9, none⟩ = false := blk_frozen HH.out.r2 9; have hp10 : W1.cell? ⟨w.heap.size, 10, none⟩ = some (.int .i64 0) := (blk_cell HH.out.r2 10).trans rfl; have fp10 : W1.frozen? ⟨w.heap.size, 10, none⟩ = false := blk_frozen HH.out.r2 10; have hp11 : W1.cell? ⟨w.heap.size, 11, none⟩ = some (.int .i64 0) := (blk_cell HH.out.r2 11).trans rfl; have fp11 : W1.frozen? ⟨w.heap.size, 11, none⟩ = false := blk_frozen HH.out.r2 11; have hp12 : W1.cell? ⟨w.heap.size, 12, none⟩ = some (.int .i64 0) := (blk_cell HH.out.r2 12).trans rfl; have fp12 : W1.frozen? ⟨w.heap.size, 12, none⟩ = false := blk_frozen HH.out.r2 12; have hp13 : W1.cell? ⟨w.heap.size, 13, none⟩ = some (.int .u32 0) := (blk_cell HH.out.r2 13).trans rfl; have fp13 : W1.frozen? ⟨w.heap.size, 13, none⟩ = false := blk_frozen HH.out.r2 13; have hp14 : W1.cell? ⟨w.heap.size, 14, none⟩ = some (.int .u32 0) := (blk_cell HH.out.r2 14).trans rfl; have fp14 : W1.frozen? ⟨w.heap.size, 14, none⟩ = false := blk_frozen HH.out.r2 14; have hp15 : W1.cell? ⟨w.heap.size, 15, none⟩ = some (.slice none 0 0) := (blk_cell HH.out.r2 15).trans rfl; have fp15 : W1.frozen? ⟨w.heap.size, 15, none⟩ = false := blk_frozen HH.out.r2 15
    have HSK : Aside0 (∀ (W : World) (C : Array Value), HR w0 w W g A c b (aH, eH) 39 C → W.cell? ⟨g, 2, none⟩ = some (.int .i64 eH)) := ⟨fun W C h => (blk_cell h.rs.blk 2).trans rfl⟩
    go_wp2_with fail
    go_region_held3 (fun W => W.cell? ⟨g, 2, none⟩ = some (.int .i64 eH)) (first | (with_reducible exact HSK.out _ _ HH.out) | (with_reducible exact HSK.out _ _ (HR.drew (HN.out.fill16 (.int .i64 0) (.int .i64 0) (.int .i64 0) (.int .i64 0) (.int .i64 0) (.int .u32 0) (.int .u32 0) (.int .u32 0) (.slice none 0 0) (.slice none 0 0) (.int .i64 0) (.int .i64 0) (.int .i64 0) (.int .u32 0) (.int .u32 0) (.slice none 0 0))))) (fail)
    all_goals
      refine ex_gen (X := Exit.then _ _ _ _) (fun W => HR w0 w W g A c b (aH, eH) 39 #[.int .i64 0, .int .i64 0, .int .i64 0, .int .i64 0, .int .i64 0, .int .u32 0, .int .u32 0, .int .u32 0, .slice none 0 0, .slice none 0 0, .int .i64 0, .int .i64 0, .int .i64 0, .int .u32 0, .int .u32 0, .slice none 0 0]) ?_ ?_
      · with_reducible exact HR.drew (HN.out.fill16 (.int .i64 0) (.int .i64 0) (.int .i64 0) (.int .i64 0) (.int .i64 0) (.int .u32 0) (.int .u32 0) (.int .u32 0) (.slice none 0 0) (.slice none 0 0) (.int .i64 0) (.int .i64 0) (.int .i64 0) (.int .u32 0) (.int .u32 0) (.slice none 0 0))
      rintro W7 hh
      replace HH := Aside0.mk hh
      clear hh
      go_wp2
      refine bodyPost_ret (results_ct rfl _ _ w.heap.size 39 _ (0, 0) _ rfl HH.out.r2 Try.underlying39 rfl (by kernel_rfl)) rfl ?_
      exact ⟨rfl, HH.out.rs, HH.out.kk⟩
set_option maxHeartbeats 8000000 in
set_option maxRecDepth 100000 in
theorem ref_readCentral_ok (w0 w : World) (g : Nat) (A : Option Addr) (c : Nat) (b : List Int) (s : Sta) (h : RS0 w0 w g A c b s) (hb : ∀ x ∈ b, 0 ≤ x ∧ x ≤ 255) (hE : sgE b s 33639248 = 0) (q0 q1 q2 q3 q4 q5 q6 q7 q8 q9 q10 q11 q12 q13 q14 q15 q16 t1 t2 t3 : Sta) (x1 x2 x3 x4 x5 x6 x7 x8 x9 x10 x11 x12 x13 x14 x15 x16 : Int) (hs1 : rA b s 4 = q0) (e1 : rA b q0 2 = q1) (v1 : rV b q0 2 = x1) (e2 : rA b q1 2 = q2) (v2 : rV b q1 2 = x2) (e3 : rA b q2 2 = q3) (v3 : rV b q2 2 = x3) (e4 : rA b q3 2 = q4) (v4 : rV b q3 2 = x4) (e5 : rA b q4 2 = q5) (v5 : rV b q4 2 = x5) (e6 : rA b q5 2 = q6) (v6 : rV b q5 2 = x6) (e7 : rA b q6 4 = q7) (v7 : rV b q6 4 = x7) (e8 : rA b q7 4 = q8) (v8 : rV b q7 4 = x8) (e9 : rA b q8 4 = q9) (v9 : rV b q8 4 = x9) (e10 : rA b q9 2 = q10) (v10 : rV b q9 2 = x10) (e11 : rA b q10 2 = q11) (v11 : rV b q10 2 = x11) (e12 : rA b q11 2 = q12) (v12 : rV b q11 2 = x12) (e13 : rA b q12 2 = q13) (v13 : rV b q12 2 = x13) (e14 : rA b q13 2 = q14) (v14 : rV b q13 2 = x14) (e15 : rA b q14 4 = q15) (v15 : rV b q14 4 = x15) (e16 : rA b q15 4 = q16) (v16 : rV b q15 4 = x16) (D1 D2 D3 : List Int) (k1 : rL b q16 x10 = D1) (j1 : rA b q16 x10 = t1) (k2 : rL b t1 x11 = D2) (j2 : rA b t1 x11 = t2) (k3 : rL b t2 x12 = D3) (j3 : rA b t2 x12 = t3) (h5 : t3.2 = 0) :
    Calls Try.prog 34 #[.pointer (some ⟨g, 0, none⟩)] w (fun r w' => ∃ A1 c1 A2 c2 A3 c3, RfPost w0 w g A c b t3 #[.int .i64 x2, .int .i64 x3, .int .i64 x4, .int .i64 x5, .int .i64 x6, .int .u32 x7, .int .u32 x8, .int .u32 x9, .slice A1 D1.length c1, .slice A2 D2.length c2, .int .i64 x1, .int .i64 x13, .int .i64 x14, .int .u32 x15, .int .u32 x16, .slice A3 D3.length c3] 0 r w' ∧ Ow w w' A1 D1 c1 ∧ Ow w w' A2 D2 c2 ∧ Ow w w' A3 D3 c3) := by
  have HH : Aside0 (HR w0 w (w.alloc (.cells #[.int .i64 0, .int .i64 0, .int .i64 0, .int .i64 0, .int .i64 0, .int .u32 0, .int .u32 0, .int .u32 0, .slice none 0 0, .slice none 0 0, .int .i64 0, .int .i64 0, .int .i64 0, .int .u32 0, .int .u32 0, .slice none 0 0] 39)) g A c b s 39 #[.int .i64 0, .int .i64 0, .int .i64 0, .int .i64 0, .int .i64 0, .int .u32 0, .int .u32 0, .int .u32 0, .slice none 0 0, .slice none 0 0, .int .i64 0, .int .i64 0, .int .i64 0, .int .u32 0, .int .u32 0, .slice none 0 0]) := ⟨HR.start h _ _⟩
  have HSG : Aside0 (∀ W, RS0 w0 W g A c b s → Calls Try.prog 58 #[.pointer (some ⟨g, 0, none⟩), .int .u32 33639248] W (SgPost w0 W g A c b q0 0)) := ⟨fun W hW => by have h9 := ref_sign w0 W g A c b s 33639248 hW hb; rw [hs1, hE] at h9; exact h9⟩
  have hP := ceP hb e1 v1 e2 v2 e3 v3 e4 v4 e5 v5 e6 v6 e7 v7 e8 v8 e9 v9 e10 v10 e11 v11 e12 v12 e13 v13 e14 v14 e15 v15 e16 v16
  obtain ⟨D, hD⟩ : ∃ D, (tkN b q0 [2, 2, 2, 2, 2, 2, 4, 4, 4, 2, 2, 2, 2, 2, 4, 4] 16).1 = D := ⟨_, rfl⟩
  have HTK : Aside0 (∀ W base A1 c1, RS0 w0 W g A c b q0 → W.ownsRow base 3 1 (.slice A1 16 c1) 16 (nums .i64 [2, 2, 2, 2, 2, 2, 4, 4, 4, 2, 2, 2, 2, 2, 4, 4]) → Calls Try.prog 59 #[.pointer (some ⟨g, 0, none⟩), .slice A1 16 c1] W (fun r w' => ∃ A5 c5, r = .returned (.slice A5 D.length c5) ∧ w'.ownsRow W.heap.size 5 1 (.slice A5 D.length c5) D.length (nums .u8 D) ∧ RS0 w0 w' g A c b q16 ∧ Kept W w' (fun k => k = g))) := ⟨fun W base A1 c1 hW hz => by
    have h9 := ref_take w0 W g A c b q0 [2, 2, 2, 2, 2, 2, 4, 4, 4, 2, 2, 2, 2, 2, 4, 4] A1 c1 base hW hz (by simp)
    rw [show ([2, 2, 2, 2, 2, 2, 4, 4, 4, 2, 2, 2, 2, 2, 4, 4] : List Int).length = 16 from rfl, hD, hP.1] at h9
    exact h9⟩
  have HB1 : Aside0 (∀ W, RS0 w0 W g A c b q16 → Calls Try.prog 32 #[.pointer (some ⟨g, 0, none⟩), .int .i64 x10] W (fun r w' => ∃ A1 c1, r = .returned (.slice A1 D1.length c1) ∧ w'.ownsRow W.heap.size 5 1 (.slice A1 D1.length c1) D1.length (nums .u8 D1) ∧ RS0 w0 w' g A c b t1 ∧ Kept W w' (fun k => k = g))) := ⟨fun W hW => k1 ▸ j1 ▸ rs_take hW x10⟩
  have HB2 : Aside0 (∀ W, RS0 w0 W g A c b t1 → Calls Try.prog 32 #[.pointer (some ⟨g, 0, none⟩), .int .i64 x11] W (fun r w' => ∃ A1 c1, r = .returned (.slice A1 D2.length c1) ∧ w'.ownsRow W.heap.size 5 1 (.slice A1 D2.length c1) D2.length (nums .u8 D2) ∧ RS0 w0 w' g A c b t2 ∧ Kept W w' (fun k => k = g))) := ⟨fun W hW => k2 ▸ j2 ▸ rs_take hW x11⟩
  have HB3 : Aside0 (∀ W, RS0 w0 W g A c b t2 → Calls Try.prog 32 #[.pointer (some ⟨g, 0, none⟩), .int .i64 x12] W (fun r w' => ∃ A1 c1, r = .returned (.slice A1 D3.length c1) ∧ w'.ownsRow W.heap.size 5 1 (.slice A1 D3.length c1) D3.length (nums .u8 D3) ∧ RS0 w0 w' g A c b t3 ∧ Kept W w' (fun k => k = g))) := ⟨fun W hW => k3 ▸ j3 ▸ rs_take hW x12⟩
  have HST : Aside0 (q16.2 ≠ 0 → t3 = q16) := ⟨fun h => by
    have g1 : t1 = q16 := by rw [← j1]; exact rA_stuck h
    have g2 : t2 = q16 := by rw [← j2, g1]; exact rA_stuck h
    have g3 : t3 = q16 := by rw [← j3, g2]; exact rA_stuck h
    exact g3⟩
  have HPP := Aside0.mk hP.2
  rw [hD] at HPP
  have HE2 := Aside0.mk h5
  clear h hb hE hs1 hP hD h5 e1 v1 e2 v2 e3 v3 e4 v4 e5 v5 e6 v6 e7 v7 e8 v8 e9 v9 e10 v10 e11 v11 e12 v12 e13 v13 e14 v14 e15 v15 e16 v16 k1 j1 k2 j2 k3 j3
  obtain ⟨aH, eH⟩ := q16
  go_enter Try.func34, Try.ntmps34
  go_upto_if 20 with (first
    | (go_at_call 58; (with_reducible refine (HSG.out _ HH.out.rs).mono ?_); rintro r w9 ⟨rfl, hc, hk⟩; replace HH := Aside0.mk (HH.out.op hc hk); clear hc hk)
    | ((with_reducible refine gate_dst (N := 14) rfl ?_); (try (refine gate_guard (by rfl) ?_; dsimp only)); refine Kd.R_lit (Kd.int .i64) _ 3 ?hg (N := 14) ?hd (xs := ([2, 2, 2, 2, 2, 2, 4, 4, 4, 2, 2, 2, 2, 2, 4, 4] : List Int)) (inner := [.int .i64 2, .int .i64 2, .int .i64 2, .int .i64 2, .int .i64 2, .int .i64 2, .int .i64 4, .int .i64 4, .int .i64 4, .int .i64 2, .int .i64 2, .int .i64 2, .int .i64 2, .int .i64 2, .int .i64 4, .int .i64 4]) (ok := fun _ => True) (okp := fun _ => True) ?hr ?hp (fun _ hk => hk) trivial (Below.refl _ _) (Nat.le_refl _) (by simp) ?_; (case hd => rfl); (case hg => rfl); (case hr => first | (go_simp; done) | (go_simp; rfl)); (case hp => exact (Reps.one (show Kd.M (Kd.int .i64) _ _ _ 2 [.int .i64 2] from rfl) (Reps.one (show Kd.M (Kd.int .i64) _ _ _ 2 [.int .i64 2] from rfl) (Reps.one (show Kd.M (Kd.int .i64) _ _ _ 2 [.int .i64 2] from rfl) (Reps.one (show Kd.M (Kd.int .i64) _ _ _ 2 [.int .i64 2] from rfl) (Reps.one (show Kd.M (Kd.int .i64) _ _ _ 2 [.int .i64 2] from rfl) (Reps.one (show Kd.M (Kd.int .i64) _ _ _ 2 [.int .i64 2] from rfl) (Reps.one (show Kd.M (Kd.int .i64) _ _ _ 4 [.int .i64 4] from rfl) (Reps.one (show Kd.M (Kd.int .i64) _ _ _ 4 [.int .i64 4] from rfl) (Reps.one (show Kd.M (Kd.int .i64) _ _ _ 4 [.int .i64 4] from rfl) (Reps.one (show Kd.M (Kd.int .i64) _ _ _ 2 [.int .i64 2] from rfl) (Reps.one (show Kd.M (Kd.int .i64) _ _ _ 2 [.int .i64 2] from rfl) (Reps.one (show Kd.M (Kd.int .i64) _ _ _ 2 [.int .i64 2] from rfl) (Reps.one (show Kd.M (Kd.int .i64) _ _ _ 2 [.int .i64 2] from rfl) (Reps.one (show Kd.M (Kd.int .i64) _ _ _ 2 [.int .i64 2] from rfl) (Reps.one (show Kd.M (Kd.int .i64) _ _ _ 4 [.int .i64 4] from rfl) (Reps.one (show Kd.M (Kd.int .i64) _ _ _ 4 [.int .i64 4] from rfl) (Reps.none _ _)))))))))))))))))); intro v1 w1 ho hb hg_ hnew_; have HZ := Aside0.mk (Kd.own_of_R ho); obtain ⟨A1, c1, rfl⟩ := own_slice HZ.out; replace HH := Aside0.mk (HH.out.bel hb); clear ho hb hg_ hnew_)
    | (go_at_call 59; (with_reducible refine (HTK.out _ _ _ _ HH.out.rs HZ.out).mono ?_); rintro r w9 ⟨A5, c5, rfl, ho, hc, hk⟩; have HOD := Aside0.mk (own_weaken ho HH.out.kk.1); replace HH := Aside0.mk (HH.out.op hc hk); have ce : w9.cell? ⟨g, 2, none⟩ = some (.int .i64 eH) := (blk_cell hc.blk 2).trans rfl; clear ho hc hk)
    | fail)
  by_cases heH : eH = 0
  · subst heH
    obtain ⟨D0, hD0, hDl, hDb, r0, r1, r2, r3, r4, r5, r6, r7, r8⟩ := HPP.out rfl
    subst hD0
    clear HPP
    have HA1 : Aside0 (∀ W, Rd W A5 D c5 → Calls Try.prog 41 #[.slice A5 D.length c5, .int .i64 0] W (fun r w' => r = .returned (.int .i64 x1) ∧ Below W.heap.size W w')) := ⟨fun W hW => (Go.Proofs.Ytpmiofjhgmdghaa.RQ.duffelref24_at.calls 10 A5 c5 D 0 x1 W hW.1 hW.2 r1).mono (fun _ _ h => ⟨h.1, h.2.below⟩)⟩
    have HA2 : Aside0 (∀ W, Rd W A5 D c5 → Calls Try.prog 41 #[.slice A5 D.length c5, .int .i64 24] W (fun r w' => r = .returned (.int .i64 x10) ∧ Below W.heap.size W w')) := ⟨fun W hW => (Go.Proofs.Ytpmiofjhgmdghaa.RQ.duffelref24_at.calls 10 A5 c5 D 24 x10 W hW.1 hW.2 r2).mono (fun _ _ h => ⟨h.1, h.2.below⟩)⟩
    have HA3 : Aside0 (∀ W, Rd W A5 D c5 → Calls Try.prog 41 #[.slice A5 D.length c5, .int .i64 26] W (fun r w' => r = .returned (.int .i64 x11) ∧ Below W.heap.size W w')) := ⟨fun W hW => (Go.Proofs.Ytpmiofjhgmdghaa.RQ.duffelref24_at.calls 10 A5 c5 D 26 x11 W hW.1 hW.2 r3).mono (fun _ _ h => ⟨h.1, h.2.below⟩)⟩
    have HA4 : Aside0 (∀ W, Rd W A5 D c5 → Calls Try.prog 41 #[.slice A5 D.length c5, .int .i64 28] W (fun r w' => r = .returned (.int .i64 x12) ∧ Below W.heap.size W w')) := ⟨fun W hW => (Go.Proofs.Ytpmiofjhgmdghaa.RQ.duffelref24_at.calls 10 A5 c5 D 28 x12 W hW.1 hW.2 r4).mono (fun _ _ h => ⟨h.1, h.2.below⟩)⟩
    have HA5 : Aside0 (∀ W, Rd W A5 D c5 → Calls Try.prog 41 #[.slice A5 D.length c5, .int .i64 30] W (fun r w' => r = .returned (.int .i64 x13) ∧ Below W.heap.size W w')) := ⟨fun W hW => (Go.Proofs.Ytpmiofjhgmdghaa.RQ.duffelref24_at.calls 10 A5 c5 D 30 x13 W hW.1 hW.2 r5).mono (fun _ _ h => ⟨h.1, h.2.below⟩)⟩
    have HA6 : Aside0 (∀ W, Rd W A5 D c5 → Calls Try.prog 41 #[.slice A5 D.length c5, .int .i64 32] W (fun r w' => r = .returned (.int .i64 x14) ∧ Below W.heap.size W w')) := ⟨fun W hW => (Go.Proofs.Ytpmiofjhgmdghaa.RQ.duffelref24_at.calls 10 A5 c5 D 32 x14 W hW.1 hW.2 r6).mono (fun _ _ h => ⟨h.1, h.2.below⟩)⟩
    obtain ⟨p7, hp7⟩ : ∃ p, (D.take 38).drop 34 = p := ⟨_, rfl⟩
    rw [hp7] at r7
    obtain ⟨N7, d7, hs7, hr7⟩ := sliceK A5 D 34 38 34 4 c5 rfl rfl (own_C HOD.out).2.2.1 (by omega) p7 hp7
    have HN7 : Aside0 (∀ W, Rd W A5 D c5 → Calls Try.prog 40 #[.slice N7 4 d7] W (fun r w' => r = .returned (.int .u32 x15) ∧ Below W.heap.size W w')) := ⟨fun W hW => (num_at (hr7 W hW).1 (hr7 W hW).2 r7).mono (fun _ _ h => ⟨h.1, h.2.below⟩)⟩
    clear hr7 hp7
    obtain ⟨p8, hp8⟩ : ∃ p, (D.take 42).drop 38 = p := ⟨_, rfl⟩
    rw [hp8] at r8
    obtain ⟨N8, d8, hs8, hr8⟩ := sliceK A5 D 38 42 38 4 c5 rfl rfl (own_C HOD.out).2.2.1 (by omega) p8 hp8
    have HN8 : Aside0 (∀ W, Rd W A5 D c5 → Calls Try.prog 40 #[.slice N8 4 d8] W (fun r w' => r = .returned (.int .u32 x16) ∧ Below W.heap.size W w')) := ⟨fun W hW => (num_at (hr8 W hW).1 (hr8 W hW).2 r8).mono (fun _ _ h => ⟨h.1, h.2.below⟩)⟩
    clear hr8 hp8
    obtain ⟨pH, hpH⟩ : ∃ p, D.drop 2 = p := ⟨_, rfl⟩
    rw [hpH] at r0
    obtain ⟨NH, dH, hsH, hrH⟩ := sliceF A5 D 2 2 40 c5 rfl (own_C HOD.out).2.2.1 (by omega) pH hpH (by rw [← hpH, List.length_drop]; omega)
    have hpl : pH.length = 40 := by rw [← hpH, List.length_drop]; omega
    have HHD : Aside0 (∀ W, Rd W A5 D c5 → Calls Try.prog 60 #[.slice NH 40 dH] W (fun r w' => ∃ v8_ v9_ : Value, r = .returned (.agg #[.int .i64 x2, .int .i64 x3, .int .i64 x4, .int .i64 x5, .int .i64 x6, .int .u32 x7, .int .u32 x8, .int .u32 x9, v8_, v9_]) ∧ Kd.R (Kd.int .u8) 5 w' W.heap.size (fun k_ => some k_ ≠ (v9_ : Value).ownBlock) v8_ [] ∧ Kd.R (Kd.int .u8) 5 w' W.heap.size (fun k_ => some k_ ≠ (v8_ : Value).ownBlock) v9_ [] ∧ Below W.heap.size W w')) := ⟨fun W hW => by
      have h9 := Go.Proofs.Ytpmiofjhgmdghaa.RQ.duffelref24_head.calls 10 NH dH pH x2 x3 x4 x5 x6 x7 x8 x9 [] [] W (hrH W hW).1 (hrH W hW).2 r0
      rw [hpl] at h9
      exact h9⟩
    clear hrH hpH hpl
    clear hDb hDl
    refine wp_gen (fun W => HR w0 w W g A c b (aH, 0) 39 #[.int .i64 0, .int .i64 0, .int .i64 0, .int .i64 0, .int .i64 0, .int .u32 0, .int .u32 0, .int .u32 0, .slice none 0 0, .slice none 0 0, .int .i64 0, .int .i64 0, .int .i64 0, .int .u32 0, .int .u32 0, .slice none 0 0] ∧ W.ownsRow w.heap.size 5 1 (.slice A5 D.length c5) D.length (nums .u8 D)) ⟨HH.out, HOD.out⟩ ?_
    rintro w7 ⟨hh, hod⟩
    have HH0 := Aside0.mk hh
    have HOD0 := Aside0.mk hod
    replace HH := Aside0.mk hh.drew
    replace HOD := Aside0.mk (pw_own_below hod (below_drew (Below.refl _ _)))
    clear hh hod ce
    go_upto_region 7 with fail
    go_cut [6] from 7 (fun s6 W => ∃ bx M8 N8 M9 N9, s6 = .pointer (some ⟨bx, 0, none⟩) ∧ w.heap.size < bx ∧ HR w0 w W g A c b (aH, 0) 39 #[.int .i64 0, .int .i64 0, .int .i64 0, .int .i64 0, .int .i64 0, .int .u32 0, .int .u32 0, .int .u32 0, .slice none 0 0, .slice none 0 0, .int .i64 0, .int .i64 0, .int .i64 0, .int .u32 0, .int .u32 0, .slice none 0 0] ∧ W.heap[bx]? = some (.cells #[.int .i64 x2, .int .i64 x3, .int .i64 x4, .int .i64 x5, .int .i64 x6, .int .u32 x7, .int .u32 x8, .int .u32 x9, .slice M8 ([] : List Int).length N8, .slice M9 ([] : List Int).length N9, .int .i64 x1, .int .i64 x13, .int .i64 x14, .int .u32 x15, .int .u32 x16, .slice none 0 0] 39 (0, 0)) ∧ W.ownsRow w.heap.size 5 1 (.slice A5 D.length c5) D.length (nums .u8 D))
    case first =>
      rename_i J0 K0 hJ0 hM0
      refine wp_region_held_drew (S := fun _ => True) (by kernel_rfl) trivial (fun hHeld => ?_)
      refine wpAnyH_take (i := 0) (v := ?_) rfl (by kernel_rfl) (by kernel_rfl) (by kernel_rfl) (fun _ _ _ h => h) (Or.inl ⟨by rfl, ?_⟩) (by assumption) ?_
      rotate_left
      · (intro w hSw; go_simp; try with_reducible rfl)
      try simp only [Act.put, List.setIfInBounds_toArray, List.set_cons_zero, List.set_cons_succ]
      refine wpAnyH_take (i := 2) (v := ?_) rfl (by kernel_rfl) (by kernel_rfl) (by kernel_rfl) (fun _ _ _ h => h) (Or.inl ⟨by rfl, ?_⟩) (by assumption) ?_
      rotate_left
      · (intro w hSw; go_simp; try with_reducible rfl)
      try simp only [Act.put, List.setIfInBounds_toArray, List.set_cons_zero, List.set_cons_succ]
      refine wpAnyH_take (i := 3) (v := ?_) rfl (by kernel_rfl) (by kernel_rfl) (by kernel_rfl) (fun _ _ _ h => h) (Or.inl ⟨by rfl, ?_⟩) (by assumption) ?_
      rotate_left
      · (intro w hSw; go_simp; try with_reducible rfl)
      try simp only [Act.put, List.setIfInBounds_toArray, List.set_cons_zero, List.set_cons_succ]
      refine wpAnyH_take (i := 5) (v := ?_) rfl (by kernel_rfl) (by kernel_rfl) (by kernel_rfl) (fun _ _ _ h => h) (Or.inl ⟨by rfl, ?_⟩) (by assumption) ?_
      rotate_left
      · (intro w hSw; go_simp; try with_reducible rfl)
      try simp only [Act.put, List.setIfInBounds_toArray, List.set_cons_zero, List.set_cons_succ]
      refine wpAnyH_take (i := 7) (v := ?_) rfl (by kernel_rfl) (by kernel_rfl) (by kernel_rfl) (fun _ _ _ h => h) (Or.inl ⟨by rfl, ?_⟩) (by assumption) ?_
      rotate_left
      · (intro w hSw; go_simp; try with_reducible rfl)
      try simp only [Act.put, List.setIfInBounds_toArray, List.set_cons_zero, List.set_cons_succ]
      refine wpAnyH_take (i := 9) (v := ?_) rfl (by kernel_rfl) (by kernel_rfl) (by kernel_rfl) (fun _ _ _ h => h) (Or.inl ⟨by rfl, ?_⟩) (by assumption) ?_
      rotate_left
      · (intro w hSw; go_simp; try with_reducible rfl)
      try simp only [Act.put, List.setIfInBounds_toArray, List.set_cons_zero, List.set_cons_succ]
      refine wpAnyH_take (i := 10) (v := ?_) rfl (by kernel_rfl) (by kernel_rfl) (by kernel_rfl) (fun _ _ _ h => h) (Or.inl ⟨by rfl, ?_⟩) (by assumption) ?_
      rotate_left
      · (intro w hSw; go_simp; try with_reducible rfl)
      try simp only [Act.put, List.setIfInBounds_toArray, List.set_cons_zero, List.set_cons_succ]
      refine wpAnyH_take (i := 12) (v := ?_) rfl (by kernel_rfl) (by kernel_rfl) (by kernel_rfl) (fun _ _ _ h => h) (Or.inl ⟨by rfl, ?_⟩) (by assumption) ?_
      rotate_left
      · (intro w hSw; go_simp; try with_reducible rfl)
      try simp only [Act.put, List.setIfInBounds_toArray, List.set_cons_zero, List.set_cons_succ]
      refine wpAnyH_take (i := 13) (v := ?_) rfl (by kernel_rfl) (by kernel_rfl) (by kernel_rfl) (fun _ _ _ h => h) (Or.inl ⟨by rfl, ?_⟩) (by assumption) ?_
      rotate_left
      · (intro w hSw; go_simp; try with_reducible rfl)
      try simp only [Act.put, List.setIfInBounds_toArray, List.set_cons_zero, List.set_cons_succ]
      refine wpAnyH_ready (rs := [1, 16]) (by kernel_rfl) (by simp) ?_
      refine AllReadyH.cons rfl (fun K hK => ?_) ?_
      · go_simp
        (go_at_call 41; (with_reducible refine (HA1.out _ (own_Rd HOD.out)).mono ?_); rintro r w7 ⟨rfl, hb⟩; replace HH := Aside0.mk (HH.out.bel hb); replace HOD := Aside0.mk (pw_own_below HOD.out hb); clear hb)
        try go_simp
        refine hK.out _ _ trivial (fun hHeld => ?_)
        clear hK K
        refine wpAnyH_ready (rs := [4, 16]) (by kernel_rfl) (by simp) ?_
        refine AllReadyH.cons rfl (fun K hK => ?_) ?_
        · go_simp
          (go_at_call 60; (with_reducible refine (HHD.out _ (own_Rd HOD.out)).mono ?_); rintro r w7 ⟨m8, m9, rfl, hr8, hr9, hb⟩; obtain ⟨M8, N8, rfl⟩ := own_slice (Kd.own_of_R hr8); obtain ⟨M9, N9, rfl⟩ := own_slice (Kd.own_of_R hr9); clear hr8 hr9; replace HH := Aside0.mk (HH.out.bel hb); replace HOD := Aside0.mk (pw_own_below HOD.out hb); clear hb)
          try go_simp
          refine hK.out _ _ trivial (fun hHeld => ?_)
          clear hK K
          refine wpAnyH_ready (rs := [6, 16]) (by kernel_rfl) (by simp) ?_
          refine AllReadyH.cons rfl (fun K hK => ?_) ?_
          · go_simp
            (go_at_call 41; (with_reducible refine (HA5.out _ (own_Rd HOD.out)).mono ?_); rintro r w7 ⟨rfl, hb⟩; replace HH := Aside0.mk (HH.out.bel hb); replace HOD := Aside0.mk (pw_own_below HOD.out hb); clear hb)
            try go_simp
            refine hK.out _ _ trivial (fun hHeld => ?_)
            clear hK K
            refine wpAnyH_ready (rs := [8, 16]) (by kernel_rfl) (by simp) ?_
            refine AllReadyH.cons rfl (fun K hK => ?_) ?_
            · go_simp
              (go_at_call 41; (with_reducible refine (HA6.out _ (own_Rd HOD.out)).mono ?_); rintro r w7 ⟨rfl, hb⟩; replace HH := Aside0.mk (HH.out.bel hb); replace HOD := Aside0.mk (pw_own_below HOD.out hb); clear hb)
              try go_simp
              refine hK.out _ _ trivial (fun hHeld => ?_)
              clear hK K
              refine wpAnyH_ready (rs := [11, 16]) (by kernel_rfl) (by simp) ?_
              refine AllReadyH.cons rfl (fun K hK => ?_) ?_
              · go_simp
                (go_at_call 40; (with_reducible refine (HN7.out _ (own_Rd HOD.out)).mono ?_); rintro r w7 ⟨rfl, hb⟩; replace HH := Aside0.mk (HH.out.bel hb); replace HOD := Aside0.mk (pw_own_below HOD.out hb); clear hb)
                try go_simp
                refine hK.out _ _ trivial (fun hHeld => ?_)
                clear hK K
                refine wpAnyH_ready (rs := [14, 16]) (by kernel_rfl) (by simp) ?_
                refine AllReadyH.cons rfl (fun K hK => ?_) ?_
                · go_simp
                  (go_at_call 40; (with_reducible refine (HN8.out _ (own_Rd HOD.out)).mono ?_); rintro r w7 ⟨rfl, hb⟩; replace HH := Aside0.mk (HH.out.bel hb); replace HOD := Aside0.mk (pw_own_below HOD.out hb); clear hb)
                  try go_simp
                  refine hK.out _ _ trivial (fun hHeld => ?_)
                  clear hK K
                  refine wpAnyH_take (i := 15) (v := ?_) rfl (by kernel_rfl) (by kernel_rfl) (by kernel_rfl) (fun _ _ _ h => h) (Or.inl ⟨by rfl, ?_⟩) (by assumption) ?_
                  rotate_left
                  · (intro w hSw; go_simp; try with_reducible rfl)
                  try simp only [Act.put, List.setIfInBounds_toArray, List.set_cons_zero, List.set_cons_succ]
                  refine wpAnyH_ready (rs := [16]) (by kernel_rfl) (by simp) ?_
                  refine AllReadyH.cons rfl (fun K hK => ?_) AllReadyH.nil
                  go_simp
                  refine hK.out _ _ trivial (fun hHeld => ?_)
                  clear hK K hHeld
                  refine any_gen (fun W => HR w0 w W g A c b (aH, 0) 39 #[.int .i64 0, .int .i64 0, .int .i64 0, .int .i64 0, .int .i64 0, .int .u32 0, .int .u32 0, .int .u32 0, .slice none 0 0, .slice none 0 0, .int .i64 0, .int .i64 0, .int .i64 0, .int .u32 0, .int .u32 0, .slice none 0 0] ∧ W.heap[w7.heap.size]? = some (.cells #[.int .i64 0, .int .i64 0, .int .i64 0, .int .i64 0, .int .i64 0, .int .u32 0, .int .u32 0, .int .u32 0, .slice none 0 0, .slice none 0 0, .int .i64 0, .int .i64 0, .int .i64 0, .int .u32 0, .int .u32 0, .slice none 0 0] 39 (0, 0)) ∧ W.ownsRow w.heap.size 5 1 (.slice A5 D.length c5) D.length (nums .u8 D)) ⟨HH.out.bel (below_alloc (Below.refl _ _) _), (heap_alloc_new w7 _), pw_own_below HOD.out (below_alloc (Below.refl _ _) _)⟩ ?_
                  obtain ⟨bx, hbx⟩ : ∃ bx, w7.heap.size = bx := ⟨_, rfl⟩
                  have HLT : Aside0 (w.heap.size < bx) := ⟨hbx ▸ blk_lt HH.out.r2⟩
                  rw [hbx]
                  rintro w7 ⟨hh, hx, hod⟩
                  replace HH := Aside0.mk hh
                  have HX := Aside0.mk hx
                  replace HOD := Aside0.mk hod
                  clear hh hx hod hbx
                  have hHeld : (fun _ : World => True) w7 := trivial
                  refine wpAnyH_ready (rs := [17]) (by kernel_rfl) (by simp) ?_
                  refine AllReadyH.cons rfl (fun K hK => ?_) AllReadyH.nil
                  rw [if_pos (by rfl)]
                  refine wp_store_mid 39 (.tmp 6) (.tmp 41) rfl bx 0 #[.int .i64 x2, .int .i64 x3, .int .i64 x4, .int .i64 x5, .int .i64 x6, .int .u32 x7, .int .u32 x8, .int .u32 x9, .slice M8 ([] : List Int).length N8, .slice M9 ([] : List Int).length N9, .int .i64 x1, .int .i64 x13, .int .i64 x14, .int .u32 x15, .int .u32 x16, .slice none 0 0] rfl rfl (there_of HX.out _ (by simp)) (by kernel_rfl) (by simp [Value.oneCell']) ?_
                  refine hK.out _ _ trivial (fun _ => ?_)
                  refine wpAnyH_done (by kernel_rfl) ?_ _
                  refine hM0 _ _ (Met.intro (hJ0 _ _ ?_))
                  (repeat apply Exists.intro)
                  refine ⟨?_, rfl⟩
                  exact ⟨bx, M8, N8, M9, N9, rfl, HLT.out, HH.out.farS HLT.out _, blk_putall HX.out rfl, own_setCells HOD.out HX.out (by decide) _⟩
                refine AllReadyH.cons rfl (fun K hK => ?_) AllReadyH.nil
                go_simp
                refine hK.out _ _ trivial (fun hHeld => ?_)
                clear hK K hHeld
                refine any_gen (fun W => HR w0 w W g A c b (aH, 0) 39 #[.int .i64 0, .int .i64 0, .int .i64 0, .int .i64 0, .int .i64 0, .int .u32 0, .int .u32 0, .int .u32 0, .slice none 0 0, .slice none 0 0, .int .i64 0, .int .i64 0, .int .i64 0, .int .u32 0, .int .u32 0, .slice none 0 0] ∧ W.heap[w7.heap.size]? = some (.cells #[.int .i64 0, .int .i64 0, .int .i64 0, .int .i64 0, .int .i64 0, .int .u32 0, .int .u32 0, .int .u32 0, .slice none 0 0, .slice none 0 0, .int .i64 0, .int .i64 0, .int .i64 0, .int .u32 0, .int .u32 0, .slice none 0 0] 39 (0, 0)) ∧ W.ownsRow w.heap.size 5 1 (.slice A5 D.length c5) D.length (nums .u8 D)) ⟨HH.out.bel (below_alloc (Below.refl _ _) _), (heap_alloc_new w7 _), pw_own_below HOD.out (below_alloc (Below.refl _ _) _)⟩ ?_
                obtain ⟨bx, hbx⟩ : ∃ bx, w7.heap.size = bx := ⟨_, rfl⟩
                have HLT : Aside0 (w.heap.size < bx) := ⟨hbx ▸ blk_lt HH.out.r2⟩
                rw [hbx]
                rintro w7 ⟨hh, hx, hod⟩
                replace HH := Aside0.mk hh
                have HX := Aside0.mk hx
                replace HOD := Aside0.mk hod
                clear hh hx hod hbx
                have hHeld : (fun _ : World => True) w7 := trivial
                refine wpAnyH_ready (rs := [14]) (by kernel_rfl) (by simp) ?_
                refine AllReadyH.cons rfl (fun K hK => ?_) AllReadyH.nil
                · go_simp
                  (go_at_call 40; (with_reducible refine (HN8.out _ (own_Rd HOD.out)).mono ?_); rintro r w7 ⟨rfl, hb⟩; replace HH := Aside0.mk (HH.out.bel hb); replace HOD := Aside0.mk (pw_own_below HOD.out hb); replace HX := Aside0.mk (blk_below HX.out hb); clear hb)
                  try go_simp
                  refine hK.out _ _ trivial (fun hHeld => ?_)
                  clear hK K
                  refine wpAnyH_take (i := 15) (v := ?_) rfl (by kernel_rfl) (by kernel_rfl) (by kernel_rfl) (fun _ _ _ h => h) (Or.inl ⟨by rfl, ?_⟩) (by assumption) ?_
                  rotate_left
                  · (intro w hSw; go_simp; try with_reducible rfl)
                  try simp only [Act.put, List.setIfInBounds_toArray, List.set_cons_zero, List.set_cons_succ]
                  refine wpAnyH_ready (rs := [17]) (by kernel_rfl) (by simp) ?_
                  refine AllReadyH.cons rfl (fun K hK => ?_) AllReadyH.nil
                  rw [if_pos (by rfl)]
                  refine wp_store_mid 39 (.tmp 6) (.tmp 41) rfl bx 0 #[.int .i64 x2, .int .i64 x3, .int .i64 x4, .int .i64 x5, .int .i64 x6, .int .u32 x7, .int .u32 x8, .int .u32 x9, .slice M8 ([] : List Int).length N8, .slice M9 ([] : List Int).length N9, .int .i64 x1, .int .i64 x13, .int .i64 x14, .int .u32 x15, .int .u32 x16, .slice none 0 0] rfl rfl (there_of HX.out _ (by simp)) (by kernel_rfl) (by simp [Value.oneCell']) ?_
                  refine hK.out _ _ trivial (fun _ => ?_)
                  refine wpAnyH_done (by kernel_rfl) ?_ _
                  refine hM0 _ _ (Met.intro (hJ0 _ _ ?_))
                  (repeat apply Exists.intro)
                  refine ⟨?_, rfl⟩
                  exact ⟨bx, M8, N8, M9, N9, rfl, HLT.out, HH.out.farS HLT.out _, blk_putall HX.out rfl, own_setCells HOD.out HX.out (by decide) _⟩
              refine AllReadyH.cons rfl (fun K hK => ?_) AllReadyH.nil
              go_simp
              refine hK.out _ _ trivial (fun hHeld => ?_)
              clear hK K hHeld
              refine any_gen (fun W => HR w0 w W g A c b (aH, 0) 39 #[.int .i64 0, .int .i64 0, .int .i64 0, .int .i64 0, .int .i64 0, .int .u32 0, .int .u32 0, .int .u32 0, .slice none 0 0, .slice none 0 0, .int .i64 0, .int .i64 0, .int .i64 0, .int .u32 0, .int .u32 0, .slice none 0 0] ∧ W.heap[w7.heap.size]? = some (.cells #[.int .i64 0, .int .i64 0, .int .i64 0, .int .i64 0, .int .i64 0, .int .u32 0, .int .u32 0, .int .u32 0, .slice none 0 0, .slice none 0 0, .int .i64 0, .int .i64 0, .int .i64 0, .int .u32 0, .int .u32 0, .slice none 0 0] 39 (0, 0)) ∧ W.ownsRow w.heap.size 5 1 (.slice A5 D.length c5) D.length (nums .u8 D)) ⟨HH.out.bel (below_alloc (Below.refl _ _) _), (heap_alloc_new w7 _), pw_own_below HOD.out (below_alloc (Below.refl _ _) _)⟩ ?_
              obtain ⟨bx, hbx⟩ : ∃ bx, w7.heap.size = bx := ⟨_, rfl⟩
              have HLT : Aside0 (w.heap.size < bx) := ⟨hbx ▸ blk_lt HH.out.r2⟩
              rw [hbx]
              rintro w7 ⟨hh, hx, hod⟩
              replace HH := Aside0.mk hh
              have HX := Aside0.mk hx
              replace HOD := Aside0.mk hod
              clear hh hx hod hbx
              have hHeld : (fun _ : World => True) w7 := trivial
              refine wpAnyH_ready (rs := [11]) (by kernel_rfl) (by simp) ?_
              refine AllReadyH.cons rfl (fun K hK => ?_) AllReadyH.nil
              · go_simp
                (go_at_call 40; (with_reducible refine (HN7.out _ (own_Rd HOD.out)).mono ?_); rintro r w7 ⟨rfl, hb⟩; replace HH := Aside0.mk (HH.out.bel hb); replace HOD := Aside0.mk (pw_own_below HOD.out hb); replace HX := Aside0.mk (blk_below HX.out hb); clear hb)
                try go_simp
                refine hK.out _ _ trivial (fun hHeld => ?_)
                clear hK K
                refine wpAnyH_ready (rs := [14]) (by kernel_rfl) (by simp) ?_
                refine AllReadyH.cons rfl (fun K hK => ?_) AllReadyH.nil
                · go_simp
                  (go_at_call 40; (with_reducible refine (HN8.out _ (own_Rd HOD.out)).mono ?_); rintro r w7 ⟨rfl, hb⟩; replace HH := Aside0.mk (HH.out.bel hb); replace HOD := Aside0.mk (pw_own_below HOD.out hb); replace HX := Aside0.mk (blk_below HX.out hb); clear hb)
                  try go_simp
                  refine hK.out _ _ trivial (fun hHeld => ?_)
                  clear hK K
                  refine wpAnyH_take (i := 15) (v := ?_) rfl (by kernel_rfl) (by kernel_rfl) (by kernel_rfl) (fun _ _ _ h => h) (Or.inl ⟨by rfl, ?_⟩) (by assumption) ?_
                  rotate_left
                  · (intro w hSw; go_simp; try with_reducible rfl)
                  try simp only [Act.put, List.setIfInBounds_toArray, List.set_cons_zero, List.set_cons_succ]
                  refine wpAnyH_ready (rs := [17]) (by kernel_rfl) (by simp) ?_
                  refine AllReadyH.cons rfl (fun K hK => ?_) AllReadyH.nil
                  rw [if_pos (by rfl)]
                  refine wp_store_mid 39 (.tmp 6) (.tmp 41) rfl bx 0 #[.int .i64 x2, .int .i64 x3, .int .i64 x4, .int .i64 x5, .int .i64 x6, .int .u32 x7, .int .u32 x8, .int .u32 x9, .slice M8 ([] : List Int).length N8, .slice M9 ([] : List Int).length N9, .int .i64 x1, .int .i64 x13, .int .i64 x14, .int .u32 x15, .int .u32 x16, .slice none 0 0] rfl rfl (there_of HX.out _ (by simp)) (by kernel_rfl) (by simp [Value.oneCell']) ?_
                  refine hK.out _ _ trivial (fun _ => ?_)
                  refine wpAnyH_done (by kernel_rfl) ?_ _
                  refine hM0 _ _ (Met.intro (hJ0 _ _ ?_))
                  (repeat apply Exists.intro)
                  refine ⟨?_, rfl⟩
                  exact ⟨bx, M8, N8, M9, N9, rfl, HLT.out, HH.out.farS HLT.out _, blk_putall HX.out rfl, own_setCells HOD.out HX.out (by decide) _⟩
            refine AllReadyH.cons rfl (fun K hK => ?_) AllReadyH.nil
            go_simp
            refine hK.out _ _ trivial (fun hHeld => ?_)
            clear hK K hHeld
            refine any_gen (fun W => HR w0 w W g A c b (aH, 0) 39 #[.int .i64 0, .int .i64 0, .int .i64 0, .int .i64 0, .int .i64 0, .int .u32 0, .int .u32 0, .int .u32 0, .slice none 0 0, .slice none 0 0, .int .i64 0, .int .i64 0, .int .i64 0, .int .u32 0, .int .u32 0, .slice none 0 0] ∧ W.heap[w7.heap.size]? = some (.cells #[.int .i64 0, .int .i64 0, .int .i64 0, .int .i64 0, .int .i64 0, .int .u32 0, .int .u32 0, .int .u32 0, .slice none 0 0, .slice none 0 0, .int .i64 0, .int .i64 0, .int .i64 0, .int .u32 0, .int .u32 0, .slice none 0 0] 39 (0, 0)) ∧ W.ownsRow w.heap.size 5 1 (.slice A5 D.length c5) D.length (nums .u8 D)) ⟨HH.out.bel (below_alloc (Below.refl _ _) _), (heap_alloc_new w7 _), pw_own_below HOD.out (below_alloc (Below.refl _ _) _)⟩ ?_
            obtain ⟨bx, hbx⟩ : ∃ bx, w7.heap.size = bx := ⟨_, rfl⟩
            have HLT : Aside0 (w.heap.size < bx) := ⟨hbx ▸ blk_lt HH.out.r2⟩
            rw [hbx]
            rintro w7 ⟨hh, hx, hod⟩
            replace HH := Aside0.mk hh
            have HX := Aside0.mk hx
            replace HOD := Aside0.mk hod
            clear hh hx hod hbx
            have hHeld : (fun _ : World => True) w7 := trivial
            refine wpAnyH_ready (rs := [8]) (by kernel_rfl) (by simp) ?_
            refine AllReadyH.cons rfl (fun K hK => ?_) AllReadyH.nil
            · go_simp
              (go_at_call 41; (with_reducible refine (HA6.out _ (own_Rd HOD.out)).mono ?_); rintro r w7 ⟨rfl, hb⟩; replace HH := Aside0.mk (HH.out.bel hb); replace HOD := Aside0.mk (pw_own_below HOD.out hb); replace HX := Aside0.mk (blk_below HX.out hb); clear hb)
              try go_simp
              refine hK.out _ _ trivial (fun hHeld => ?_)
              clear hK K
              refine wpAnyH_ready (rs := [11]) (by kernel_rfl) (by simp) ?_
              refine AllReadyH.cons rfl (fun K hK => ?_) AllReadyH.nil
              · go_simp
                (go_at_call 40; (with_reducible refine (HN7.out _ (own_Rd HOD.out)).mono ?_); rintro r w7 ⟨rfl, hb⟩; replace HH := Aside0.mk (HH.out.bel hb); replace HOD := Aside0.mk (pw_own_below HOD.out hb); replace HX := Aside0.mk (blk_below HX.out hb); clear hb)
                try go_simp
                refine hK.out _ _ trivial (fun hHeld => ?_)
                clear hK K
                refine wpAnyH_ready (rs := [14]) (by kernel_rfl) (by simp) ?_
                refine AllReadyH.cons rfl (fun K hK => ?_) AllReadyH.nil
                · go_simp
                  (go_at_call 40; (with_reducible refine (HN8.out _ (own_Rd HOD.out)).mono ?_); rintro r w7 ⟨rfl, hb⟩; replace HH := Aside0.mk (HH.out.bel hb); replace HOD := Aside0.mk (pw_own_below HOD.out hb); replace HX := Aside0.mk (blk_below HX.out hb); clear hb)
                  try go_simp
                  refine hK.out _ _ trivial (fun hHeld => ?_)
                  clear hK K
                  refine wpAnyH_take (i := 15) (v := ?_) rfl (by kernel_rfl) (by kernel_rfl) (by kernel_rfl) (fun _ _ _ h => h) (Or.inl ⟨by rfl, ?_⟩) (by assumption) ?_
                  rotate_left
                  · (intro w hSw; go_simp; try with_reducible rfl)
                  try simp only [Act.put, List.setIfInBounds_toArray, List.set_cons_zero, List.set_cons_succ]
                  refine wpAnyH_ready (rs := [17]) (by kernel_rfl) (by simp) ?_
                  refine AllReadyH.cons rfl (fun K hK => ?_) AllReadyH.nil
                  rw [if_pos (by rfl)]
                  refine wp_store_mid 39 (.tmp 6) (.tmp 41) rfl bx 0 #[.int .i64 x2, .int .i64 x3, .int .i64 x4, .int .i64 x5, .int .i64 x6, .int .u32 x7, .int .u32 x8, .int .u32 x9, .slice M8 ([] : List Int).length N8, .slice M9 ([] : List Int).length N9, .int .i64 x1, .int .i64 x13, .int .i64 x14, .int .u32 x15, .int .u32 x16, .slice none 0 0] rfl rfl (there_of HX.out _ (by simp)) (by kernel_rfl) (by simp [Value.oneCell']) ?_
                  refine hK.out _ _ trivial (fun _ => ?_)
                  refine wpAnyH_done (by kernel_rfl) ?_ _
                  refine hM0 _ _ (Met.intro (hJ0 _ _ ?_))
                  (repeat apply Exists.intro)
                  refine ⟨?_, rfl⟩
                  exact ⟨bx, M8, N8, M9, N9, rfl, HLT.out, HH.out.farS HLT.out _, blk_putall HX.out rfl, own_setCells HOD.out HX.out (by decide) _⟩
          refine AllReadyH.cons rfl (fun K hK => ?_) AllReadyH.nil
          go_simp
          refine hK.out _ _ trivial (fun hHeld => ?_)
          clear hK K hHeld
          refine any_gen (fun W => HR w0 w W g A c b (aH, 0) 39 #[.int .i64 0, .int .i64 0, .int .i64 0, .int .i64 0, .int .i64 0, .int .u32 0, .int .u32 0, .int .u32 0, .slice none 0 0, .slice none 0 0, .int .i64 0, .int .i64 0, .int .i64 0, .int .u32 0, .int .u32 0, .slice none 0 0] ∧ W.heap[w7.heap.size]? = some (.cells #[.int .i64 0, .int .i64 0, .int .i64 0, .int .i64 0, .int .i64 0, .int .u32 0, .int .u32 0, .int .u32 0, .slice none 0 0, .slice none 0 0, .int .i64 0, .int .i64 0, .int .i64 0, .int .u32 0, .int .u32 0, .slice none 0 0] 39 (0, 0)) ∧ W.ownsRow w.heap.size 5 1 (.slice A5 D.length c5) D.length (nums .u8 D)) ⟨HH.out.bel (below_alloc (Below.refl _ _) _), (heap_alloc_new w7 _), pw_own_below HOD.out (below_alloc (Below.refl _ _) _)⟩ ?_
          obtain ⟨bx, hbx⟩ : ∃ bx, w7.heap.size = bx := ⟨_, rfl⟩
          have HLT : Aside0 (w.heap.size < bx) := ⟨hbx ▸ blk_lt HH.out.r2⟩
          rw [hbx]
          rintro w7 ⟨hh, hx, hod⟩
          replace HH := Aside0.mk hh
          have HX := Aside0.mk hx
          replace HOD := Aside0.mk hod
          clear hh hx hod hbx
          have hHeld : (fun _ : World => True) w7 := trivial
          refine wpAnyH_ready (rs := [6]) (by kernel_rfl) (by simp) ?_
          refine AllReadyH.cons rfl (fun K hK => ?_) AllReadyH.nil
          · go_simp
            (go_at_call 41; (with_reducible refine (HA5.out _ (own_Rd HOD.out)).mono ?_); rintro r w7 ⟨rfl, hb⟩; replace HH := Aside0.mk (HH.out.bel hb); replace HOD := Aside0.mk (pw_own_below HOD.out hb); replace HX := Aside0.mk (blk_below HX.out hb); clear hb)
            try go_simp
            refine hK.out _ _ trivial (fun hHeld => ?_)
            clear hK K
            refine wpAnyH_ready (rs := [8]) (by kernel_rfl) (by simp) ?_
            refine AllReadyH.cons rfl (fun K hK => ?_) AllReadyH.nil
            · go_simp
              (go_at_call 41; (with_reducible refine (HA6.out _ (own_Rd HOD.out)).mono ?_); rintro r w7 ⟨rfl, hb⟩; replace HH := Aside0.mk (HH.out.bel hb); replace HOD := Aside0.mk (pw_own_below HOD.out hb); replace HX := Aside0.mk (blk_below HX.out hb); clear hb)
              try go_simp
              refine hK.out _ _ trivial (fun hHeld => ?_)
              clear hK K
              refine wpAnyH_ready (rs := [11]) (by kernel_rfl) (by simp) ?_
              refine AllReadyH.cons rfl (fun K hK => ?_) AllReadyH.nil
              · go_simp
                (go_at_call 40; (with_reducible refine (HN7.out _ (own_Rd HOD.out)).mono ?_); rintro r w7 ⟨rfl, hb⟩; replace HH := Aside0.mk (HH.out.bel hb); replace HOD := Aside0.mk (pw_own_below HOD.out hb); replace HX := Aside0.mk (blk_below HX.out hb); clear hb)
                try go_simp
                refine hK.out _ _ trivial (fun hHeld => ?_)
                clear hK K
                refine wpAnyH_ready (rs := [14]) (by kernel_rfl) (by simp) ?_
                refine AllReadyH.cons rfl (fun K hK => ?_) AllReadyH.nil
                · go_simp
                  (go_at_call 40; (with_reducible refine (HN8.out _ (own_Rd HOD.out)).mono ?_); rintro r w7 ⟨rfl, hb⟩; replace HH := Aside0.mk (HH.out.bel hb); replace HOD := Aside0.mk (pw_own_below HOD.out hb); replace HX := Aside0.mk (blk_below HX.out hb); clear hb)
                  try go_simp
                  refine hK.out _ _ trivial (fun hHeld => ?_)
                  clear hK K
                  refine wpAnyH_take (i := 15) (v := ?_) rfl (by kernel_rfl) (by kernel_rfl) (by kernel_rfl) (fun _ _ _ h => h) (Or.inl ⟨by rfl, ?_⟩) (by assumption) ?_
                  rotate_left
                  · (intro w hSw; go_simp; try with_reducible rfl)
                  try simp only [Act.put, List.setIfInBounds_toArray, List.set_cons_zero, List.set_cons_succ]
                  refine wpAnyH_ready (rs := [17]) (by kernel_rfl) (by simp) ?_
                  refine AllReadyH.cons rfl (fun K hK => ?_) AllReadyH.nil
                  rw [if_pos (by rfl)]
                  refine wp_store_mid 39 (.tmp 6) (.tmp 41) rfl bx 0 #[.int .i64 x2, .int .i64 x3, .int .i64 x4, .int .i64 x5, .int .i64 x6, .int .u32 x7, .int .u32 x8, .int .u32 x9, .slice M8 ([] : List Int).length N8, .slice M9 ([] : List Int).length N9, .int .i64 x1, .int .i64 x13, .int .i64 x14, .int .u32 x15, .int .u32 x16, .slice none 0 0] rfl rfl (there_of HX.out _ (by simp)) (by kernel_rfl) (by simp [Value.oneCell']) ?_
                  refine hK.out _ _ trivial (fun _ => ?_)
                  refine wpAnyH_done (by kernel_rfl) ?_ _
                  refine hM0 _ _ (Met.intro (hJ0 _ _ ?_))
                  (repeat apply Exists.intro)
                  refine ⟨?_, rfl⟩
                  exact ⟨bx, M8, N8, M9, N9, rfl, HLT.out, HH.out.farS HLT.out _, blk_putall HX.out rfl, own_setCells HOD.out HX.out (by decide) _⟩
        refine AllReadyH.cons rfl (fun K hK => ?_) AllReadyH.nil
        go_simp
        refine hK.out _ _ trivial (fun hHeld => ?_)
        clear hK K hHeld
        refine any_gen (fun W => HR w0 w W g A c b (aH, 0) 39 #[.int .i64 0, .int .i64 0, .int .i64 0, .int .i64 0, .int .i64 0, .int .u32 0, .int .u32 0, .int .u32 0, .slice none 0 0, .slice none 0 0, .int .i64 0, .int .i64 0, .int .i64 0, .int .u32 0, .int .u32 0, .slice none 0 0] ∧ W.heap[w7.heap.size]? = some (.cells #[.int .i64 0, .int .i64 0, .int .i64 0, .int .i64 0, .int .i64 0, .int .u32 0, .int .u32 0, .int .u32 0, .slice none 0 0, .slice none 0 0, .int .i64 0, .int .i64 0, .int .i64 0, .int .u32 0, .int .u32 0, .slice none 0 0] 39 (0, 0)) ∧ W.ownsRow w.heap.size 5 1 (.slice A5 D.length c5) D.length (nums .u8 D)) ⟨HH.out.bel (below_alloc (Below.refl _ _) _), (heap_alloc_new w7 _), pw_own_below HOD.out (below_alloc (Below.refl _ _) _)⟩ ?_
        obtain ⟨bx, hbx⟩ : ∃ bx, w7.heap.size = bx := ⟨_, rfl⟩
        have HLT : Aside0 (w.heap.size < bx) := ⟨hbx ▸ blk_lt HH.out.r2⟩
        rw [hbx]
        rintro w7 ⟨hh, hx, hod⟩
        replace HH := Aside0.mk hh
        have HX := Aside0.mk hx
        replace HOD := Aside0.mk hod
        clear hh hx hod hbx
        have hHeld : (fun _ : World => True) w7 := trivial
        refine wpAnyH_ready (rs := [4]) (by kernel_rfl) (by simp) ?_
        refine AllReadyH.cons rfl (fun K hK => ?_) AllReadyH.nil
        · go_simp
          (go_at_call 60; (with_reducible refine (HHD.out _ (own_Rd HOD.out)).mono ?_); rintro r w7 ⟨m8, m9, rfl, hr8, hr9, hb⟩; obtain ⟨M8, N8, rfl⟩ := own_slice (Kd.own_of_R hr8); obtain ⟨M9, N9, rfl⟩ := own_slice (Kd.own_of_R hr9); clear hr8 hr9; replace HH := Aside0.mk (HH.out.bel hb); replace HOD := Aside0.mk (pw_own_below HOD.out hb); replace HX := Aside0.mk (blk_below HX.out hb); clear hb)
          try go_simp
          refine hK.out _ _ trivial (fun hHeld => ?_)
          clear hK K
          refine wpAnyH_ready (rs := [6]) (by kernel_rfl) (by simp) ?_
          refine AllReadyH.cons rfl (fun K hK => ?_) AllReadyH.nil
          · go_simp
            (go_at_call 41; (with_reducible refine (HA5.out _ (own_Rd HOD.out)).mono ?_); rintro r w7 ⟨rfl, hb⟩; replace HH := Aside0.mk (HH.out.bel hb); replace HOD := Aside0.mk (pw_own_below HOD.out hb); replace HX := Aside0.mk (blk_below HX.out hb); clear hb)
            try go_simp
            refine hK.out _ _ trivial (fun hHeld => ?_)
            clear hK K
            refine wpAnyH_ready (rs := [8]) (by kernel_rfl) (by simp) ?_
            refine AllReadyH.cons rfl (fun K hK => ?_) AllReadyH.nil
            · go_simp
              (go_at_call 41; (with_reducible refine (HA6.out _ (own_Rd HOD.out)).mono ?_); rintro r w7 ⟨rfl, hb⟩; replace HH := Aside0.mk (HH.out.bel hb); replace HOD := Aside0.mk (pw_own_below HOD.out hb); replace HX := Aside0.mk (blk_below HX.out hb); clear hb)
              try go_simp
              refine hK.out _ _ trivial (fun hHeld => ?_)
              clear hK K
              refine wpAnyH_ready (rs := [11]) (by kernel_rfl) (by simp) ?_
              refine AllReadyH.cons rfl (fun K hK => ?_) AllReadyH.nil
              · go_simp
                (go_at_call 40; (with_reducible refine (HN7.out _ (own_Rd HOD.out)).mono ?_); rintro r w7 ⟨rfl, hb⟩; replace HH := Aside0.mk (HH.out.bel hb); replace HOD := Aside0.mk (pw_own_below HOD.out hb); replace HX := Aside0.mk (blk_below HX.out hb); clear hb)
                try go_simp
                refine hK.out _ _ trivial (fun hHeld => ?_)
                clear hK K
                refine wpAnyH_ready (rs := [14]) (by kernel_rfl) (by simp) ?_
                refine AllReadyH.cons rfl (fun K hK => ?_) AllReadyH.nil
                · go_simp
                  (go_at_call 40; (with_reducible refine (HN8.out _ (own_Rd HOD.out)).mono ?_); rintro r w7 ⟨rfl, hb⟩; replace HH := Aside0.mk (HH.out.bel hb); replace HOD := Aside0.mk (pw_own_below HOD.out hb); replace HX := Aside0.mk (blk_below HX.out hb); clear hb)
                  try go_simp
                  refine hK.out _ _ trivial (fun hHeld => ?_)
                  clear hK K
                  refine wpAnyH_take (i := 15) (v := ?_) rfl (by kernel_rfl) (by kernel_rfl) (by kernel_rfl) (fun _ _ _ h => h) (Or.inl ⟨by rfl, ?_⟩) (by assumption) ?_
                  rotate_left
                  · (intro w hSw; go_simp; try with_reducible rfl)
                  try simp only [Act.put, List.setIfInBounds_toArray, List.set_cons_zero, List.set_cons_succ]
                  refine wpAnyH_ready (rs := [17]) (by kernel_rfl) (by simp) ?_
                  refine AllReadyH.cons rfl (fun K hK => ?_) AllReadyH.nil
                  rw [if_pos (by rfl)]
                  refine wp_store_mid 39 (.tmp 6) (.tmp 41) rfl bx 0 #[.int .i64 x2, .int .i64 x3, .int .i64 x4, .int .i64 x5, .int .i64 x6, .int .u32 x7, .int .u32 x8, .int .u32 x9, .slice M8 ([] : List Int).length N8, .slice M9 ([] : List Int).length N9, .int .i64 x1, .int .i64 x13, .int .i64 x14, .int .u32 x15, .int .u32 x16, .slice none 0 0] rfl rfl (there_of HX.out _ (by simp)) (by kernel_rfl) (by simp [Value.oneCell']) ?_
                  refine hK.out _ _ trivial (fun _ => ?_)
                  refine wpAnyH_done (by kernel_rfl) ?_ _
                  refine hM0 _ _ (Met.intro (hJ0 _ _ ?_))
                  (repeat apply Exists.intro)
                  refine ⟨?_, rfl⟩
                  exact ⟨bx, M8, N8, M9, N9, rfl, HLT.out, HH.out.farS HLT.out _, blk_putall HX.out rfl, own_setCells HOD.out HX.out (by decide) _⟩
      refine AllReadyH.cons rfl (fun K hK => ?_) AllReadyH.nil
      go_simp
      refine hK.out _ _ trivial (fun hHeld => ?_)
      clear hK K hHeld
      refine any_gen (fun W => HR w0 w W g A c b (aH, 0) 39 #[.int .i64 0, .int .i64 0, .int .i64 0, .int .i64 0, .int .i64 0, .int .u32 0, .int .u32 0, .int .u32 0, .slice none 0 0, .slice none 0 0, .int .i64 0, .int .i64 0, .int .i64 0, .int .u32 0, .int .u32 0, .slice none 0 0] ∧ W.heap[w7.heap.size]? = some (.cells #[.int .i64 0, .int .i64 0, .int .i64 0, .int .i64 0, .int .i64 0, .int .u32 0, .int .u32 0, .int .u32 0, .slice none 0 0, .slice none 0 0, .int .i64 0, .int .i64 0, .int .i64 0, .int .u32 0, .int .u32 0, .slice none 0 0] 39 (0, 0)) ∧ W.ownsRow w.heap.size 5 1 (.slice A5 D.length c5) D.length (nums .u8 D)) ⟨HH0.out.bel (below_drew (below_alloc (Below.refl _ _) _)), (show (World.drew (w7.alloc _)).heap[w7.heap.size]? = _ from heap_alloc_new w7 _), pw_own_below HOD0.out (below_drew (below_alloc (Below.refl _ _) _))⟩ ?_
      obtain ⟨bx, hbx⟩ : ∃ bx, w7.heap.size = bx := ⟨_, rfl⟩
      have HLT : Aside0 (w.heap.size < bx) := ⟨hbx ▸ blk_lt HH0.out.r2⟩
      rw [hbx]
      rintro w7 ⟨hh, hx, hod⟩
      replace HH := Aside0.mk hh
      have HX := Aside0.mk hx
      replace HOD := Aside0.mk hod
      clear hh hx hod hbx
      have hHeld : (fun _ : World => True) w7 := trivial
      refine wpAnyH_ready (rs := [1]) (by kernel_rfl) (by simp) ?_
      refine AllReadyH.cons rfl (fun K hK => ?_) AllReadyH.nil
      · go_simp
        (go_at_call 41; (with_reducible refine (HA1.out _ (own_Rd HOD.out)).mono ?_); rintro r w7 ⟨rfl, hb⟩; replace HH := Aside0.mk (HH.out.bel hb); replace HOD := Aside0.mk (pw_own_below HOD.out hb); replace HX := Aside0.mk (blk_below HX.out hb); clear hb)
        try go_simp
        refine hK.out _ _ trivial (fun hHeld => ?_)
        clear hK K
        refine wpAnyH_ready (rs := [4]) (by kernel_rfl) (by simp) ?_
        refine AllReadyH.cons rfl (fun K hK => ?_) AllReadyH.nil
        · go_simp
          (go_at_call 60; (with_reducible refine (HHD.out _ (own_Rd HOD.out)).mono ?_); rintro r w7 ⟨m8, m9, rfl, hr8, hr9, hb⟩; obtain ⟨M8, N8, rfl⟩ := own_slice (Kd.own_of_R hr8); obtain ⟨M9, N9, rfl⟩ := own_slice (Kd.own_of_R hr9); clear hr8 hr9; replace HH := Aside0.mk (HH.out.bel hb); replace HOD := Aside0.mk (pw_own_below HOD.out hb); replace HX := Aside0.mk (blk_below HX.out hb); clear hb)
          try go_simp
          refine hK.out _ _ trivial (fun hHeld => ?_)
          clear hK K
          refine wpAnyH_ready (rs := [6]) (by kernel_rfl) (by simp) ?_
          refine AllReadyH.cons rfl (fun K hK => ?_) AllReadyH.nil
          · go_simp
            (go_at_call 41; (with_reducible refine (HA5.out _ (own_Rd HOD.out)).mono ?_); rintro r w7 ⟨rfl, hb⟩; replace HH := Aside0.mk (HH.out.bel hb); replace HOD := Aside0.mk (pw_own_below HOD.out hb); replace HX := Aside0.mk (blk_below HX.out hb); clear hb)
            try go_simp
            refine hK.out _ _ trivial (fun hHeld => ?_)
            clear hK K
            refine wpAnyH_ready (rs := [8]) (by kernel_rfl) (by simp) ?_
            refine AllReadyH.cons rfl (fun K hK => ?_) AllReadyH.nil
            · go_simp
              (go_at_call 41; (with_reducible refine (HA6.out _ (own_Rd HOD.out)).mono ?_); rintro r w7 ⟨rfl, hb⟩; replace HH := Aside0.mk (HH.out.bel hb); replace HOD := Aside0.mk (pw_own_below HOD.out hb); replace HX := Aside0.mk (blk_below HX.out hb); clear hb)
              try go_simp
              refine hK.out _ _ trivial (fun hHeld => ?_)
              clear hK K
              refine wpAnyH_ready (rs := [11]) (by kernel_rfl) (by simp) ?_
              refine AllReadyH.cons rfl (fun K hK => ?_) AllReadyH.nil
              · go_simp
                (go_at_call 40; (with_reducible refine (HN7.out _ (own_Rd HOD.out)).mono ?_); rintro r w7 ⟨rfl, hb⟩; replace HH := Aside0.mk (HH.out.bel hb); replace HOD := Aside0.mk (pw_own_below HOD.out hb); replace HX := Aside0.mk (blk_below HX.out hb); clear hb)
                try go_simp
                refine hK.out _ _ trivial (fun hHeld => ?_)
                clear hK K
                refine wpAnyH_ready (rs := [14]) (by kernel_rfl) (by simp) ?_
                refine AllReadyH.cons rfl (fun K hK => ?_) AllReadyH.nil
                · go_simp
                  (go_at_call 40; (with_reducible refine (HN8.out _ (own_Rd HOD.out)).mono ?_); rintro r w7 ⟨rfl, hb⟩; replace HH := Aside0.mk (HH.out.bel hb); replace HOD := Aside0.mk (pw_own_below HOD.out hb); replace HX := Aside0.mk (blk_below HX.out hb); clear hb)
                  try go_simp
                  refine hK.out _ _ trivial (fun hHeld => ?_)
                  clear hK K
                  refine wpAnyH_take (i := 15) (v := ?_) rfl (by kernel_rfl) (by kernel_rfl) (by kernel_rfl) (fun _ _ _ h => h) (Or.inl ⟨by rfl, ?_⟩) (by assumption) ?_
                  rotate_left
                  · (intro w hSw; go_simp; try with_reducible rfl)
                  try simp only [Act.put, List.setIfInBounds_toArray, List.set_cons_zero, List.set_cons_succ]
                  refine wpAnyH_ready (rs := [17]) (by kernel_rfl) (by simp) ?_
                  refine AllReadyH.cons rfl (fun K hK => ?_) AllReadyH.nil
                  rw [if_pos (by rfl)]
                  refine wp_store_mid 39 (.tmp 6) (.tmp 41) rfl bx 0 #[.int .i64 x2, .int .i64 x3, .int .i64 x4, .int .i64 x5, .int .i64 x6, .int .u32 x7, .int .u32 x8, .int .u32 x9, .slice M8 ([] : List Int).length N8, .slice M9 ([] : List Int).length N9, .int .i64 x1, .int .i64 x13, .int .i64 x14, .int .u32 x15, .int .u32 x16, .slice none 0 0] rfl rfl (there_of HX.out _ (by simp)) (by kernel_rfl) (by simp [Value.oneCell']) ?_
                  refine hK.out _ _ trivial (fun _ => ?_)
                  refine wpAnyH_done (by kernel_rfl) ?_ _
                  refine hM0 _ _ (Met.intro (hJ0 _ _ ?_))
                  (repeat apply Exists.intro)
                  refine ⟨?_, rfl⟩
                  exact ⟨bx, M8, N8, M9, N9, rfl, HLT.out, HH.out.farS HLT.out _, blk_putall HX.out rfl, own_setCells HOD.out HX.out (by decide) _⟩
    clear HH HOD HH0 HOD0
    obtain ⟨bx, M8, N8, M9, N9, hs6, hlt, hh, hx', hod⟩ := hcut
    subst hs6
    have HLT := Aside0.mk hlt
    have HH := Aside0.mk hh
    have HX := Aside0.mk hx'
    have HOD := Aside0.mk hod
    clear hlt hh hx' hod
    go_upto_region 9 with (first
      | (go_at_call 41; (with_reducible refine (HA2.out _ (own_Rd HOD.out)).mono ?_); rintro r w7 ⟨rfl, hb⟩; replace HH := Aside0.mk (HH.out.bel hb); replace HOD := Aside0.mk (pw_own_below HOD.out hb); replace HX := Aside0.mk (blk_below HX.out hb))
      | (go_at_call 32; (with_reducible refine (HB1.out _ HH.out.rs).mono ?_); rintro r w6 ⟨B1, f1, rfl, ho, hc, hk⟩; replace HX := Aside0.mk (blk_rcur HX.out (by decide) HH.out.rs hk); replace HOD := Aside0.mk (own_rcur HOD.out (by decide) HH.out.rs hk);  have HO1 := Aside0.mk (own_weaken ho HH.out.kk.1); replace HH := Aside0.mk (HH.out.op hc hk); clear ho hc hk; have hx : w6.cell? ⟨bx, 8, none⟩ = some (.slice M8 ([] : List Int).length N8) := (blk_cell HX.out 8).trans rfl; have fx : w6.frozen? ⟨bx, 8, none⟩ = false := blk_frozen HX.out 8)
      | fail)
    refine wp_gen (fun W => HR w0 w W g A c b t1 39 #[.int .i64 0, .int .i64 0, .int .i64 0, .int .i64 0, .int .i64 0, .int .u32 0, .int .u32 0, .int .u32 0, .slice none 0 0, .slice none 0 0, .int .i64 0, .int .i64 0, .int .i64 0, .int .u32 0, .int .u32 0, .slice none 0 0] ∧ W.heap[bx]? = some (.cells #[.int .i64 x2, .int .i64 x3, .int .i64 x4, .int .i64 x5, .int .i64 x6, .int .u32 x7, .int .u32 x8, .int .u32 x9, .slice B1 D1.length f1, .slice M9 ([] : List Int).length N9, .int .i64 x1, .int .i64 x13, .int .i64 x14, .int .u32 x15, .int .u32 x16, .slice none 0 0] 39 (0, 0)) ∧ W.ownsRow w.heap.size 5 1 (.slice A5 D.length c5) D.length (nums .u8 D) ∧ W.ownsRow w.heap.size 5 1 (.slice B1 D1.length f1) D1.length (nums .u8 D1)) ⟨HH.out.far HLT.out 8 _, blk_set HX.out 8 _, own_setCell HOD.out (own_ne HOD.out HX.out (by decide)) _, own_setCell HO1.out (own_ne HO1.out HX.out (by decide)) _⟩ ?_
    rintro W9 ⟨hh, hx', hod, ho1⟩
    replace HH := Aside0.mk hh
    replace HX := Aside0.mk hx'
    replace HOD := Aside0.mk hod
    replace HO1 := Aside0.mk ho1
    clear hh hx' hod ho1
    try clear hx fx
    go_upto_region 10 with (first
      | (go_at_call 41; (with_reducible refine (HA3.out _ (own_Rd HOD.out)).mono ?_); rintro r w7 ⟨rfl, hb⟩; replace HH := Aside0.mk (HH.out.bel hb); replace HOD := Aside0.mk (pw_own_below HOD.out hb); replace HX := Aside0.mk (blk_below HX.out hb); replace HO1 := Aside0.mk (pw_own_below HO1.out hb))
      | (go_at_call 32; (with_reducible refine (HB2.out _ HH.out.rs).mono ?_); rintro r w6 ⟨B2, f2, rfl, ho, hc, hk⟩; replace HX := Aside0.mk (blk_rcur HX.out (by decide) HH.out.rs hk); replace HOD := Aside0.mk (own_rcur HOD.out (by decide) HH.out.rs hk); replace HO1 := Aside0.mk (own_rcur HO1.out (by decide) HH.out.rs hk); have HO2 := Aside0.mk (own_weaken ho HH.out.kk.1); replace HH := Aside0.mk (HH.out.op hc hk); clear ho hc hk; have hx : w6.cell? ⟨bx, 9, none⟩ = some (.slice M9 ([] : List Int).length N9) := (blk_cell HX.out 9).trans rfl; have fx : w6.frozen? ⟨bx, 9, none⟩ = false := blk_frozen HX.out 9)
      | fail)
    refine wp_gen (fun W => HR w0 w W g A c b t2 39 #[.int .i64 0, .int .i64 0, .int .i64 0, .int .i64 0, .int .i64 0, .int .u32 0, .int .u32 0, .int .u32 0, .slice none 0 0, .slice none 0 0, .int .i64 0, .int .i64 0, .int .i64 0, .int .u32 0, .int .u32 0, .slice none 0 0] ∧ W.heap[bx]? = some (.cells #[.int .i64 x2, .int .i64 x3, .int .i64 x4, .int .i64 x5, .int .i64 x6, .int .u32 x7, .int .u32 x8, .int .u32 x9, .slice B1 D1.length f1, .slice B2 D2.length f2, .int .i64 x1, .int .i64 x13, .int .i64 x14, .int .u32 x15, .int .u32 x16, .slice none 0 0] 39 (0, 0)) ∧ W.ownsRow w.heap.size 5 1 (.slice A5 D.length c5) D.length (nums .u8 D) ∧ W.ownsRow w.heap.size 5 1 (.slice B1 D1.length f1) D1.length (nums .u8 D1) ∧ W.ownsRow w.heap.size 5 1 (.slice B2 D2.length f2) D2.length (nums .u8 D2)) ⟨HH.out.far HLT.out 9 _, blk_set HX.out 9 _, own_setCell HOD.out (own_ne HOD.out HX.out (by decide)) _, own_setCell HO1.out (own_ne HO1.out HX.out (by decide)) _, own_setCell HO2.out (own_ne HO2.out HX.out (by decide)) _⟩ ?_
    rintro W10 ⟨hh, hx', hod, ho1, ho2⟩
    replace HH := Aside0.mk hh
    replace HX := Aside0.mk hx'
    replace HOD := Aside0.mk hod
    replace HO1 := Aside0.mk ho1
    replace HO2 := Aside0.mk ho2
    clear hh hx' hod ho1 ho2
    try clear hx fx
    go_upto_region 11 with (first
      | (go_at_call 41; (with_reducible refine (HA4.out _ (own_Rd HOD.out)).mono ?_); rintro r w7 ⟨rfl, hb⟩; replace HH := Aside0.mk (HH.out.bel hb); replace HOD := Aside0.mk (pw_own_below HOD.out hb); replace HX := Aside0.mk (blk_below HX.out hb); replace HO1 := Aside0.mk (pw_own_below HO1.out hb); replace HO2 := Aside0.mk (pw_own_below HO2.out hb))
      | (go_at_call 32; (with_reducible refine (HB3.out _ HH.out.rs).mono ?_); rintro r w6 ⟨B3, f3, rfl, ho, hc, hk⟩; replace HX := Aside0.mk (blk_rcur HX.out (by decide) HH.out.rs hk); replace HOD := Aside0.mk (own_rcur HOD.out (by decide) HH.out.rs hk); replace HO1 := Aside0.mk (own_rcur HO1.out (by decide) HH.out.rs hk); replace HO2 := Aside0.mk (own_rcur HO2.out (by decide) HH.out.rs hk); have HO3 := Aside0.mk (own_weaken ho HH.out.kk.1); replace HH := Aside0.mk (HH.out.op hc hk); clear ho hc hk; have hx : w6.cell? ⟨bx, 15, none⟩ = some (.slice none 0 0) := (blk_cell HX.out 15).trans rfl; have fx : w6.frozen? ⟨bx, 15, none⟩ = false := blk_frozen HX.out 15)
      | fail)
    refine wp_gen (fun W => HR w0 w W g A c b t3 39 #[.int .i64 0, .int .i64 0, .int .i64 0, .int .i64 0, .int .i64 0, .int .u32 0, .int .u32 0, .int .u32 0, .slice none 0 0, .slice none 0 0, .int .i64 0, .int .i64 0, .int .i64 0, .int .u32 0, .int .u32 0, .slice none 0 0] ∧ W.heap[bx]? = some (.cells #[.int .i64 x2, .int .i64 x3, .int .i64 x4, .int .i64 x5, .int .i64 x6, .int .u32 x7, .int .u32 x8, .int .u32 x9, .slice B1 D1.length f1, .slice B2 D2.length f2, .int .i64 x1, .int .i64 x13, .int .i64 x14, .int .u32 x15, .int .u32 x16, .slice B3 D3.length f3] 39 (0, 0)) ∧ W.ownsRow w.heap.size 5 1 (.slice A5 D.length c5) D.length (nums .u8 D) ∧ W.ownsRow w.heap.size 5 1 (.slice B1 D1.length f1) D1.length (nums .u8 D1) ∧ W.ownsRow w.heap.size 5 1 (.slice B2 D2.length f2) D2.length (nums .u8 D2) ∧ W.ownsRow w.heap.size 5 1 (.slice B3 D3.length f3) D3.length (nums .u8 D3)) ⟨HH.out.far HLT.out 15 _, blk_set HX.out 15 _, own_setCell HOD.out (own_ne HOD.out HX.out (by decide)) _, own_setCell HO1.out (own_ne HO1.out HX.out (by decide)) _, own_setCell HO2.out (own_ne HO2.out HX.out (by decide)) _, own_setCell HO3.out (own_ne HO3.out HX.out (by decide)) _⟩ ?_
    rintro W11 ⟨hh, hx', hod, ho1, ho2, ho3⟩
    replace HH := Aside0.mk hh
    replace HX := Aside0.mk hx'
    replace HOD := Aside0.mk hod
    replace HO1 := Aside0.mk ho1
    replace HO2 := Aside0.mk ho2
    replace HO3 := Aside0.mk ho3
    clear hh hx' hod ho1 ho2 ho3
    try clear hx fx
    have ce : W11.cell? ⟨g, 2, none⟩ = some (.int .i64 0) := by have h9 := (blk_cell HH.out.rs.blk 2).trans rfl; rw [HE2.out] at h9; exact h9
    go_upto_if 63 with fail
    go_wp2_with (first
      | ((with_reducible refine gate_dst (N := 69) rfl ?_); refine wpList_load_row rfl 39 (.tmp 6) rfl bx rfl 39 _ (0, 0) _ HX.out Try.underlying39 rfl (by kernel_rfl) ?_)
      | ((with_reducible refine gate_store (t := 39) (p := 2) (v := .tmp 69) rfl ?_); refine wpList_store_mid rfl 39 (.tmp 2) (.tmp 69) rfl w.heap.size 0 #[.int .i64 x2, .int .i64 x3, .int .i64 x4, .int .i64 x5, .int .i64 x6, .int .u32 x7, .int .u32 x8, .int .u32 x9, .slice B1 D1.length f1, .slice B2 D2.length f2, .int .i64 x1, .int .i64 x13, .int .i64 x14, .int .u32 x15, .int .u32 x16, .slice B3 D3.length f3] rfl rfl (there_of HH.out.r2 _ (by simp)) (by kernel_rfl) (by simp [Value.oneCell']) ?_; refine wpl_gen (fun W => HR w0 w W g A c b t3 39 #[.int .i64 x2, .int .i64 x3, .int .i64 x4, .int .i64 x5, .int .i64 x6, .int .u32 x7, .int .u32 x8, .int .u32 x9, .slice B1 D1.length f1, .slice B2 D2.length f2, .int .i64 x1, .int .i64 x13, .int .i64 x14, .int .u32 x15, .int .u32 x16, .slice B3 D3.length f3] ∧ W.ownsRow w.heap.size 5 1 (.slice B1 D1.length f1) D1.length (nums .u8 D1) ∧ W.ownsRow w.heap.size 5 1 (.slice B2 D2.length f2) D2.length (nums .u8 D2) ∧ W.ownsRow w.heap.size 5 1 (.slice B3 D3.length f3) D3.length (nums .u8 D3)) ⟨HH.out.put _ rfl, own_setCells HO1.out HH.out.r2 (by decide) _, own_setCells HO2.out HH.out.r2 (by decide) _, own_setCells HO3.out HH.out.r2 (by decide) _⟩ ?_; rintro w5 ⟨hh, ho1, ho2, ho3⟩; replace HH := Aside0.mk hh; replace HO1 := Aside0.mk ho1; replace HO2 := Aside0.mk ho2; replace HO3 := Aside0.mk ho3)
      | fail)
    refine bodyPost_ret (results_ct rfl _ _ w.heap.size 39 _ (0, 0) _ rfl HH.out.r2 Try.underlying39 rfl (by kernel_rfl)) rfl ?_
    exact ⟨B1, f1, B2, f2, B3, f3, ⟨rfl, HH.out.rs, HH.out.kk⟩, HO1.out, HO2.out, HO3.out⟩
  · have hst := HST.out heH
    have h9 := HE2.out
    rw [hst] at h9
    exact absurd h9 heH
end Go.Proofs.Ytpmiofjhgmdghaa.Fld
