/- record.ReadLocal, walked. -/
import Derived.Test.YtpmiofjhgmdghaaRecRead2
import Derived.Lib.OwnKind
namespace Go.Proofs.Ytpmiofjhgmdghaa.Fld
open Go.RowKit Go.Proofs.YtpmiofjhgmdghaaW.PrintWords Go.Proofs.YtpmiofjhgmdghaaW.PrintLast Go.Proofs.YtpmiofjhgmdghaaW.PrintMore
set_option linter.unusedVariables false
set_option linter.unusedSimpArgs false
/-- a row of bytes beside a cursor -/
theorem own_cur {W W' : World} {B g base n : Nat} {v u : Value} {b : List Int} {s : Sta} {xs : List Value} (h : W.ownsRow base 5 1 u n xs) (hc : CS W B g v b s) (hk : CKept W W' B g) : W'.ownsRow base 5 1 u n xs := by
  refine own_move h (fun k he => hk.kept.2 k ?_ ?_)
  · obtain ⟨c, fz, hb⟩ := Go.Lib.ownsRow_kind h k he
    exact (Array.getElem?_eq_some_iff.1 hb).1
  · intro e
    have h1 := own_ne h hc.blk neC_types
    exact h1 (by rw [he]; exact congrArg some (show g = k from e.symm))
theorem H1.drew {w W : World} {B g : Nat} {v : Value} {b : List Int} {s : Sta} {t : Nat} {C : Array Value} (h : H1 w W B g v b s t C) : H1 w W.drew B g v b s t C := ⟨h.cs.drew, h.r2, ⟨below_drew h.kk.below, h.kk.kept.drew⟩, h.gl⟩
set_option maxHeartbeats 4000000 in
set_option maxRecDepth 100000 in
theorem rec_readLocal_sign (w : World) (B g : Nat) (v : Value) (b : List Int) (s : Sta) (h : CS w B g v b s) (hb : ∀ x ∈ b, 0 ≤ x ∧ x ≤ 255) (E : Int) (hE : sgE b s 67324752 = E) (he : E ≠ 0) :
    Calls Try.prog 23 #[.pointer (some ⟨g, 0, none⟩)] w (RPost1 w B g v b (rA b s 4) #[.int .i64 0, .int .i64 0, .int .i64 0, .int .i64 0, .int .i64 0, .int .u32 0, .int .u32 0, .int .u32 0, .slice none 0 0, .slice none 0 0] E) := by
  have HBY := Aside0.mk hb
  have HH : Aside0 (H1 w (w.alloc (.cells #[.int .i64 0, .int .i64 0, .int .i64 0, .int .i64 0, .int .i64 0, .int .u32 0, .int .u32 0, .int .u32 0, .slice none 0 0, .slice none 0 0] 37)) B g v b s 37 #[.int .i64 0, .int .i64 0, .int .i64 0, .int .i64 0, .int .i64 0, .int .u32 0, .int .u32 0, .int .u32 0, .slice none 0 0, .slice none 0 0]) := ⟨H1.start h _ _⟩
  have HSG : Aside0 (Calls Try.prog 52 #[.pointer (some ⟨g, 0, none⟩), .int .u32 67324752] (w.alloc (.cells #[.int .i64 0, .int .i64 0, .int .i64 0, .int .i64 0, .int .i64 0, .int .u32 0, .int .u32 0, .int .u32 0, .slice none 0 0, .slice none 0 0] 37)) (SPost (w.alloc (.cells #[.int .i64 0, .int .i64 0, .int .i64 0, .int .i64 0, .int .i64 0, .int .u32 0, .int .u32 0, .int .u32 0, .slice none 0 0, .slice none 0 0] 37)) B g v b (rA b s 4) (.int .i64 E))) := ⟨hE ▸ rec_sign _ B g v b s 67324752 HH.out.cs hb⟩
  have c1 : decide (E = 0) = false := decide_eq_false he
  have c2 : (E == 0) = false := beq_eq_false_iff_ne.mpr he
  have c3 : (E != 0) = true := by simp [he]
  clear h hb hE he
  go_enter Try.func23, Try.ntmps23
  go_wp2_with (first
    | (go_at_call 52; (with_reducible refine HSG.out.mono ?_); rintro r w9 ⟨rfl, hc, hk⟩; have HH := Aside0.mk (HH.out.op hc hk); clear hc hk; have hp0 : w9.cell? ⟨w.heap.size, 0, none⟩ = some (.int .i64 0) := (blk_cell HH.out.r2 0).trans rfl; have hq0 := blk_frozen HH.out.r2 0; have hp1 : w9.cell? ⟨w.heap.size, 1, none⟩ = some (.int .i64 0) := (blk_cell HH.out.r2 1).trans rfl; have hq1 := blk_frozen HH.out.r2 1; have hp2 : w9.cell? ⟨w.heap.size, 2, none⟩ = some (.int .i64 0) := (blk_cell HH.out.r2 2).trans rfl; have hq2 := blk_frozen HH.out.r2 2; have hp3 : w9.cell? ⟨w.heap.size, 3, none⟩ = some (.int .i64 0) := (blk_cell HH.out.r2 3).trans rfl; have hq3 := blk_frozen HH.out.r2 3; have hp4 : w9.cell? ⟨w.heap.size, 4, none⟩ = some (.int .i64 0) := (blk_cell HH.out.r2 4).trans rfl; have hq4 := blk_frozen HH.out.r2 4; have hp5 : w9.cell? ⟨w.heap.size, 5, none⟩ = some (.int .u32 0) := (blk_cell HH.out.r2 5).trans rfl; have hq5 := blk_frozen HH.out.r2 5; have hp6 : w9.cell? ⟨w.heap.size, 6, none⟩ = some (.int .u32 0) := (blk_cell HH.out.r2 6).trans rfl; have hq6 := blk_frozen HH.out.r2 6; have hp7 : w9.cell? ⟨w.heap.size, 7, none⟩ = some (.int .u32 0) := (blk_cell HH.out.r2 7).trans rfl; have hq7 := blk_frozen HH.out.r2 7; have hp8 : w9.cell? ⟨w.heap.size, 8, none⟩ = some (.slice none 0 0) := (blk_cell HH.out.r2 8).trans rfl; have hq8 := blk_frozen HH.out.r2 8; have hp9 : w9.cell? ⟨w.heap.size, 9, none⟩ = some (.slice none 0 0) := (blk_cell HH.out.r2 9).trans rfl; have hq9 := blk_frozen HH.out.r2 9)
    | fail)
  have HH := Aside0.mk (H1.fill10 HH.out (by decide) (by decide) (.int .i64 0) (.int .i64 0) (.int .i64 0) (.int .i64 0) (.int .i64 0) (.int .u32 0) (.int .u32 0) (.int .u32 0) (.slice none 0 0) (.slice none 0 0))
  refine bodyPost_ret (results_ct rfl _ _ w.heap.size 37 _ (0, 0) _ rfl HH.out.r2 Try.underlying37 rfl (by kernel_rfl)) rfl ?_
  exact ⟨rfl, HH.out.cs, HH.out.kk⟩
set_option maxHeartbeats 4000000 in
set_option maxRecDepth 100000 in
theorem rec_readLocal_err (w : World) (B g : Nat) (v : Value) (b : List Int) (s : Sta) (h : CS w B g v b s) (hb : ∀ x ∈ b, 0 ≤ x ∧ x ≤ 255) (hE : sgE b s 67324752 = 0) (s1 sH s2 s3 : Sta) (hs1 : rA b s 4 = s1) (a0 a1 a2 a3 a4 a5 a6 a7 n m : Int) (hD : (∀ W, CS W B g v b s1 → Calls Try.prog 53 #[.pointer (some ⟨g, 0, none⟩)] W (SPost W B g v b sH (.tuple #[.agg #[.int .i64 a0, .int .i64 a1, .int .i64 a2, .int .i64 a3, .int .i64 a4, .int .u32 a5, .int .u32 a6, .int .u32 a7, .slice none 0 0, .slice none 0 0], .agg #[.int .i64 n, .int .i64 m, .int .i64 0]])))) (D1 D2 : List Int) (h1 : rL b sH n = D1) (h2 : rA b sH n = s2) (h3 : rL b s2 m = D2) (h4 : rA b s2 m = s3) (e2 : Int) (h5 : s3.2 = e2) (he : e2 ≠ 0) :
    Calls Try.prog 23 #[.pointer (some ⟨g, 0, none⟩)] w (RPost1 w B g v b s3 #[.int .i64 0, .int .i64 0, .int .i64 0, .int .i64 0, .int .i64 0, .int .u32 0, .int .u32 0, .int .u32 0, .slice none 0 0, .slice none 0 0] e2) := by
  have HBY := Aside0.mk hb
  have HH : Aside0 (H1 w (w.alloc (.cells #[.int .i64 0, .int .i64 0, .int .i64 0, .int .i64 0, .int .i64 0, .int .u32 0, .int .u32 0, .int .u32 0, .slice none 0 0, .slice none 0 0] 37)) B g v b s 37 #[.int .i64 0, .int .i64 0, .int .i64 0, .int .i64 0, .int .i64 0, .int .u32 0, .int .u32 0, .int .u32 0, .slice none 0 0, .slice none 0 0]) := ⟨H1.start h _ _⟩
  have HSG : Aside0 (Calls Try.prog 52 #[.pointer (some ⟨g, 0, none⟩), .int .u32 67324752] (w.alloc (.cells #[.int .i64 0, .int .i64 0, .int .i64 0, .int .i64 0, .int .i64 0, .int .u32 0, .int .u32 0, .int .u32 0, .slice none 0 0, .slice none 0 0] 37)) (SPost (w.alloc (.cells #[.int .i64 0, .int .i64 0, .int .i64 0, .int .i64 0, .int .i64 0, .int .u32 0, .int .u32 0, .int .u32 0, .slice none 0 0, .slice none 0 0] 37)) B g v b s1 (.int .i64 0))) := ⟨by have h9 := rec_sign _ B g v b s 67324752 HH.out.cs hb; rw [hs1] at h9; rwa [hE] at h9⟩
  have HSZ : Aside0 (w.heap.size < (w.alloc (.cells #[.int .i64 0, .int .i64 0, .int .i64 0, .int .i64 0, .int .i64 0, .int .u32 0, .int .u32 0, .int .u32 0, .slice none 0 0, .slice none 0 0] 37)).heap.size) := ⟨by simp⟩
  have HHD := Aside0.mk hD
  have HB1 : Aside0 (∀ W, CS W B g v b sH → Calls Try.prog 31 #[.pointer (some ⟨g, 0, none⟩), .int .i64 n] W fun r w' => ∃ A c, r = .returned (.slice A (D1).length c) ∧ w'.ownsRow W.heap.size 5 1 (.slice A (D1).length c) (D1).length (nums .u8 (D1)) ∧ CS w' B g v b s2 ∧ CKept W w' B g) := ⟨fun W hW => h1 ▸ h2 ▸ cs_bytes hW n⟩
  have HB2 : Aside0 (∀ W, CS W B g v b s2 → Calls Try.prog 31 #[.pointer (some ⟨g, 0, none⟩), .int .i64 m] W fun r w' => ∃ A c, r = .returned (.slice A (D2).length c) ∧ w'.ownsRow W.heap.size 5 1 (.slice A (D2).length c) (D2).length (nums .u8 (D2)) ∧ CS w' B g v b s3 ∧ CKept W w' B g) := ⟨fun W hW => h3 ▸ h4 ▸ cs_bytes hW m⟩
  have k1 : decide (e2 = 0) = false := decide_eq_false he
  have k2 : (e2 == 0) = false := beq_eq_false_iff_ne.mpr he
  have k3 : (e2 != 0) = true := by simp [he]
  have HE2 := Aside0.mk h5
  clear h hb hE he h5 h1 h2 h3 h4 hD hs1
  go_enter Try.func23, Try.ntmps23
  go_upto_region 4 with (go_at_call 52; (with_reducible refine HSG.out.mono ?_); rintro r w9 ⟨rfl, hc, hk⟩; have HH := Aside0.mk (HH.out.op hc hk); clear hc hk)
  go_upto_region 5 with (go_at_call 53; (with_reducible refine (HHD.out _ HH.out.cs).mono ?_); rintro r w9 ⟨rfl, hc, hk⟩; have HH := Aside0.mk (HH.out.op hc hk); clear hc hk)
  have hlt := blk_lt HH.out.r2
  obtain ⟨bx, hbx⟩ : ∃ bx, w9.heap.size = bx := ⟨_, rfl⟩
  obtain ⟨bz, hbz⟩ : ∃ bz, w9.heap.size + 1 = bz := ⟨_, rfl⟩
  refine wp_gen (fun W => H1 w W B g v b sH 37 #[.int .i64 0, .int .i64 0, .int .i64 0, .int .i64 0, .int .i64 0, .int .u32 0, .int .u32 0, .int .u32 0, .slice none 0 0, .slice none 0 0] ∧ W.heap[bx]? = some (.cells #[.int .i64 a0, .int .i64 a1, .int .i64 a2, .int .i64 a3, .int .i64 a4, .int .u32 a5, .int .u32 a6, .int .u32 a7, .slice none 0 0, .slice none 0 0] 37 (0, 0)) ∧ W.heap[bz]? = some (.cells #[.int .i64 n, .int .i64 m, .int .i64 0] 99 (0, 0))) ⟨(HH.out.alloc _).alloc _, hbx ▸ blk_alloc (heap_alloc_new w9 _) _, ?_⟩ ?_
  · have h9 := heap_alloc_new (w9.alloc (.cells #[.int .i64 a0, .int .i64 a1, .int .i64 a2, .int .i64 a3, .int .i64 a4, .int .u32 a5, .int .u32 a6, .int .u32 a7, .slice none 0 0, .slice none 0 0] 37)) (.cells #[.int .i64 n, .int .i64 m, .int .i64 0] 99)
    rw [← hbz]
    simpa using h9
  rintro W5 ⟨hh, hx, hy⟩
  have HLT : Aside0 (w.heap.size < bx ∧ bz = bx + 1) := ⟨by omega⟩
  have HH := Aside0.mk hh
  have HBX := Aside0.mk hx
  have HBS := Aside0.mk hy
  clear hh hx hy hlt
  rw [hbz, hbx]
  clear hbx hbz
  have HH := Aside0.mk HH.out.drew
  have HBX := Aside0.mk (show W5.drew.heap[bx]? = _ from HBX.out)
  have HBS := Aside0.mk (show W5.drew.heap[bz]? = _ from HBS.out)
  have hx8 : W5.drew.cell? ⟨bx, 8, none⟩ = some (.slice none 0 0) := (blk_cell HBX.out 8).trans rfl; have hf8 := blk_frozen HBX.out 8; have hx9 : W5.drew.cell? ⟨bx, 9, none⟩ = some (.slice none 0 0) := (blk_cell HBX.out 9).trans rfl; have hf9 := blk_frozen HBX.out 9; have hz0 : W5.drew.cell? ⟨bz, 0, none⟩ = some (.int .i64 n) := (blk_cell HBS.out 0).trans rfl; have hz1 : W5.drew.cell? ⟨bz, 1, none⟩ = some (.int .i64 m) := (blk_cell HBS.out 1).trans rfl
  go_wp2_with fail
  go_region_law (first
    | (go_simp; go_at_call 31; (with_reducible refine (HB1.out _ HH.out.cs).mono ?_); rintro r w9 ⟨A1, c1, rfl, ho, hc, hk⟩; have HO1 := Aside0.mk (own_weaken ho HH.out.kk.kept.1); have HBX := Aside0.mk (box_cur HBX.out HH.out.cs hk (by decide)); have HBS := Aside0.mk (box_cur HBS.out HH.out.cs hk (by decide)); have HH := Aside0.mk (HH.out.op hc hk); clear ho hc hk; have hx8 : w9.cell? ⟨bx, 8, none⟩ = some (.slice none 0 0) := (blk_cell HBX.out 8).trans rfl; have hf8 := blk_frozen HBX.out 8; have hx9 : w9.cell? ⟨bx, 9, none⟩ = some (.slice none 0 0) := (blk_cell HBX.out 9).trans rfl; have hf9 := blk_frozen HBX.out 9; have hz0 : w9.cell? ⟨bz, 0, none⟩ = some (.int .i64 n) := (blk_cell HBS.out 0).trans rfl; have hz1 : w9.cell? ⟨bz, 1, none⟩ = some (.int .i64 m) := (blk_cell HBS.out 1).trans rfl)
    | (go_simp; go_at_call 31; (with_reducible refine (HB2.out _ HH.out.cs).mono ?_); rintro r w9 ⟨A2, c2, rfl, ho, hc, hk⟩; have HO1 := Aside0.mk (own_cur HO1.out HH.out.cs hk); have HO2 := Aside0.mk (own_weaken ho HH.out.kk.kept.1); have HBX := Aside0.mk (box_cur HBX.out HH.out.cs hk (by decide)); have HBS := Aside0.mk (box_cur HBS.out HH.out.cs hk (by decide)); have HH := Aside0.mk (HH.out.op hc hk); clear ho hc hk; have hx8 : w9.cell? ⟨bx, 8, none⟩ = some (.slice none 0 0) := (blk_cell HBX.out 8).trans rfl; have hf8 := blk_frozen HBX.out 8; have hx9 : w9.cell? ⟨bx, 9, none⟩ = some (.slice none 0 0) := (blk_cell HBX.out 9).trans rfl; have hf9 := blk_frozen HBX.out 9; have hz0 : w9.cell? ⟨bz, 0, none⟩ = some (.int .i64 n) := (blk_cell HBS.out 0).trans rfl; have hz1 : w9.cell? ⟨bz, 1, none⟩ = some (.int .i64 m) := (blk_cell HBS.out 1).trans rfl)
    | fail)
  all_goals
    refine ex_gen (X := Exit.then _ _ Exit.normal _) (fun W => H1 w W B g v b s3 37 #[.int .i64 0, .int .i64 0, .int .i64 0, .int .i64 0, .int .i64 0, .int .u32 0, .int .u32 0, .int .u32 0, .slice none 0 0, .slice none 0 0] ∧ W.heap[bx]? = some (.cells #[.int .i64 a0, .int .i64 a1, .int .i64 a2, .int .i64 a3, .int .i64 a4, .int .u32 a5, .int .u32 a6, .int .u32 a7, .slice A1 D1.length c1, .slice A2 D2.length c2] 37 (0, 0)) ∧ W.ownsRow w.heap.size 5 1 (.slice A1 D1.length c1) D1.length (nums .u8 D1) ∧ W.ownsRow w.heap.size 5 1 (.slice A2 D2.length c2) D2.length (nums .u8 D2)) ⟨?_, ?_, ?_, ?_⟩ ?_
    · exact (HH.out.set HBX.out (by decide) (by decide) HLT.out.1 8 _).set (blk_set HBX.out 8 _) (by decide) (by decide) HLT.out.1 9 _
    · exact blk_set (blk_set HBX.out 8 _) 9 _
    · exact own_setCell (p := ⟨bx, 9, none⟩) (own_setCell (p := ⟨bx, 8, none⟩) HO1.out (own_ne HO1.out HBX.out (by decide)) _) (by have h9 := own_ne HO1.out HBX.out (by decide); simpa using h9) _
    · exact own_setCell (p := ⟨bx, 9, none⟩) (own_setCell (p := ⟨bx, 8, none⟩) HO2.out (own_ne HO2.out HBX.out (by decide)) _) (by have h9 := own_ne HO2.out HBX.out (by decide); simpa using h9) _
    rintro W7 ⟨hh, hx, ho1, ho2⟩
    have HH := Aside0.mk hh
    have HBX := Aside0.mk hx
    have HO1 := Aside0.mk ho1
    have HO2 := Aside0.mk ho2
    clear hh hx ho1 ho2
    try clear hx8 hf8 hx9 hf9 hz0 hz1
    have hp0 : W7.cell? ⟨w.heap.size, 0, none⟩ = some (.int .i64 0) := (blk_cell HH.out.r2 0).trans rfl; have hq0 := blk_frozen HH.out.r2 0; have hp1 : W7.cell? ⟨w.heap.size, 1, none⟩ = some (.int .i64 0) := (blk_cell HH.out.r2 1).trans rfl; have hq1 := blk_frozen HH.out.r2 1; have hp2 : W7.cell? ⟨w.heap.size, 2, none⟩ = some (.int .i64 0) := (blk_cell HH.out.r2 2).trans rfl; have hq2 := blk_frozen HH.out.r2 2; have hp3 : W7.cell? ⟨w.heap.size, 3, none⟩ = some (.int .i64 0) := (blk_cell HH.out.r2 3).trans rfl; have hq3 := blk_frozen HH.out.r2 3; have hp4 : W7.cell? ⟨w.heap.size, 4, none⟩ = some (.int .i64 0) := (blk_cell HH.out.r2 4).trans rfl; have hq4 := blk_frozen HH.out.r2 4; have hp5 : W7.cell? ⟨w.heap.size, 5, none⟩ = some (.int .u32 0) := (blk_cell HH.out.r2 5).trans rfl; have hq5 := blk_frozen HH.out.r2 5; have hp6 : W7.cell? ⟨w.heap.size, 6, none⟩ = some (.int .u32 0) := (blk_cell HH.out.r2 6).trans rfl; have hq6 := blk_frozen HH.out.r2 6; have hp7 : W7.cell? ⟨w.heap.size, 7, none⟩ = some (.int .u32 0) := (blk_cell HH.out.r2 7).trans rfl; have hq7 := blk_frozen HH.out.r2 7; have hp8 : W7.cell? ⟨w.heap.size, 8, none⟩ = some (.slice none 0 0) := (blk_cell HH.out.r2 8).trans rfl; have hq8 := blk_frozen HH.out.r2 8; have hp9 : W7.cell? ⟨w.heap.size, 9, none⟩ = some (.slice none 0 0) := (blk_cell HH.out.r2 9).trans rfl; have hq9 := blk_frozen HH.out.r2 9
    go_wp2_with (go_at_call 37; refine (cs_err HH.out.cs).mono ?_; rintro r w' ⟨rfl, hs_⟩; subst hs_; rw [HE2.out])
    have HH := Aside0.mk (H1.fill10 HH.out (by decide) (by decide) (.int .i64 0) (.int .i64 0) (.int .i64 0) (.int .i64 0) (.int .i64 0) (.int .u32 0) (.int .u32 0) (.int .u32 0) (.slice none 0 0) (.slice none 0 0))
    refine bodyPost_ret (results_ct rfl _ _ w.heap.size 37 _ (0, 0) _ rfl HH.out.r2 Try.underlying37 rfl (by kernel_rfl)) rfl ?_
    exact ⟨rfl, HH.out.cs, HH.out.kk⟩
set_option maxHeartbeats 4000000 in
set_option maxRecDepth 100000 in
theorem rec_readLocal_ok (w : World) (B g : Nat) (v : Value) (b : List Int) (s : Sta) (h : CS w B g v b s) (hb : ∀ x ∈ b, 0 ≤ x ∧ x ≤ 255) (hE : sgE b s 67324752 = 0) (s1 sH s2 s3 : Sta) (hs1 : rA b s 4 = s1) (a0 a1 a2 a3 a4 a5 a6 a7 n m : Int) (hD : (∀ W, CS W B g v b s1 → Calls Try.prog 53 #[.pointer (some ⟨g, 0, none⟩)] W (SPost W B g v b sH (.tuple #[.agg #[.int .i64 a0, .int .i64 a1, .int .i64 a2, .int .i64 a3, .int .i64 a4, .int .u32 a5, .int .u32 a6, .int .u32 a7, .slice none 0 0, .slice none 0 0], .agg #[.int .i64 n, .int .i64 m, .int .i64 0]])))) (D1 D2 : List Int) (h1 : rL b sH n = D1) (h2 : rA b sH n = s2) (h3 : rL b s2 m = D2) (h4 : rA b s2 m = s3) (h5 : s3.2 = 0) :
    Calls Try.prog 23 #[.pointer (some ⟨g, 0, none⟩)] w (fun r w' => ∃ A1 c1 A2 c2, RPost1 w B g v b s3 #[.int .i64 a0, .int .i64 a1, .int .i64 a2, .int .i64 a3, .int .i64 a4, .int .u32 a5, .int .u32 a6, .int .u32 a7, .slice A1 D1.length c1, .slice A2 D2.length c2] 0 r w' ∧ Kd.C (Kd.int .u8) w' A1 D1.length D1 ∧ D1.length ≤ c1 ∧ Kd.C (Kd.int .u8) w' A2 D2.length D2 ∧ D2.length ≤ c2) := by
  have HBY := Aside0.mk hb
  have HH : Aside0 (H1 w (w.alloc (.cells #[.int .i64 0, .int .i64 0, .int .i64 0, .int .i64 0, .int .i64 0, .int .u32 0, .int .u32 0, .int .u32 0, .slice none 0 0, .slice none 0 0] 37)) B g v b s 37 #[.int .i64 0, .int .i64 0, .int .i64 0, .int .i64 0, .int .i64 0, .int .u32 0, .int .u32 0, .int .u32 0, .slice none 0 0, .slice none 0 0]) := ⟨H1.start h _ _⟩
  have HSG : Aside0 (Calls Try.prog 52 #[.pointer (some ⟨g, 0, none⟩), .int .u32 67324752] (w.alloc (.cells #[.int .i64 0, .int .i64 0, .int .i64 0, .int .i64 0, .int .i64 0, .int .u32 0, .int .u32 0, .int .u32 0, .slice none 0 0, .slice none 0 0] 37)) (SPost (w.alloc (.cells #[.int .i64 0, .int .i64 0, .int .i64 0, .int .i64 0, .int .i64 0, .int .u32 0, .int .u32 0, .int .u32 0, .slice none 0 0, .slice none 0 0] 37)) B g v b s1 (.int .i64 0))) := ⟨by have h9 := rec_sign _ B g v b s 67324752 HH.out.cs hb; rw [hs1] at h9; rwa [hE] at h9⟩
  have HSZ : Aside0 (w.heap.size < (w.alloc (.cells #[.int .i64 0, .int .i64 0, .int .i64 0, .int .i64 0, .int .i64 0, .int .u32 0, .int .u32 0, .int .u32 0, .slice none 0 0, .slice none 0 0] 37)).heap.size) := ⟨by simp⟩
  have HHD := Aside0.mk hD
  have HB1 : Aside0 (∀ W, CS W B g v b sH → Calls Try.prog 31 #[.pointer (some ⟨g, 0, none⟩), .int .i64 n] W fun r w' => ∃ A c, r = .returned (.slice A (D1).length c) ∧ w'.ownsRow W.heap.size 5 1 (.slice A (D1).length c) (D1).length (nums .u8 (D1)) ∧ CS w' B g v b s2 ∧ CKept W w' B g) := ⟨fun W hW => h1 ▸ h2 ▸ cs_bytes hW n⟩
  have HB2 : Aside0 (∀ W, CS W B g v b s2 → Calls Try.prog 31 #[.pointer (some ⟨g, 0, none⟩), .int .i64 m] W fun r w' => ∃ A c, r = .returned (.slice A (D2).length c) ∧ w'.ownsRow W.heap.size 5 1 (.slice A (D2).length c) (D2).length (nums .u8 (D2)) ∧ CS w' B g v b s3 ∧ CKept W w' B g) := ⟨fun W hW => h3 ▸ h4 ▸ cs_bytes hW m⟩
  have HE2 := Aside0.mk h5
  clear h hb hE h5 h1 h2 h3 h4 hD hs1
  go_enter Try.func23, Try.ntmps23
  go_upto_region 4 with (go_at_call 52; (with_reducible refine HSG.out.mono ?_); rintro r w9 ⟨rfl, hc, hk⟩; have HH := Aside0.mk (HH.out.op hc hk); clear hc hk)
  go_upto_region 5 with (go_at_call 53; (with_reducible refine (HHD.out _ HH.out.cs).mono ?_); rintro r w9 ⟨rfl, hc, hk⟩; have HH := Aside0.mk (HH.out.op hc hk); clear hc hk)
  have hlt := blk_lt HH.out.r2
  obtain ⟨bx, hbx⟩ : ∃ bx, w9.heap.size = bx := ⟨_, rfl⟩
  obtain ⟨bz, hbz⟩ : ∃ bz, w9.heap.size + 1 = bz := ⟨_, rfl⟩
  refine wp_gen (fun W => H1 w W B g v b sH 37 #[.int .i64 0, .int .i64 0, .int .i64 0, .int .i64 0, .int .i64 0, .int .u32 0, .int .u32 0, .int .u32 0, .slice none 0 0, .slice none 0 0] ∧ W.heap[bx]? = some (.cells #[.int .i64 a0, .int .i64 a1, .int .i64 a2, .int .i64 a3, .int .i64 a4, .int .u32 a5, .int .u32 a6, .int .u32 a7, .slice none 0 0, .slice none 0 0] 37 (0, 0)) ∧ W.heap[bz]? = some (.cells #[.int .i64 n, .int .i64 m, .int .i64 0] 99 (0, 0))) ⟨(HH.out.alloc _).alloc _, hbx ▸ blk_alloc (heap_alloc_new w9 _) _, ?_⟩ ?_
  · have h9 := heap_alloc_new (w9.alloc (.cells #[.int .i64 a0, .int .i64 a1, .int .i64 a2, .int .i64 a3, .int .i64 a4, .int .u32 a5, .int .u32 a6, .int .u32 a7, .slice none 0 0, .slice none 0 0] 37)) (.cells #[.int .i64 n, .int .i64 m, .int .i64 0] 99)
    rw [← hbz]
    simpa using h9
  rintro W5 ⟨hh, hx, hy⟩
  have HLT : Aside0 (w.heap.size < bx ∧ bz = bx + 1) := ⟨by omega⟩
  have HH := Aside0.mk hh
  have HBX := Aside0.mk hx
  have HBS := Aside0.mk hy
  clear hh hx hy hlt
  rw [hbz, hbx]
  clear hbx hbz
  have HH := Aside0.mk HH.out.drew
  have HBX := Aside0.mk (show W5.drew.heap[bx]? = _ from HBX.out)
  have HBS := Aside0.mk (show W5.drew.heap[bz]? = _ from HBS.out)
  have hx8 : W5.drew.cell? ⟨bx, 8, none⟩ = some (.slice none 0 0) := (blk_cell HBX.out 8).trans rfl; have hf8 := blk_frozen HBX.out 8; have hx9 : W5.drew.cell? ⟨bx, 9, none⟩ = some (.slice none 0 0) := (blk_cell HBX.out 9).trans rfl; have hf9 := blk_frozen HBX.out 9; have hz0 : W5.drew.cell? ⟨bz, 0, none⟩ = some (.int .i64 n) := (blk_cell HBS.out 0).trans rfl; have hz1 : W5.drew.cell? ⟨bz, 1, none⟩ = some (.int .i64 m) := (blk_cell HBS.out 1).trans rfl
  go_wp2_with fail
  go_region_law (first
    | (go_simp; go_at_call 31; (with_reducible refine (HB1.out _ HH.out.cs).mono ?_); rintro r w9 ⟨A1, c1, rfl, ho, hc, hk⟩; have HO1 := Aside0.mk (own_weaken ho HH.out.kk.kept.1); have HBX := Aside0.mk (box_cur HBX.out HH.out.cs hk (by decide)); have HBS := Aside0.mk (box_cur HBS.out HH.out.cs hk (by decide)); have HH := Aside0.mk (HH.out.op hc hk); clear ho hc hk; have hx8 : w9.cell? ⟨bx, 8, none⟩ = some (.slice none 0 0) := (blk_cell HBX.out 8).trans rfl; have hf8 := blk_frozen HBX.out 8; have hx9 : w9.cell? ⟨bx, 9, none⟩ = some (.slice none 0 0) := (blk_cell HBX.out 9).trans rfl; have hf9 := blk_frozen HBX.out 9; have hz0 : w9.cell? ⟨bz, 0, none⟩ = some (.int .i64 n) := (blk_cell HBS.out 0).trans rfl; have hz1 : w9.cell? ⟨bz, 1, none⟩ = some (.int .i64 m) := (blk_cell HBS.out 1).trans rfl)
    | (go_simp; go_at_call 31; (with_reducible refine (HB2.out _ HH.out.cs).mono ?_); rintro r w9 ⟨A2, c2, rfl, ho, hc, hk⟩; have HO1 := Aside0.mk (own_cur HO1.out HH.out.cs hk); have HO2 := Aside0.mk (own_weaken ho HH.out.kk.kept.1); have HBX := Aside0.mk (box_cur HBX.out HH.out.cs hk (by decide)); have HBS := Aside0.mk (box_cur HBS.out HH.out.cs hk (by decide)); have HH := Aside0.mk (HH.out.op hc hk); clear ho hc hk; have hx8 : w9.cell? ⟨bx, 8, none⟩ = some (.slice none 0 0) := (blk_cell HBX.out 8).trans rfl; have hf8 := blk_frozen HBX.out 8; have hx9 : w9.cell? ⟨bx, 9, none⟩ = some (.slice none 0 0) := (blk_cell HBX.out 9).trans rfl; have hf9 := blk_frozen HBX.out 9; have hz0 : w9.cell? ⟨bz, 0, none⟩ = some (.int .i64 n) := (blk_cell HBS.out 0).trans rfl; have hz1 : w9.cell? ⟨bz, 1, none⟩ = some (.int .i64 m) := (blk_cell HBS.out 1).trans rfl)
    | fail)
  all_goals
    refine ex_gen (X := Exit.then _ _ Exit.normal _) (fun W => H1 w W B g v b s3 37 #[.int .i64 0, .int .i64 0, .int .i64 0, .int .i64 0, .int .i64 0, .int .u32 0, .int .u32 0, .int .u32 0, .slice none 0 0, .slice none 0 0] ∧ W.heap[bx]? = some (.cells #[.int .i64 a0, .int .i64 a1, .int .i64 a2, .int .i64 a3, .int .i64 a4, .int .u32 a5, .int .u32 a6, .int .u32 a7, .slice A1 D1.length c1, .slice A2 D2.length c2] 37 (0, 0)) ∧ W.ownsRow w.heap.size 5 1 (.slice A1 D1.length c1) D1.length (nums .u8 D1) ∧ W.ownsRow w.heap.size 5 1 (.slice A2 D2.length c2) D2.length (nums .u8 D2)) ⟨?_, ?_, ?_, ?_⟩ ?_
    · exact (HH.out.set HBX.out (by decide) (by decide) HLT.out.1 8 _).set (blk_set HBX.out 8 _) (by decide) (by decide) HLT.out.1 9 _
    · exact blk_set (blk_set HBX.out 8 _) 9 _
    · exact own_setCell (p := ⟨bx, 9, none⟩) (own_setCell (p := ⟨bx, 8, none⟩) HO1.out (own_ne HO1.out HBX.out (by decide)) _) (by have h9 := own_ne HO1.out HBX.out (by decide); simpa using h9) _
    · exact own_setCell (p := ⟨bx, 9, none⟩) (own_setCell (p := ⟨bx, 8, none⟩) HO2.out (own_ne HO2.out HBX.out (by decide)) _) (by have h9 := own_ne HO2.out HBX.out (by decide); simpa using h9) _
    rintro W7 ⟨hh, hx, ho1, ho2⟩
    have HH := Aside0.mk hh
    have HBX := Aside0.mk hx
    have HO1 := Aside0.mk ho1
    have HO2 := Aside0.mk ho2
    clear hh hx ho1 ho2
    try clear hx8 hf8 hx9 hf9 hz0 hz1
    have hp0 : W7.cell? ⟨w.heap.size, 0, none⟩ = some (.int .i64 0) := (blk_cell HH.out.r2 0).trans rfl; have hq0 := blk_frozen HH.out.r2 0; have hp1 : W7.cell? ⟨w.heap.size, 1, none⟩ = some (.int .i64 0) := (blk_cell HH.out.r2 1).trans rfl; have hq1 := blk_frozen HH.out.r2 1; have hp2 : W7.cell? ⟨w.heap.size, 2, none⟩ = some (.int .i64 0) := (blk_cell HH.out.r2 2).trans rfl; have hq2 := blk_frozen HH.out.r2 2; have hp3 : W7.cell? ⟨w.heap.size, 3, none⟩ = some (.int .i64 0) := (blk_cell HH.out.r2 3).trans rfl; have hq3 := blk_frozen HH.out.r2 3; have hp4 : W7.cell? ⟨w.heap.size, 4, none⟩ = some (.int .i64 0) := (blk_cell HH.out.r2 4).trans rfl; have hq4 := blk_frozen HH.out.r2 4; have hp5 : W7.cell? ⟨w.heap.size, 5, none⟩ = some (.int .u32 0) := (blk_cell HH.out.r2 5).trans rfl; have hq5 := blk_frozen HH.out.r2 5; have hp6 : W7.cell? ⟨w.heap.size, 6, none⟩ = some (.int .u32 0) := (blk_cell HH.out.r2 6).trans rfl; have hq6 := blk_frozen HH.out.r2 6; have hp7 : W7.cell? ⟨w.heap.size, 7, none⟩ = some (.int .u32 0) := (blk_cell HH.out.r2 7).trans rfl; have hq7 := blk_frozen HH.out.r2 7; have hp8 : W7.cell? ⟨w.heap.size, 8, none⟩ = some (.slice none 0 0) := (blk_cell HH.out.r2 8).trans rfl; have hq8 := blk_frozen HH.out.r2 8; have hp9 : W7.cell? ⟨w.heap.size, 9, none⟩ = some (.slice none 0 0) := (blk_cell HH.out.r2 9).trans rfl; have hq9 := blk_frozen HH.out.r2 9
    have hy0 : W7.cell? ⟨bx, 0, none⟩ = some (.int .i64 a0) := (blk_cell HBX.out 0).trans rfl
    have hy1 : W7.cell? ⟨bx, 1, none⟩ = some (.int .i64 a1) := (blk_cell HBX.out 1).trans rfl
    have hy2 : W7.cell? ⟨bx, 2, none⟩ = some (.int .i64 a2) := (blk_cell HBX.out 2).trans rfl
    have hy3 : W7.cell? ⟨bx, 3, none⟩ = some (.int .i64 a3) := (blk_cell HBX.out 3).trans rfl
    have hy4 : W7.cell? ⟨bx, 4, none⟩ = some (.int .i64 a4) := (blk_cell HBX.out 4).trans rfl
    have hy5 : W7.cell? ⟨bx, 5, none⟩ = some (.int .u32 a5) := (blk_cell HBX.out 5).trans rfl
    have hy6 : W7.cell? ⟨bx, 6, none⟩ = some (.int .u32 a6) := (blk_cell HBX.out 6).trans rfl
    have hy7 : W7.cell? ⟨bx, 7, none⟩ = some (.int .u32 a7) := (blk_cell HBX.out 7).trans rfl
    have hy8 : W7.cell? ⟨bx, 8, none⟩ = some (.slice A1 D1.length c1) := (blk_cell HBX.out 8).trans rfl
    have hy9 : W7.cell? ⟨bx, 9, none⟩ = some (.slice A2 D2.length c2) := (blk_cell HBX.out 9).trans rfl
    go_wp2_with (go_at_call 37; refine (cs_err HH.out.cs).mono ?_; rintro r w' ⟨rfl, hs_⟩; subst hs_; rw [HE2.out])
    have hown1 := fun (u0 u1 u2 u3 u4 u5 u6 u7 u8 u9 : Value) => own_move HO1.out (fun k hk => keep10 W7 w.heap.size k (fun e => own_ne HO1.out HH.out.r2 (by decide) (by rw [← e]; exact hk.symm)) u0 u1 u2 u3 u4 u5 u6 u7 u8 u9)
    have hown2 := fun (u0 u1 u2 u3 u4 u5 u6 u7 u8 u9 : Value) => own_move HO2.out (fun k hk => keep10 W7 w.heap.size k (fun e => own_ne HO2.out HH.out.r2 (by decide) (by rw [← e]; exact hk.symm)) u0 u1 u2 u3 u4 u5 u6 u7 u8 u9)
    have HH := Aside0.mk (H1.fill10 HH.out (by decide) (by decide) (.int .i64 a0) (.int .i64 a1) (.int .i64 a2) (.int .i64 a3) (.int .i64 a4) (.int .u32 a5) (.int .u32 a6) (.int .u32 a7) (.slice A1 D1.length c1) (.slice A2 D2.length c2))
    refine bodyPost_ret (results_ct rfl _ _ w.heap.size 37 _ (0, 0) _ rfl HH.out.r2 Try.underlying37 rfl (by kernel_rfl)) rfl ?_
    have HW1 := own_C (hown1 (.int .i64 a0) (.int .i64 a1) (.int .i64 a2) (.int .i64 a3) (.int .i64 a4) (.int .u32 a5) (.int .u32 a6) (.int .u32 a7) (.slice A1 D1.length c1) (.slice A2 D2.length c2))
    have HW2 := own_C (hown2 (.int .i64 a0) (.int .i64 a1) (.int .i64 a2) (.int .i64 a3) (.int .i64 a4) (.int .u32 a5) (.int .u32 a6) (.int .u32 a7) (.slice A1 D1.length c1) (.slice A2 D2.length c2))
    exact ⟨A1, c1, A2, c2, ⟨rfl, HH.out.cs, HH.out.kk⟩, HW1.2.1, HW1.2.2.1, HW2.2.1, HW2.2.2.1⟩
end Go.Proofs.Ytpmiofjhgmdghaa.Fld
