/- record: head, walked. -/
import Derived.Test.YtpmiofjhgmdghaaRecRead0
import Derived.Laws.Tables
namespace Go.Proofs.Ytpmiofjhgmdghaa.Fld
open Go.RowKit Go.Proofs.YtpmiofjhgmdghaaW.PrintWords Go.Proofs.YtpmiofjhgmdghaaW.PrintLast Go.Proofs.YtpmiofjhgmdghaaW.PrintMore
set_option linter.unusedVariables false
set_option linter.unusedSimpArgs false
theorem wp_gen {P : Program} {c : Code} {Q : Exit → Act → World → Prop} {a : Act} {W : World} (F : World → Prop) (hF : F W) (h : ∀ W', F W' → c.wp P Q a W') : c.wp P Q a W := h W hF
abbrev zHead : Array Value := #[.int .i64 0, .int .i64 0, .int .i64 0, .int .i64 0, .int .i64 0, .int .u32 0, .int .u32 0, .int .u32 0, .slice none 0 0, .slice none 0 0]
abbrev zSizes : Array Value := #[.int .i64 0, .int .i64 0, .int .i64 0]
theorem below_allocB {B : Nat} {w W : World} (h : Below B w W) (hB : B ≤ W.heap.size) (o : Obj) : Below B w (W.alloc o) := h.trans ((below_alloc (Below.refl _ _) o).mono hB)
/-- two result cells and the cursor -/
structure HW (w W : World) (B g : Nat) (v : Value) (b : List Int) (s : Sta) : Prop where
  cs : CS W B g v b s
  r2 : W.heap[w.heap.size]? = some (.cells zHead 37 (0, 0))
  r3 : W.heap[w.heap.size + 1]? = some (.cells zSizes 99 (0, 0))
  kk : CKept w W B g
  gl : g < w.heap.size
section
variable {w W W' : World} {B g : Nat} {v : Value} {b : List Int} {s s' : Sta}
theorem HW.op (h : HW w W B g v b s) (hc : CS W' B g v b s') (hk : CKept W W' B g) : HW w W' B g v b s' :=
  ⟨hc, box_cur h.r2 h.cs hk (by decide), box_cur h.r3 h.cs hk (by decide), h.kk.trans hk, h.gl⟩
theorem HW.drew (h : HW w W B g v b s) : HW w W.drew B g v b s := ⟨h.cs.drew, h.r2, h.r3, ⟨below_drew h.kk.below, h.kk.kept.drew⟩, h.gl⟩
theorem HW.base (h : HW w W B g v b s) : B ≤ w.heap.size := Nat.le_of_lt (Nat.lt_of_le_of_lt h.cs.ge h.gl)
theorem HW.alloc (h : HW w W B g v b s) (o : Obj) : HW w (W.alloc o) B g v b s :=
  ⟨h.cs.below (below_alloc (Below.refl _ _) _), blk_alloc h.r2 _, blk_alloc h.r3 _, ⟨below_allocB h.kk.below (Nat.le_trans h.base h.kk.kept.1) _, h.kk.kept.alloc _⟩, h.gl⟩
theorem HW.set {bx t : Nat} {cs : Array Value} (h : HW w W B g v b s) (hb : W.heap[bx]? = some (.cells cs t (0, 0))) (ht : t ≠ 56) (ht2 : 5 ≠ t) (h2 : w.heap.size + 1 < bx) (j : Nat) (u : Value) : HW w (W.setCell ⟨bx, j, none⟩ u) B g v b s :=
  ⟨h.cs.far hb ht ht2 j u, blk_far h.r2 (by show w.heap.size ≠ bx; omega) u, blk_far h.r3 (by show w.heap.size + 1 ≠ bx; omega) u,
    ⟨h.kk.below.setCell (by have := h.base; show B ≤ bx; omega) u, h.kk.kept.setCell (p := ⟨bx, j, none⟩) (.inr (by show w.heap.size ≤ bx; omega)) u⟩, h.gl⟩
end
theorem ex_gen {X : World → Prop} {W : World} (F : World → Prop) (hF : F W) (h : ∀ W', F W' → X W') : X W := h W hF
/-- the result cells as they are filled -/
structure FW (w W : World) (B g : Nat) (v : Value) (b : List Int) (s : Sta) (C2 C3 : Array Value) : Prop where
  cs : CS W B g v b s
  r2 : W.heap[w.heap.size]? = some (.cells C2 37 (0, 0))
  r3 : W.heap[w.heap.size + 1]? = some (.cells C3 99 (0, 0))
  kk : CKept w W B g
  gl : g < w.heap.size
theorem FW.of {w W : World} {B g : Nat} {v : Value} {b : List Int} {s : Sta} (h : HW w W B g v b s) : FW w W B g v b s zHead zSizes := ⟨h.cs, h.r2, h.r3, h.kk, h.gl⟩
theorem FW.set2 {w W : World} {B g : Nat} {v : Value} {b : List Int} {s : Sta} {C2 C3 : Array Value} (h : FW w W B g v b s C2 C3) (j : Nat) (u : Value) : FW w (W.setCell ⟨w.heap.size, j, none⟩ u) B g v b s (C2.setIfInBounds j u) C3 :=
  ⟨h.cs.far h.r2 (by decide) (by decide) j u, blk_set h.r2 j u, blk_far h.r3 (by show w.heap.size + 1 ≠ w.heap.size; omega) u,
    ⟨h.kk.below.setCell (by have h1 := h.cs.ge; have h2 := h.gl; show B ≤ w.heap.size; omega) u, h.kk.kept.setCell (p := ⟨w.heap.size, j, none⟩) (.inr (Nat.le_refl _)) u⟩, h.gl⟩
theorem FW.set3 {w W : World} {B g : Nat} {v : Value} {b : List Int} {s : Sta} {C2 C3 : Array Value} (h : FW w W B g v b s C2 C3) (j : Nat) (u : Value) : FW w (W.setCell ⟨w.heap.size + 1, j, none⟩ u) B g v b s C2 (C3.setIfInBounds j u) :=
  ⟨h.cs.far h.r3 (by decide) (by decide) j u, blk_far h.r2 (by show w.heap.size ≠ w.heap.size + 1; omega) u, blk_set h.r3 j u,
    ⟨h.kk.below.setCell (by have h1 := h.cs.ge; have h2 := h.gl; show B ≤ w.heap.size + 1; omega) u, h.kk.kept.setCell (p := ⟨w.heap.size + 1, j, none⟩) (.inr (Nat.le_succ _)) u⟩, h.gl⟩
theorem FW.fill {w W : World} {B g : Nat} {v : Value} {b : List Int} {s : Sta} (h : FW w W B g v b s zHead zSizes) (u0 u1 u2 u3 u4 u5 u6 u7 u8 u9 t0 t1 t2 : Value) :
    FW w (((((((((((((W.setCell ⟨w.heap.size, 0, none⟩ u0).setCell ⟨w.heap.size, 1, none⟩ u1).setCell ⟨w.heap.size, 2, none⟩ u2).setCell ⟨w.heap.size, 3, none⟩ u3).setCell ⟨w.heap.size, 4, none⟩ u4).setCell ⟨w.heap.size, 5, none⟩ u5).setCell ⟨w.heap.size, 6, none⟩ u6).setCell ⟨w.heap.size, 7, none⟩ u7).setCell ⟨w.heap.size, 8, none⟩ u8).setCell ⟨w.heap.size, 9, none⟩ u9).setCell ⟨w.heap.size + 1, 0, none⟩ t0).setCell ⟨w.heap.size + 1, 1, none⟩ t1).setCell ⟨w.heap.size + 1, 2, none⟩ t2) B g v b s #[u0, u1, u2, u3, u4, u5, u6, u7, u8, u9] #[t0, t1, t2] := by
  have hc := (((((((((((((h.set2 0 u0).set2 1 u1).set2 2 u2).set2 3 u3).set2 4 u4).set2 5 u5).set2 6 u6).set2 7 u7).set2 8 u8).set2 9 u9).set3 0 t0).set3 1 t1).set3 2 t2)
  simp only [zHead, zSizes, List.setIfInBounds_toArray, List.set_cons_zero, List.set_cons_succ] at hc
  exact hc
theorem ld_whole {W : World} {bx t ty : TypeId} {cs : Array Value} {d : TypeDesc} (h : W.heap[bx]? = some (.cells cs t (0, 0))) (hu : Try.prog.underlying ty = some d) (hd : d.isRow = true) (hi : (Try.prog.info? ty).map (·.size) = some cs.size) :
    (Instr.loadAt ty (.pointer (some ⟨bx, 0, none⟩))).run Try.prog W = .ok (.agg cs) W := by
  have h2 := run_loadVar_row (P := Try.prog) W bx t ty cs (0, 0) d h hu (by cases d <;> simp_all [TypeDesc.isRow]) hi
  simp only [Instr.loadAt, Instr.sureAddr, Sem.run_bind, Sem.run_pure, Result.andThen_ok, h2]
theorem st_whole {W : World} {g t : Nat} {cs cs' : Array Value} (h : W.heap[g]? = some (.cells cs t (0, 0))) (ty : TypeId) (hi : (Try.prog.info? ty).map (·.size) = some cs'.size) (hs : cs.size = cs'.size) (h1 : cs'.all (·.oneCell') = true) :
    (Instr.storeAt ty (.pointer (some ⟨g, 0, none⟩)) (.agg cs')).run Try.prog W = .ok () (W.setRow g cs') := by
  have h2 := run_storeVar_row (P := Try.prog) W g t ty cs cs' h hi hs h1
  simp only [Instr.storeAt, Instr.sureAddr, Sem.run_bind, Sem.run_pure, Result.andThen_ok, h2]
set_option maxHeartbeats 4000000 in
set_option maxRecDepth 100000 in
theorem rec_head (w : World) (B g : Nat) (v : Value) (b : List Int) (s : Sta) (h : CS w B g v b s) (hb : ∀ x ∈ b, 0 ≤ x ∧ x ≤ 255) :
    Calls Try.prog 53 #[.pointer (some ⟨g, 0, none⟩)] w (SPost w B g v b (rA b (rA b (rA b (rA b (rA b (rA b (rA b (rA b (rA b (rA b s 2) 2) 2) 2) 2) 4) 4) 4) 2) 2) (.tuple #[.agg #[.int .i64 (rV b s 2), .int .i64 (rV b (rA b s 2) 2), .int .i64 (rV b (rA b (rA b s 2) 2) 2), .int .i64 (rV b (rA b (rA b (rA b s 2) 2) 2) 2), .int .i64 (rV b (rA b (rA b (rA b (rA b s 2) 2) 2) 2) 2), .int .u32 (rV b (rA b (rA b (rA b (rA b (rA b s 2) 2) 2) 2) 2) 4), .int .u32 (rV b (rA b (rA b (rA b (rA b (rA b (rA b s 2) 2) 2) 2) 2) 4) 4), .int .u32 (rV b (rA b (rA b (rA b (rA b (rA b (rA b (rA b s 2) 2) 2) 2) 2) 4) 4) 4), .slice none 0 0, .slice none 0 0], .agg #[.int .i64 (rV b (rA b (rA b (rA b (rA b (rA b (rA b (rA b (rA b s 2) 2) 2) 2) 2) 4) 4) 4) 2), .int .i64 (rV b (rA b (rA b (rA b (rA b (rA b (rA b (rA b (rA b (rA b s 2) 2) 2) 2) 2) 4) 4) 4) 2) 2), .int .i64 0]])) := by
  have HBY := Aside0.mk hb
  have HH : Aside0 (HW w ((w.alloc (.cells zHead 37)).alloc (.cells zSizes 99)) B g v b s) := by
    refine ⟨⟨?_, ?_, ?_, ?_, ?_⟩⟩
    · exact (h.below (below_alloc (Below.refl _ _) _)).below (below_alloc (Below.refl _ _) _)
    · exact blk_alloc (heap_alloc_new w _) _
    · have := heap_alloc_new (w.alloc (.cells zHead 37)) (.cells zSizes 99)
      simpa using this
    · have hB : B ≤ w.heap.size := Nat.le_of_lt (Nat.lt_of_le_of_lt h.ge (blk_lt h.blk))
      exact ⟨below_allocB (below_allocB (Below.refl _ _) hB _) (by simp; omega) _, ((Kept.refl w _).alloc _).alloc _⟩
    · exact blk_lt h.blk
  have HSZ : Aside0 (w.heap.size + 1 < ((w.alloc (.cells zHead 37)).alloc (.cells zSizes 99)).heap.size) := ⟨by simp⟩
  clear h hb
  go_enter Try.func53, Try.ntmps53
  go_upto_region 2 with (go_at_call 54; refine (cs_u16 HH.out.cs HBY.out).mono ?_; rintro r w9 ⟨rfl, hc, hk⟩; have HH := Aside0.mk (HH.out.op hc hk); clear hc hk)
  have hlt := blk_lt HH.out.r3
  obtain ⟨bx, hbx⟩ : ∃ bx, w9.heap.size = bx := ⟨_, rfl⟩
  refine wp_gen (fun W => HW w W B g v b (rA b (rA b (rA b (rA b (rA b s 2) 2) 2) 2) 2) ∧ W.heap[bx]? = some (.cells #[.int .i64 (rV b s 2), .int .i64 (rV b (rA b s 2) 2), .int .i64 (rV b (rA b (rA b s 2) 2) 2), .int .i64 (rV b (rA b (rA b (rA b s 2) 2) 2) 2), .int .i64 (rV b (rA b (rA b (rA b (rA b s 2) 2) 2) 2) 2), .int .u32 0, .int .u32 0, .int .u32 0, .slice none 0 0, .slice none 0 0] 37 (0, 0))) ⟨HH.out.alloc _, hbx ▸ heap_alloc_new w9 _⟩ ?_
  rintro W6 ⟨hh, hx⟩
  have HLT : Aside0 (w.heap.size + 1 < bx) := ⟨by omega⟩
  have HH := Aside0.mk hh
  have HBX := Aside0.mk hx
  clear hh hx hlt
  rw [hbx]
  clear hbx
  go_upto_region 3 with (go_at_call 55; refine (cs_u32 HH.out.cs HBY.out).mono ?_; rintro r w9 ⟨rfl, hc, hk⟩; have HBX := Aside0.mk (box_cur HBX.out HH.out.cs hk (by decide)); have HH := Aside0.mk (HH.out.op hc hk); clear hc hk; have hx5 : w9.cell? ⟨bx, 5, none⟩ = some (.int .u32 0) := (blk_cell HBX.out 5).trans rfl; have hf5 := blk_frozen HBX.out 5; have hx6 : w9.cell? ⟨bx, 6, none⟩ = some (.int .u32 0) := (blk_cell HBX.out 6).trans rfl; have hf6 := blk_frozen HBX.out 6; have hx7 : w9.cell? ⟨bx, 7, none⟩ = some (.int .u32 0) := (blk_cell HBX.out 7).trans rfl; have hf7 := blk_frozen HBX.out 7)
  refine wp_gen (fun W => HW w W B g v b (rA b (rA b (rA b (rA b (rA b (rA b (rA b (rA b s 2) 2) 2) 2) 2) 4) 4) 4) ∧ W.heap[bx]? = some (.cells #[.int .i64 (rV b s 2), .int .i64 (rV b (rA b s 2) 2), .int .i64 (rV b (rA b (rA b s 2) 2) 2), .int .i64 (rV b (rA b (rA b (rA b s 2) 2) 2) 2), .int .i64 (rV b (rA b (rA b (rA b (rA b s 2) 2) 2) 2) 2), .int .u32 (rV b (rA b (rA b (rA b (rA b (rA b s 2) 2) 2) 2) 2) 4), .int .u32 (rV b (rA b (rA b (rA b (rA b (rA b (rA b s 2) 2) 2) 2) 2) 4) 4), .int .u32 (rV b (rA b (rA b (rA b (rA b (rA b (rA b (rA b s 2) 2) 2) 2) 2) 4) 4) 4), .slice none 0 0, .slice none 0 0] 37 (0, 0))) ⟨?_, ?_⟩ ?_
  · exact ((HH.out.set HBX.out (by decide) (by decide) HLT.out 5 _).set (blk_set HBX.out 5 _) (by decide) (by decide) HLT.out 6 _).set (blk_set (blk_set HBX.out 5 _) 6 _) (by decide) (by decide) HLT.out 7 _
  · exact blk_set (blk_set (blk_set HBX.out 5 _) 6 _) 7 _
  rintro W7 ⟨hh, hx⟩
  have HH := Aside0.mk hh
  have HBX := Aside0.mk hx
  clear hh hx
  try clear hx5 hx6 hx7 hf5 hf6 hf7
  have HH := Aside0.mk HH.out.drew
  have HBX := Aside0.mk (show W7.drew.heap[bx]? = _ from HBX.out)
  have hy0 : W7.cell? ⟨bx, 0, none⟩ = some (.int .i64 (rV b s 2)) := (blk_cell HBX.out 0).trans rfl
  have hy1 : W7.cell? ⟨bx, 1, none⟩ = some (.int .i64 (rV b (rA b s 2) 2)) := (blk_cell HBX.out 1).trans rfl
  have hy2 : W7.cell? ⟨bx, 2, none⟩ = some (.int .i64 (rV b (rA b (rA b s 2) 2) 2)) := (blk_cell HBX.out 2).trans rfl
  have hy3 : W7.cell? ⟨bx, 3, none⟩ = some (.int .i64 (rV b (rA b (rA b (rA b s 2) 2) 2) 2)) := (blk_cell HBX.out 3).trans rfl
  have hy4 : W7.cell? ⟨bx, 4, none⟩ = some (.int .i64 (rV b (rA b (rA b (rA b (rA b s 2) 2) 2) 2) 2)) := (blk_cell HBX.out 4).trans rfl
  have hy5 : W7.cell? ⟨bx, 5, none⟩ = some (.int .u32 (rV b (rA b (rA b (rA b (rA b (rA b s 2) 2) 2) 2) 2) 4)) := (blk_cell HBX.out 5).trans rfl
  have hy6 : W7.cell? ⟨bx, 6, none⟩ = some (.int .u32 (rV b (rA b (rA b (rA b (rA b (rA b (rA b s 2) 2) 2) 2) 2) 4) 4)) := (blk_cell HBX.out 6).trans rfl
  have hy7 : W7.cell? ⟨bx, 7, none⟩ = some (.int .u32 (rV b (rA b (rA b (rA b (rA b (rA b (rA b (rA b s 2) 2) 2) 2) 2) 4) 4) 4)) := (blk_cell HBX.out 7).trans rfl
  have hy8 : W7.cell? ⟨bx, 8, none⟩ = some (.slice none 0 0) := (blk_cell HBX.out 8).trans rfl
  have hy9 : W7.cell? ⟨bx, 9, none⟩ = some (.slice none 0 0) := (blk_cell HBX.out 9).trans rfl
  go_wp2_with fail
  go_region_law (first
    | (go_simp; go_at_call 54; refine (cs_u16 HH.out.cs HBY.out).mono ?_; rintro r w9 ⟨rfl, hc, hk⟩; have HBX := Aside0.mk (box_cur HBX.out HH.out.cs hk (by decide)); have HH := Aside0.mk (HH.out.op hc hk); clear hc hk; have hy0 : w9.cell? ⟨bx, 0, none⟩ = some (.int .i64 (rV b s 2)) := (blk_cell HBX.out 0).trans rfl; have hy1 : w9.cell? ⟨bx, 1, none⟩ = some (.int .i64 (rV b (rA b s 2) 2)) := (blk_cell HBX.out 1).trans rfl; have hy2 : w9.cell? ⟨bx, 2, none⟩ = some (.int .i64 (rV b (rA b (rA b s 2) 2) 2)) := (blk_cell HBX.out 2).trans rfl; have hy3 : w9.cell? ⟨bx, 3, none⟩ = some (.int .i64 (rV b (rA b (rA b (rA b s 2) 2) 2) 2)) := (blk_cell HBX.out 3).trans rfl; have hy4 : w9.cell? ⟨bx, 4, none⟩ = some (.int .i64 (rV b (rA b (rA b (rA b (rA b s 2) 2) 2) 2) 2)) := (blk_cell HBX.out 4).trans rfl; have hy5 : w9.cell? ⟨bx, 5, none⟩ = some (.int .u32 (rV b (rA b (rA b (rA b (rA b (rA b s 2) 2) 2) 2) 2) 4)) := (blk_cell HBX.out 5).trans rfl; have hy6 : w9.cell? ⟨bx, 6, none⟩ = some (.int .u32 (rV b (rA b (rA b (rA b (rA b (rA b (rA b s 2) 2) 2) 2) 2) 4) 4)) := (blk_cell HBX.out 6).trans rfl; have hy7 : w9.cell? ⟨bx, 7, none⟩ = some (.int .u32 (rV b (rA b (rA b (rA b (rA b (rA b (rA b (rA b s 2) 2) 2) 2) 2) 4) 4) 4)) := (blk_cell HBX.out 7).trans rfl; have hy8 : w9.cell? ⟨bx, 8, none⟩ = some (.slice none 0 0) := (blk_cell HBX.out 8).trans rfl; have hy9 : w9.cell? ⟨bx, 9, none⟩ = some (.slice none 0 0) := (blk_cell HBX.out 9).trans rfl; have hp0 : w9.cell? ⟨w.heap.size, 0, none⟩ = some (.int .i64 0) := (blk_cell HH.out.r2 0).trans rfl; have hq0 := blk_frozen HH.out.r2 0; have hp1 : w9.cell? ⟨w.heap.size, 1, none⟩ = some (.int .i64 0) := (blk_cell HH.out.r2 1).trans rfl; have hq1 := blk_frozen HH.out.r2 1; have hp2 : w9.cell? ⟨w.heap.size, 2, none⟩ = some (.int .i64 0) := (blk_cell HH.out.r2 2).trans rfl; have hq2 := blk_frozen HH.out.r2 2; have hp3 : w9.cell? ⟨w.heap.size, 3, none⟩ = some (.int .i64 0) := (blk_cell HH.out.r2 3).trans rfl; have hq3 := blk_frozen HH.out.r2 3; have hp4 : w9.cell? ⟨w.heap.size, 4, none⟩ = some (.int .i64 0) := (blk_cell HH.out.r2 4).trans rfl; have hq4 := blk_frozen HH.out.r2 4; have hp5 : w9.cell? ⟨w.heap.size, 5, none⟩ = some (.int .u32 0) := (blk_cell HH.out.r2 5).trans rfl; have hq5 := blk_frozen HH.out.r2 5; have hp6 : w9.cell? ⟨w.heap.size, 6, none⟩ = some (.int .u32 0) := (blk_cell HH.out.r2 6).trans rfl; have hq6 := blk_frozen HH.out.r2 6; have hp7 : w9.cell? ⟨w.heap.size, 7, none⟩ = some (.int .u32 0) := (blk_cell HH.out.r2 7).trans rfl; have hq7 := blk_frozen HH.out.r2 7; have hp8 : w9.cell? ⟨w.heap.size, 8, none⟩ = some (.slice none 0 0) := (blk_cell HH.out.r2 8).trans rfl; have hq8 := blk_frozen HH.out.r2 8; have hp9 : w9.cell? ⟨w.heap.size, 9, none⟩ = some (.slice none 0 0) := (blk_cell HH.out.r2 9).trans rfl; have hq9 := blk_frozen HH.out.r2 9; have hm0 : w9.cell? ⟨w.heap.size + 1, 0, none⟩ = some (.int .i64 0) := (blk_cell HH.out.r3 0).trans rfl; have hn0 := blk_frozen HH.out.r3 0; have hm1 : w9.cell? ⟨w.heap.size + 1, 1, none⟩ = some (.int .i64 0) := (blk_cell HH.out.r3 1).trans rfl; have hn1 := blk_frozen HH.out.r3 1; have hm2 : w9.cell? ⟨w.heap.size + 1, 2, none⟩ = some (.int .i64 0) := (blk_cell HH.out.r3 2).trans rfl; have hn2 := blk_frozen HH.out.r3 2)
    | fail)
  all_goals
    refine ex_gen (X := Exit.then _ _ Exit.normal _) (fun W => FW w W B g v b (rA b (rA b (rA b (rA b (rA b (rA b (rA b (rA b (rA b (rA b s 2) 2) 2) 2) 2) 4) 4) 4) 2) 2) #[.int .i64 (rV b s 2), .int .i64 (rV b (rA b s 2) 2), .int .i64 (rV b (rA b (rA b s 2) 2) 2), .int .i64 (rV b (rA b (rA b (rA b s 2) 2) 2) 2), .int .i64 (rV b (rA b (rA b (rA b (rA b s 2) 2) 2) 2) 2), .int .u32 (rV b (rA b (rA b (rA b (rA b (rA b s 2) 2) 2) 2) 2) 4), .int .u32 (rV b (rA b (rA b (rA b (rA b (rA b (rA b s 2) 2) 2) 2) 2) 4) 4), .int .u32 (rV b (rA b (rA b (rA b (rA b (rA b (rA b (rA b s 2) 2) 2) 2) 2) 4) 4) 4), .slice none 0 0, .slice none 0 0] #[.int .i64 (rV b (rA b (rA b (rA b (rA b (rA b (rA b (rA b (rA b s 2) 2) 2) 2) 2) 4) 4) 4) 2), .int .i64 (rV b (rA b (rA b (rA b (rA b (rA b (rA b (rA b (rA b (rA b s 2) 2) 2) 2) 2) 4) 4) 4) 2) 2), .int .i64 0]) (FW.fill (FW.of HH.out) _ _ _ _ _ _ _ _ _ _ _ _ _) ?_
    rintro W8 hfw
    have HF := Aside0.mk hfw
    clear hfw
    try clear hy0 hp0 hq0 hy1 hp1 hq1 hy2 hp2 hq2 hy3 hp3 hq3 hy4 hp4 hq4 hy5 hp5 hq5 hy6 hp6 hq6 hy7 hp7 hq7 hy8 hp8 hq8 hy9 hp9 hq9 hm0 hn0 hm1 hn1 hm2 hn2
    go_wp2
    refine bodyPost_ret (results_cc rfl _ _ w.heap.size (w.heap.size + 1) 37 99 _ _ (0, 0) (0, 0) _ _ rfl HF.out.r2 Try.underlying37 rfl (by kernel_rfl) rfl HF.out.r3 Try.underlying99 rfl (by kernel_rfl)) rfl ?_
    exact ⟨rfl, HF.out.cs, HF.out.kk⟩
end Go.Proofs.Ytpmiofjhgmdghaa.Fld
