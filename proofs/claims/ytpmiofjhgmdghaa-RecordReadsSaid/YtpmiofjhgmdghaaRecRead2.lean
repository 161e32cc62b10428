/- record.ReadEnd, walked. -/
import Derived.Test.YtpmiofjhgmdghaaRecRead1
namespace Go.Proofs.Ytpmiofjhgmdghaa.Fld
open Go.RowKit Go.Proofs.YtpmiofjhgmdghaaW.PrintWords Go.Proofs.YtpmiofjhgmdghaaW.PrintLast Go.Proofs.YtpmiofjhgmdghaaW.PrintMore
set_option linter.unusedVariables false
set_option linter.unusedSimpArgs false
/-- one result cell and the cursor -/
structure H1 (w W : World) (B g : Nat) (v : Value) (b : List Int) (s : Sta) (t : Nat) (C : Array Value) : Prop where
  cs : CS W B g v b s
  r2 : W.heap[w.heap.size]? = some (.cells C t (0, 0))
  kk : CKept w W B g
  gl : g < w.heap.size
section
variable {w W W' : World} {B g : Nat} {v : Value} {b : List Int} {s s' : Sta} {t : Nat} {C : Array Value}
theorem H1.base (h : H1 w W B g v b s t C) : B ≤ w.heap.size := Nat.le_of_lt (Nat.lt_of_le_of_lt h.cs.ge h.gl)
theorem H1.start (h : CS w B g v b s) (C : Array Value) (t : Nat) : H1 w (w.alloc (.cells C t)) B g v b s t C := by
  have hB : B ≤ w.heap.size := Nat.le_of_lt (Nat.lt_of_le_of_lt h.ge (blk_lt h.blk))
  exact ⟨h.below (below_alloc (Below.refl _ _) _), heap_alloc_new w _, ⟨below_allocB (Below.refl _ _) hB _, (Kept.refl w _).alloc _⟩, blk_lt h.blk⟩
theorem H1.op (h : H1 w W B g v b s t C) (hc : CS W' B g v b s') (hk : CKept W W' B g) (ht : t ≠ 56 := by decide) : H1 w W' B g v b s' t C :=
  ⟨hc, box_cur h.r2 h.cs hk ht, h.kk.trans hk, h.gl⟩
theorem H1.alloc (h : H1 w W B g v b s t C) (o : Obj) : H1 w (W.alloc o) B g v b s t C :=
  ⟨h.cs.below (below_alloc (Below.refl _ _) _), blk_alloc h.r2 _, ⟨below_allocB h.kk.below (Nat.le_trans h.base h.kk.kept.1) _, h.kk.kept.alloc _⟩, h.gl⟩
theorem H1.set {bx t2 : Nat} {cs : Array Value} (h : H1 w W B g v b s t C) (hb : W.heap[bx]? = some (.cells cs t2 (0, 0))) (ht : t2 ≠ 56) (ht2 : 5 ≠ t2) (h2 : w.heap.size < bx) (j : Nat) (u : Value) : H1 w (W.setCell ⟨bx, j, none⟩ u) B g v b s t C :=
  ⟨h.cs.far hb ht ht2 j u, blk_far h.r2 (by show w.heap.size ≠ bx; omega) u,
    ⟨h.kk.below.setCell (by have := h.base; show B ≤ bx; omega) u, h.kk.kept.setCell (p := ⟨bx, j, none⟩) (.inr (by show w.heap.size ≤ bx; omega)) u⟩, h.gl⟩
theorem H1.set0 (h : H1 w W B g v b s t C) (ht : t ≠ 56) (ht2 : 5 ≠ t) (j : Nat) (u : Value) : H1 w (W.setCell ⟨w.heap.size, j, none⟩ u) B g v b s t (C.setIfInBounds j u) :=
  ⟨h.cs.far h.r2 ht ht2 j u, blk_set h.r2 j u,
    ⟨h.kk.below.setCell (by have := h.base; show B ≤ w.heap.size; omega) u, h.kk.kept.setCell (p := ⟨w.heap.size, j, none⟩) (.inr (Nat.le_refl _)) u⟩, h.gl⟩
theorem H1.fill7 {c0 c1 c2 c3 c4 c5 c6 : Value} (h : H1 w W B g v b s t #[c0, c1, c2, c3, c4, c5, c6]) (ht : t ≠ 56) (ht2 : 5 ≠ t) (u0 u1 u2 u3 u4 u5 u6 : Value) : H1 w (((((((W.setCell ⟨w.heap.size, 0, none⟩ u0).setCell ⟨w.heap.size, 1, none⟩ u1).setCell ⟨w.heap.size, 2, none⟩ u2).setCell ⟨w.heap.size, 3, none⟩ u3).setCell ⟨w.heap.size, 4, none⟩ u4).setCell ⟨w.heap.size, 5, none⟩ u5).setCell ⟨w.heap.size, 6, none⟩ u6) B g v b s t #[u0, u1, u2, u3, u4, u5, u6] := by
  have hc := (((((((h.set0 ht ht2 0 u0).set0 ht ht2 1 u1).set0 ht ht2 2 u2).set0 ht ht2 3 u3).set0 ht ht2 4 u4).set0 ht ht2 5 u5).set0 ht ht2 6 u6)
  simp only [List.setIfInBounds_toArray, List.set_cons_zero, List.set_cons_succ] at hc
  exact hc
theorem H1.fill10 {c0 c1 c2 c3 c4 c5 c6 c7 c8 c9 : Value} (h : H1 w W B g v b s t #[c0, c1, c2, c3, c4, c5, c6, c7, c8, c9]) (ht : t ≠ 56) (ht2 : 5 ≠ t) (u0 u1 u2 u3 u4 u5 u6 u7 u8 u9 : Value) : H1 w ((((((((((W.setCell ⟨w.heap.size, 0, none⟩ u0).setCell ⟨w.heap.size, 1, none⟩ u1).setCell ⟨w.heap.size, 2, none⟩ u2).setCell ⟨w.heap.size, 3, none⟩ u3).setCell ⟨w.heap.size, 4, none⟩ u4).setCell ⟨w.heap.size, 5, none⟩ u5).setCell ⟨w.heap.size, 6, none⟩ u6).setCell ⟨w.heap.size, 7, none⟩ u7).setCell ⟨w.heap.size, 8, none⟩ u8).setCell ⟨w.heap.size, 9, none⟩ u9) B g v b s t #[u0, u1, u2, u3, u4, u5, u6, u7, u8, u9] := by
  have hc := ((((((((((h.set0 ht ht2 0 u0).set0 ht ht2 1 u1).set0 ht ht2 2 u2).set0 ht ht2 3 u3).set0 ht ht2 4 u4).set0 ht ht2 5 u5).set0 ht ht2 6 u6).set0 ht ht2 7 u7).set0 ht ht2 8 u8).set0 ht ht2 9 u9)
  simp only [List.setIfInBounds_toArray, List.set_cons_zero, List.set_cons_succ] at hc
  exact hc
theorem H1.fill16 {c0 c1 c2 c3 c4 c5 c6 c7 c8 c9 c10 c11 c12 c13 c14 c15 : Value} (h : H1 w W B g v b s t #[c0, c1, c2, c3, c4, c5, c6, c7, c8, c9, c10, c11, c12, c13, c14, c15]) (ht : t ≠ 56) (ht2 : 5 ≠ t) (u0 u1 u2 u3 u4 u5 u6 u7 u8 u9 u10 u11 u12 u13 u14 u15 : Value) : H1 w ((((((((((((((((W.setCell ⟨w.heap.size, 0, none⟩ u0).setCell ⟨w.heap.size, 1, none⟩ u1).setCell ⟨w.heap.size, 2, none⟩ u2).setCell ⟨w.heap.size, 3, none⟩ u3).setCell ⟨w.heap.size, 4, none⟩ u4).setCell ⟨w.heap.size, 5, none⟩ u5).setCell ⟨w.heap.size, 6, none⟩ u6).setCell ⟨w.heap.size, 7, none⟩ u7).setCell ⟨w.heap.size, 8, none⟩ u8).setCell ⟨w.heap.size, 9, none⟩ u9).setCell ⟨w.heap.size, 10, none⟩ u10).setCell ⟨w.heap.size, 11, none⟩ u11).setCell ⟨w.heap.size, 12, none⟩ u12).setCell ⟨w.heap.size, 13, none⟩ u13).setCell ⟨w.heap.size, 14, none⟩ u14).setCell ⟨w.heap.size, 15, none⟩ u15) B g v b s t #[u0, u1, u2, u3, u4, u5, u6, u7, u8, u9, u10, u11, u12, u13, u14, u15] := by
  have hc := ((((((((((((((((h.set0 ht ht2 0 u0).set0 ht ht2 1 u1).set0 ht ht2 2 u2).set0 ht ht2 3 u3).set0 ht ht2 4 u4).set0 ht ht2 5 u5).set0 ht ht2 6 u6).set0 ht ht2 7 u7).set0 ht ht2 8 u8).set0 ht ht2 9 u9).set0 ht ht2 10 u10).set0 ht ht2 11 u11).set0 ht ht2 12 u12).set0 ht ht2 13 u13).set0 ht ht2 14 u14).set0 ht ht2 15 u15)
  simp only [List.setIfInBounds_toArray, List.set_cons_zero, List.set_cons_succ] at hc
  exact hc
theorem keep7 (W : World) (g k : Nat) (hk : k ≠ g) (u0 u1 u2 u3 u4 u5 u6 : Value) : (((((((W.setCell ⟨g, 0, none⟩ u0).setCell ⟨g, 1, none⟩ u1).setCell ⟨g, 2, none⟩ u2).setCell ⟨g, 3, none⟩ u3).setCell ⟨g, 4, none⟩ u4).setCell ⟨g, 5, none⟩ u5).setCell ⟨g, 6, none⟩ u6).heap[k]? = W.heap[k]? := by
  rw [Below.heap_setCell _ _ _ _ (show k ≠ Addr.block ⟨g, _, none⟩ from hk), Below.heap_setCell _ _ _ _ (show k ≠ Addr.block ⟨g, _, none⟩ from hk), Below.heap_setCell _ _ _ _ (show k ≠ Addr.block ⟨g, _, none⟩ from hk), Below.heap_setCell _ _ _ _ (show k ≠ Addr.block ⟨g, _, none⟩ from hk), Below.heap_setCell _ _ _ _ (show k ≠ Addr.block ⟨g, _, none⟩ from hk), Below.heap_setCell _ _ _ _ (show k ≠ Addr.block ⟨g, _, none⟩ from hk), Below.heap_setCell _ _ _ _ (show k ≠ Addr.block ⟨g, _, none⟩ from hk)]
theorem keep10 (W : World) (g k : Nat) (hk : k ≠ g) (u0 u1 u2 u3 u4 u5 u6 u7 u8 u9 : Value) : ((((((((((W.setCell ⟨g, 0, none⟩ u0).setCell ⟨g, 1, none⟩ u1).setCell ⟨g, 2, none⟩ u2).setCell ⟨g, 3, none⟩ u3).setCell ⟨g, 4, none⟩ u4).setCell ⟨g, 5, none⟩ u5).setCell ⟨g, 6, none⟩ u6).setCell ⟨g, 7, none⟩ u7).setCell ⟨g, 8, none⟩ u8).setCell ⟨g, 9, none⟩ u9).heap[k]? = W.heap[k]? := by
  rw [Below.heap_setCell _ _ _ _ (show k ≠ Addr.block ⟨g, _, none⟩ from hk), Below.heap_setCell _ _ _ _ (show k ≠ Addr.block ⟨g, _, none⟩ from hk), Below.heap_setCell _ _ _ _ (show k ≠ Addr.block ⟨g, _, none⟩ from hk), Below.heap_setCell _ _ _ _ (show k ≠ Addr.block ⟨g, _, none⟩ from hk), Below.heap_setCell _ _ _ _ (show k ≠ Addr.block ⟨g, _, none⟩ from hk), Below.heap_setCell _ _ _ _ (show k ≠ Addr.block ⟨g, _, none⟩ from hk), Below.heap_setCell _ _ _ _ (show k ≠ Addr.block ⟨g, _, none⟩ from hk), Below.heap_setCell _ _ _ _ (show k ≠ Addr.block ⟨g, _, none⟩ from hk), Below.heap_setCell _ _ _ _ (show k ≠ Addr.block ⟨g, _, none⟩ from hk), Below.heap_setCell _ _ _ _ (show k ≠ Addr.block ⟨g, _, none⟩ from hk)]
theorem keep16 (W : World) (g k : Nat) (hk : k ≠ g) (u0 u1 u2 u3 u4 u5 u6 u7 u8 u9 u10 u11 u12 u13 u14 u15 : Value) : ((((((((((((((((W.setCell ⟨g, 0, none⟩ u0).setCell ⟨g, 1, none⟩ u1).setCell ⟨g, 2, none⟩ u2).setCell ⟨g, 3, none⟩ u3).setCell ⟨g, 4, none⟩ u4).setCell ⟨g, 5, none⟩ u5).setCell ⟨g, 6, none⟩ u6).setCell ⟨g, 7, none⟩ u7).setCell ⟨g, 8, none⟩ u8).setCell ⟨g, 9, none⟩ u9).setCell ⟨g, 10, none⟩ u10).setCell ⟨g, 11, none⟩ u11).setCell ⟨g, 12, none⟩ u12).setCell ⟨g, 13, none⟩ u13).setCell ⟨g, 14, none⟩ u14).setCell ⟨g, 15, none⟩ u15).heap[k]? = W.heap[k]? := by
  rw [Below.heap_setCell _ _ _ _ (show k ≠ Addr.block ⟨g, _, none⟩ from hk), Below.heap_setCell _ _ _ _ (show k ≠ Addr.block ⟨g, _, none⟩ from hk), Below.heap_setCell _ _ _ _ (show k ≠ Addr.block ⟨g, _, none⟩ from hk), Below.heap_setCell _ _ _ _ (show k ≠ Addr.block ⟨g, _, none⟩ from hk), Below.heap_setCell _ _ _ _ (show k ≠ Addr.block ⟨g, _, none⟩ from hk), Below.heap_setCell _ _ _ _ (show k ≠ Addr.block ⟨g, _, none⟩ from hk), Below.heap_setCell _ _ _ _ (show k ≠ Addr.block ⟨g, _, none⟩ from hk), Below.heap_setCell _ _ _ _ (show k ≠ Addr.block ⟨g, _, none⟩ from hk), Below.heap_setCell _ _ _ _ (show k ≠ Addr.block ⟨g, _, none⟩ from hk), Below.heap_setCell _ _ _ _ (show k ≠ Addr.block ⟨g, _, none⟩ from hk), Below.heap_setCell _ _ _ _ (show k ≠ Addr.block ⟨g, _, none⟩ from hk), Below.heap_setCell _ _ _ _ (show k ≠ Addr.block ⟨g, _, none⟩ from hk), Below.heap_setCell _ _ _ _ (show k ≠ Addr.block ⟨g, _, none⟩ from hk), Below.heap_setCell _ _ _ _ (show k ≠ Addr.block ⟨g, _, none⟩ from hk), Below.heap_setCell _ _ _ _ (show k ≠ Addr.block ⟨g, _, none⟩ from hk), Below.heap_setCell _ _ _ _ (show k ≠ Addr.block ⟨g, _, none⟩ from hk)]
theorem H1.row (h : H1 w W B g v b s t C) (C' : Array Value) (ht : t ≠ 56 := by decide) (ht2 : 5 ≠ t := by decide) : H1 w (W.setRow w.heap.size C') B g v b s t C' := by
  refine ⟨h.cs.row h.r2 ht ht2, setRow_heap W w.heap.size C C' t (0, 0) h.r2, ⟨⟨h.kk.below.os, h.kk.below.tape, h.kk.below.output, by simpa [World.setRow] using h.kk.below.size, fun k hk => ?_⟩, ⟨by simpa [World.setRow] using h.kk.kept.1, fun k hk hn => ?_⟩⟩, h.gl⟩
  · rw [setRow_far (by have := h.base; omega)]; exact h.kk.below.block k hk
  · rw [setRow_far (by omega)]; exact h.kk.kept.2 k hk hn
end
/-- what a reader leaves: the record's cells, an error, the cursor's state -/
def RPost1 (w : World) (B g : Nat) (v : Value) (b : List Int) (s : Sta) (C : Array Value) (e : Int) (r : Ending) (w' : World) : Prop :=
  r = .returned (.tuple #[.agg C, .int .i64 e]) ∧ CS w' B g v b s ∧ CKept w w' B g
set_option maxHeartbeats 4000000 in
set_option maxRecDepth 100000 in
theorem rec_readEnd_sign (w : World) (B g : Nat) (v : Value) (b : List Int) (s : Sta) (h : CS w B g v b s) (hb : ∀ x ∈ b, 0 ≤ x ∧ x ≤ 255) (E : Int) (hE : sgE b s 101010256 = E) (he : E ≠ 0) :
    Calls Try.prog 25 #[.pointer (some ⟨g, 0, none⟩)] w (RPost1 w B g v b (rA b s 4) #[.int .i64 0, .int .i64 0, .int .i64 0, .int .i64 0, .int .u32 0, .int .u32 0, .slice none 0 0] E) := by
  have HBY := Aside0.mk hb
  have HH : Aside0 (H1 w (w.alloc (.cells #[.int .i64 0, .int .i64 0, .int .i64 0, .int .i64 0, .int .u32 0, .int .u32 0, .slice none 0 0] 29)) B g v b s 29 #[.int .i64 0, .int .i64 0, .int .i64 0, .int .i64 0, .int .u32 0, .int .u32 0, .slice none 0 0]) := ⟨H1.start h _ _⟩
  have HSG : Aside0 (Calls Try.prog 52 #[.pointer (some ⟨g, 0, none⟩), .int .u32 101010256] (w.alloc (.cells #[.int .i64 0, .int .i64 0, .int .i64 0, .int .i64 0, .int .u32 0, .int .u32 0, .slice none 0 0] 29)) (SPost (w.alloc (.cells #[.int .i64 0, .int .i64 0, .int .i64 0, .int .i64 0, .int .u32 0, .int .u32 0, .slice none 0 0] 29)) B g v b (rA b s 4) (.int .i64 E))) := ⟨hE ▸ rec_sign _ B g v b s 101010256 HH.out.cs hb⟩
  have c1 : decide (E = 0) = false := decide_eq_false he
  have c2 : (E == 0) = false := beq_eq_false_iff_ne.mpr he
  have c3 : (E != 0) = true := by simp [he]
  clear h hb hE he
  go_enter Try.func25, Try.ntmps25
  go_wp2_with (first
    | (go_at_call 52; (with_reducible refine HSG.out.mono ?_); rintro r w9 ⟨rfl, hc, hk⟩; have HH := Aside0.mk (HH.out.op hc hk); clear hc hk; have hp0 : w9.cell? ⟨w.heap.size, 0, none⟩ = some (.int .i64 0) := (blk_cell HH.out.r2 0).trans rfl; have hq0 := blk_frozen HH.out.r2 0; have hp1 : w9.cell? ⟨w.heap.size, 1, none⟩ = some (.int .i64 0) := (blk_cell HH.out.r2 1).trans rfl; have hq1 := blk_frozen HH.out.r2 1; have hp2 : w9.cell? ⟨w.heap.size, 2, none⟩ = some (.int .i64 0) := (blk_cell HH.out.r2 2).trans rfl; have hq2 := blk_frozen HH.out.r2 2; have hp3 : w9.cell? ⟨w.heap.size, 3, none⟩ = some (.int .i64 0) := (blk_cell HH.out.r2 3).trans rfl; have hq3 := blk_frozen HH.out.r2 3; have hp4 : w9.cell? ⟨w.heap.size, 4, none⟩ = some (.int .u32 0) := (blk_cell HH.out.r2 4).trans rfl; have hq4 := blk_frozen HH.out.r2 4; have hp5 : w9.cell? ⟨w.heap.size, 5, none⟩ = some (.int .u32 0) := (blk_cell HH.out.r2 5).trans rfl; have hq5 := blk_frozen HH.out.r2 5; have hp6 : w9.cell? ⟨w.heap.size, 6, none⟩ = some (.slice none 0 0) := (blk_cell HH.out.r2 6).trans rfl; have hq6 := blk_frozen HH.out.r2 6)
    | fail)
  have HH := Aside0.mk (H1.fill7 HH.out (by decide) (by decide) (.int .i64 0) (.int .i64 0) (.int .i64 0) (.int .i64 0) (.int .u32 0) (.int .u32 0) (.slice none 0 0))
  refine bodyPost_ret (results_ct rfl _ _ w.heap.size 29 _ (0, 0) _ rfl HH.out.r2 Try.underlying29 rfl (by kernel_rfl)) rfl ?_
  exact ⟨rfl, HH.out.cs, HH.out.kk⟩
set_option maxHeartbeats 4000000 in
set_option maxRecDepth 100000 in
theorem rec_readEnd_err (w : World) (B g : Nat) (v : Value) (b : List Int) (s : Sta) (h : CS w B g v b s) (hb : ∀ x ∈ b, 0 ≤ x ∧ x ≤ 255) (hE : sgE b s 101010256 = 0) (e2 : Int) (h2 : (rA b (rA b (rA b (rA b (rA b (rA b (rA b (rA b (rA b s 4) 2) 2) 2) 2) 4) 4) 2) (rV b (rA b (rA b (rA b (rA b (rA b (rA b (rA b s 4) 2) 2) 2) 2) 4) 4) 2)).2 = e2) (he : e2 ≠ 0) :
    Calls Try.prog 25 #[.pointer (some ⟨g, 0, none⟩)] w (RPost1 w B g v b (rA b (rA b (rA b (rA b (rA b (rA b (rA b (rA b (rA b s 4) 2) 2) 2) 2) 4) 4) 2) (rV b (rA b (rA b (rA b (rA b (rA b (rA b (rA b s 4) 2) 2) 2) 2) 4) 4) 2)) #[.int .i64 0, .int .i64 0, .int .i64 0, .int .i64 0, .int .u32 0, .int .u32 0, .slice none 0 0] e2) := by
  have HBY := Aside0.mk hb
  have HH : Aside0 (H1 w (w.alloc (.cells #[.int .i64 0, .int .i64 0, .int .i64 0, .int .i64 0, .int .u32 0, .int .u32 0, .slice none 0 0] 29)) B g v b s 29 #[.int .i64 0, .int .i64 0, .int .i64 0, .int .i64 0, .int .u32 0, .int .u32 0, .slice none 0 0]) := ⟨H1.start h _ _⟩
  have HSG : Aside0 (Calls Try.prog 52 #[.pointer (some ⟨g, 0, none⟩), .int .u32 101010256] (w.alloc (.cells #[.int .i64 0, .int .i64 0, .int .i64 0, .int .i64 0, .int .u32 0, .int .u32 0, .slice none 0 0] 29)) (SPost (w.alloc (.cells #[.int .i64 0, .int .i64 0, .int .i64 0, .int .i64 0, .int .u32 0, .int .u32 0, .slice none 0 0] 29)) B g v b (rA b s 4) (.int .i64 0))) := ⟨by have h9 := rec_sign _ B g v b s 101010256 HH.out.cs hb; rwa [hE] at h9⟩
  have HSZ : Aside0 (w.heap.size < (w.alloc (.cells #[.int .i64 0, .int .i64 0, .int .i64 0, .int .i64 0, .int .u32 0, .int .u32 0, .slice none 0 0] 29)).heap.size) := ⟨by simp⟩
  have c1 : decide (e2 = 0) = false := decide_eq_false he
  have c2 : (e2 == 0) = false := beq_eq_false_iff_ne.mpr he
  have c3 : (e2 != 0) = true := by simp [he]
  have HE2 := Aside0.mk h2
  clear h hb hE he h2
  go_enter Try.func25, Try.ntmps25
  go_upto_region 4 with (go_at_call 52; (with_reducible refine HSG.out.mono ?_); rintro r w9 ⟨rfl, hc, hk⟩; have HH := Aside0.mk (HH.out.op hc hk); clear hc hk)
  go_upto_region 5 with (first
    | (go_at_call 54; refine (cs_u16 HH.out.cs HBY.out).mono ?_; rintro r w9 ⟨rfl, hc, hk⟩; have HH := Aside0.mk (HH.out.op hc hk); clear hc hk)
    | (go_at_call 55; refine (cs_u32 HH.out.cs HBY.out).mono ?_; rintro r w9 ⟨rfl, hc, hk⟩; have HH := Aside0.mk (HH.out.op hc hk); clear hc hk))
  have hlt := blk_lt HH.out.r2
  obtain ⟨bx, hbx⟩ : ∃ bx, w9.heap.size = bx := ⟨_, rfl⟩
  refine wp_gen (fun W => H1 w W B g v b (rA b (rA b (rA b (rA b (rA b (rA b (rA b s 4) 2) 2) 2) 2) 4) 4) 29 #[.int .i64 0, .int .i64 0, .int .i64 0, .int .i64 0, .int .u32 0, .int .u32 0, .slice none 0 0] ∧ W.heap[bx]? = some (.cells #[.int .i64 (rV b (rA b s 4) 2), .int .i64 (rV b (rA b (rA b s 4) 2) 2), .int .i64 (rV b (rA b (rA b (rA b s 4) 2) 2) 2), .int .i64 (rV b (rA b (rA b (rA b (rA b s 4) 2) 2) 2) 2), .int .u32 (rV b (rA b (rA b (rA b (rA b (rA b s 4) 2) 2) 2) 2) 4), .int .u32 (rV b (rA b (rA b (rA b (rA b (rA b (rA b s 4) 2) 2) 2) 2) 4) 4), .slice none 0 0] 29 (0, 0))) ⟨HH.out.alloc _, hbx ▸ heap_alloc_new w9 _⟩ ?_
  rintro W5 ⟨hh, hx⟩
  have HLT : Aside0 (w.heap.size < bx) := ⟨by omega⟩
  have HH := Aside0.mk hh
  have HBX := Aside0.mk hx
  clear hh hx hlt
  rw [hbx]
  clear hbx
  go_upto_region 6 with (first
    | (go_at_call 54; refine (cs_u16 HH.out.cs HBY.out).mono ?_; rintro r w9 ⟨rfl, hc, hk⟩; have HBX := Aside0.mk (box_cur HBX.out HH.out.cs hk (by decide)); have HH := Aside0.mk (HH.out.op hc hk); clear hc hk)
    | (go_at_call 31; refine (cs_bytes HH.out.cs (rV b (rA b (rA b (rA b (rA b (rA b (rA b (rA b s 4) 2) 2) 2) 2) 4) 4) 2)).mono ?_; rintro r w9 ⟨A9, c9, rfl, ho, hc, hk⟩; have HO := Aside0.mk (own_weaken ho HH.out.kk.kept.1); have HBX := Aside0.mk (box_cur HBX.out HH.out.cs hk (by decide)); have HH := Aside0.mk (HH.out.op hc hk); have hx6 : w9.cell? ⟨bx, 6, none⟩ = some (.slice none 0 0) := (blk_cell HBX.out 6).trans rfl; have hf6 := blk_frozen HBX.out 6; clear ho hc hk))
  have hwo := HO.out
  refine wp_gen (fun W => H1 w W B g v b (rA b (rA b (rA b (rA b (rA b (rA b (rA b (rA b (rA b s 4) 2) 2) 2) 2) 4) 4) 2) (rV b (rA b (rA b (rA b (rA b (rA b (rA b (rA b s 4) 2) 2) 2) 2) 4) 4) 2)) 29 #[.int .i64 0, .int .i64 0, .int .i64 0, .int .i64 0, .int .u32 0, .int .u32 0, .slice none 0 0] ∧ W.heap[bx]? = some (.cells #[.int .i64 (rV b (rA b s 4) 2), .int .i64 (rV b (rA b (rA b s 4) 2) 2), .int .i64 (rV b (rA b (rA b (rA b s 4) 2) 2) 2), .int .i64 (rV b (rA b (rA b (rA b (rA b s 4) 2) 2) 2) 2), .int .u32 (rV b (rA b (rA b (rA b (rA b (rA b s 4) 2) 2) 2) 2) 4), .int .u32 (rV b (rA b (rA b (rA b (rA b (rA b (rA b s 4) 2) 2) 2) 2) 4) 4), .slice A9 (rL b (rA b (rA b (rA b (rA b (rA b (rA b (rA b (rA b s 4) 2) 2) 2) 2) 4) 4) 2) (rV b (rA b (rA b (rA b (rA b (rA b (rA b (rA b s 4) 2) 2) 2) 2) 4) 4) 2)).length c9] 29 (0, 0)) ∧ W.ownsRow w.heap.size 5 1 (.slice A9 (rL b (rA b (rA b (rA b (rA b (rA b (rA b (rA b (rA b s 4) 2) 2) 2) 2) 4) 4) 2) (rV b (rA b (rA b (rA b (rA b (rA b (rA b (rA b s 4) 2) 2) 2) 2) 4) 4) 2)).length c9) (rL b (rA b (rA b (rA b (rA b (rA b (rA b (rA b (rA b s 4) 2) 2) 2) 2) 4) 4) 2) (rV b (rA b (rA b (rA b (rA b (rA b (rA b (rA b s 4) 2) 2) 2) 2) 4) 4) 2)).length (nums .u8 (rL b (rA b (rA b (rA b (rA b (rA b (rA b (rA b (rA b s 4) 2) 2) 2) 2) 4) 4) 2) (rV b (rA b (rA b (rA b (rA b (rA b (rA b (rA b s 4) 2) 2) 2) 2) 4) 4) 2)))) ⟨HH.out.set HBX.out (by decide) (by decide) HLT.out 6 _, blk_set HBX.out 6 _, own_setCell (p := ⟨bx, 6, none⟩) hwo (own_ne hwo HBX.out (by decide)) _⟩ ?_
  rintro W7 ⟨hh, hx, hC⟩
  have HH := Aside0.mk hh
  have HBX := Aside0.mk hx
  have HD := Aside0.mk hC
  clear hh hx hC hwo HO hx6 hf6
  have hp0 : W7.cell? ⟨w.heap.size, 0, none⟩ = some (.int .i64 0) := (blk_cell HH.out.r2 0).trans rfl
  have hq0 := blk_frozen HH.out.r2 0
  have hp1 : W7.cell? ⟨w.heap.size, 1, none⟩ = some (.int .i64 0) := (blk_cell HH.out.r2 1).trans rfl
  have hq1 := blk_frozen HH.out.r2 1
  have hp2 : W7.cell? ⟨w.heap.size, 2, none⟩ = some (.int .i64 0) := (blk_cell HH.out.r2 2).trans rfl
  have hq2 := blk_frozen HH.out.r2 2
  have hp3 : W7.cell? ⟨w.heap.size, 3, none⟩ = some (.int .i64 0) := (blk_cell HH.out.r2 3).trans rfl
  have hq3 := blk_frozen HH.out.r2 3
  have hp4 : W7.cell? ⟨w.heap.size, 4, none⟩ = some (.int .u32 0) := (blk_cell HH.out.r2 4).trans rfl
  have hq4 := blk_frozen HH.out.r2 4
  have hp5 : W7.cell? ⟨w.heap.size, 5, none⟩ = some (.int .u32 0) := (blk_cell HH.out.r2 5).trans rfl
  have hq5 := blk_frozen HH.out.r2 5
  have hp6 : W7.cell? ⟨w.heap.size, 6, none⟩ = some (.slice none 0 0) := (blk_cell HH.out.r2 6).trans rfl
  have hq6 := blk_frozen HH.out.r2 6
  go_wp2_with (go_at_call 37; refine (cs_err HH.out.cs).mono ?_; rintro r w' ⟨rfl, hs_⟩; subst hs_; rw [HE2.out])
  have HH := Aside0.mk (H1.fill7 HH.out (by decide) (by decide) (.int .i64 0) (.int .i64 0) (.int .i64 0) (.int .i64 0) (.int .u32 0) (.int .u32 0) (.slice none 0 0))
  refine bodyPost_ret (results_ct rfl _ _ w.heap.size 29 _ (0, 0) _ rfl HH.out.r2 Try.underlying29 rfl (by kernel_rfl)) rfl ?_
  exact ⟨rfl, HH.out.cs, HH.out.kk⟩
set_option maxHeartbeats 4000000 in
set_option maxRecDepth 100000 in
theorem rec_readEnd_ok (w : World) (B g : Nat) (v : Value) (b : List Int) (s : Sta) (h : CS w B g v b s) (hb : ∀ x ∈ b, 0 ≤ x ∧ x ≤ 255) (hE : sgE b s 101010256 = 0) (h2 : (rA b (rA b (rA b (rA b (rA b (rA b (rA b (rA b (rA b s 4) 2) 2) 2) 2) 4) 4) 2) (rV b (rA b (rA b (rA b (rA b (rA b (rA b (rA b s 4) 2) 2) 2) 2) 4) 4) 2)).2 = 0) :
    Calls Try.prog 25 #[.pointer (some ⟨g, 0, none⟩)] w (fun r w' => ∃ A c, RPost1 w B g v b (rA b (rA b (rA b (rA b (rA b (rA b (rA b (rA b (rA b s 4) 2) 2) 2) 2) 4) 4) 2) (rV b (rA b (rA b (rA b (rA b (rA b (rA b (rA b s 4) 2) 2) 2) 2) 4) 4) 2)) #[.int .i64 (rV b (rA b s 4) 2), .int .i64 (rV b (rA b (rA b s 4) 2) 2), .int .i64 (rV b (rA b (rA b (rA b s 4) 2) 2) 2), .int .i64 (rV b (rA b (rA b (rA b (rA b s 4) 2) 2) 2) 2), .int .u32 (rV b (rA b (rA b (rA b (rA b (rA b s 4) 2) 2) 2) 2) 4), .int .u32 (rV b (rA b (rA b (rA b (rA b (rA b (rA b s 4) 2) 2) 2) 2) 4) 4), .slice A (rL b (rA b (rA b (rA b (rA b (rA b (rA b (rA b (rA b s 4) 2) 2) 2) 2) 4) 4) 2) (rV b (rA b (rA b (rA b (rA b (rA b (rA b (rA b s 4) 2) 2) 2) 2) 4) 4) 2)).length c] 0 r w' ∧ Kd.C (Kd.int .u8) w' A (rL b (rA b (rA b (rA b (rA b (rA b (rA b (rA b (rA b s 4) 2) 2) 2) 2) 4) 4) 2) (rV b (rA b (rA b (rA b (rA b (rA b (rA b (rA b s 4) 2) 2) 2) 2) 4) 4) 2)).length (rL b (rA b (rA b (rA b (rA b (rA b (rA b (rA b (rA b s 4) 2) 2) 2) 2) 4) 4) 2) (rV b (rA b (rA b (rA b (rA b (rA b (rA b (rA b s 4) 2) 2) 2) 2) 4) 4) 2)) ∧ (rL b (rA b (rA b (rA b (rA b (rA b (rA b (rA b (rA b s 4) 2) 2) 2) 2) 4) 4) 2) (rV b (rA b (rA b (rA b (rA b (rA b (rA b (rA b s 4) 2) 2) 2) 2) 4) 4) 2)).length ≤ c) := by
  have HBY := Aside0.mk hb
  have HH : Aside0 (H1 w (w.alloc (.cells #[.int .i64 0, .int .i64 0, .int .i64 0, .int .i64 0, .int .u32 0, .int .u32 0, .slice none 0 0] 29)) B g v b s 29 #[.int .i64 0, .int .i64 0, .int .i64 0, .int .i64 0, .int .u32 0, .int .u32 0, .slice none 0 0]) := ⟨H1.start h _ _⟩
  have HSG : Aside0 (Calls Try.prog 52 #[.pointer (some ⟨g, 0, none⟩), .int .u32 101010256] (w.alloc (.cells #[.int .i64 0, .int .i64 0, .int .i64 0, .int .i64 0, .int .u32 0, .int .u32 0, .slice none 0 0] 29)) (SPost (w.alloc (.cells #[.int .i64 0, .int .i64 0, .int .i64 0, .int .i64 0, .int .u32 0, .int .u32 0, .slice none 0 0] 29)) B g v b (rA b s 4) (.int .i64 0))) := ⟨by have h9 := rec_sign _ B g v b s 101010256 HH.out.cs hb; rwa [hE] at h9⟩
  have HSZ : Aside0 (w.heap.size < (w.alloc (.cells #[.int .i64 0, .int .i64 0, .int .i64 0, .int .i64 0, .int .u32 0, .int .u32 0, .slice none 0 0] 29)).heap.size) := ⟨by simp⟩
  have HE2 := Aside0.mk h2
  clear h hb hE h2
  go_enter Try.func25, Try.ntmps25
  go_upto_region 4 with (go_at_call 52; (with_reducible refine HSG.out.mono ?_); rintro r w9 ⟨rfl, hc, hk⟩; have HH := Aside0.mk (HH.out.op hc hk); clear hc hk)
  go_upto_region 5 with (first
    | (go_at_call 54; refine (cs_u16 HH.out.cs HBY.out).mono ?_; rintro r w9 ⟨rfl, hc, hk⟩; have HH := Aside0.mk (HH.out.op hc hk); clear hc hk)
    | (go_at_call 55; refine (cs_u32 HH.out.cs HBY.out).mono ?_; rintro r w9 ⟨rfl, hc, hk⟩; have HH := Aside0.mk (HH.out.op hc hk); clear hc hk))
  have hlt := blk_lt HH.out.r2
  obtain ⟨bx, hbx⟩ : ∃ bx, w9.heap.size = bx := ⟨_, rfl⟩
  refine wp_gen (fun W => H1 w W B g v b (rA b (rA b (rA b (rA b (rA b (rA b (rA b s 4) 2) 2) 2) 2) 4) 4) 29 #[.int .i64 0, .int .i64 0, .int .i64 0, .int .i64 0, .int .u32 0, .int .u32 0, .slice none 0 0] ∧ W.heap[bx]? = some (.cells #[.int .i64 (rV b (rA b s 4) 2), .int .i64 (rV b (rA b (rA b s 4) 2) 2), .int .i64 (rV b (rA b (rA b (rA b s 4) 2) 2) 2), .int .i64 (rV b (rA b (rA b (rA b (rA b s 4) 2) 2) 2) 2), .int .u32 (rV b (rA b (rA b (rA b (rA b (rA b s 4) 2) 2) 2) 2) 4), .int .u32 (rV b (rA b (rA b (rA b (rA b (rA b (rA b s 4) 2) 2) 2) 2) 4) 4), .slice none 0 0] 29 (0, 0))) ⟨HH.out.alloc _, hbx ▸ heap_alloc_new w9 _⟩ ?_
  rintro W5 ⟨hh, hx⟩
  have HLT : Aside0 (w.heap.size < bx) := ⟨by omega⟩
  have HH := Aside0.mk hh
  have HBX := Aside0.mk hx
  clear hh hx hlt
  rw [hbx]
  clear hbx
  go_upto_region 6 with (first
    | (go_at_call 54; refine (cs_u16 HH.out.cs HBY.out).mono ?_; rintro r w9 ⟨rfl, hc, hk⟩; have HBX := Aside0.mk (box_cur HBX.out HH.out.cs hk (by decide)); have HH := Aside0.mk (HH.out.op hc hk); clear hc hk)
    | (go_at_call 31; refine (cs_bytes HH.out.cs (rV b (rA b (rA b (rA b (rA b (rA b (rA b (rA b s 4) 2) 2) 2) 2) 4) 4) 2)).mono ?_; rintro r w9 ⟨A9, c9, rfl, ho, hc, hk⟩; have HO := Aside0.mk (own_weaken ho HH.out.kk.kept.1); have HBX := Aside0.mk (box_cur HBX.out HH.out.cs hk (by decide)); have HH := Aside0.mk (HH.out.op hc hk); have hx6 : w9.cell? ⟨bx, 6, none⟩ = some (.slice none 0 0) := (blk_cell HBX.out 6).trans rfl; have hf6 := blk_frozen HBX.out 6; clear ho hc hk))
  have hwo := HO.out
  refine wp_gen (fun W => H1 w W B g v b (rA b (rA b (rA b (rA b (rA b (rA b (rA b (rA b (rA b s 4) 2) 2) 2) 2) 4) 4) 2) (rV b (rA b (rA b (rA b (rA b (rA b (rA b (rA b s 4) 2) 2) 2) 2) 4) 4) 2)) 29 #[.int .i64 0, .int .i64 0, .int .i64 0, .int .i64 0, .int .u32 0, .int .u32 0, .slice none 0 0] ∧ W.heap[bx]? = some (.cells #[.int .i64 (rV b (rA b s 4) 2), .int .i64 (rV b (rA b (rA b s 4) 2) 2), .int .i64 (rV b (rA b (rA b (rA b s 4) 2) 2) 2), .int .i64 (rV b (rA b (rA b (rA b (rA b s 4) 2) 2) 2) 2), .int .u32 (rV b (rA b (rA b (rA b (rA b (rA b s 4) 2) 2) 2) 2) 4), .int .u32 (rV b (rA b (rA b (rA b (rA b (rA b (rA b s 4) 2) 2) 2) 2) 4) 4), .slice A9 (rL b (rA b (rA b (rA b (rA b (rA b (rA b (rA b (rA b s 4) 2) 2) 2) 2) 4) 4) 2) (rV b (rA b (rA b (rA b (rA b (rA b (rA b (rA b s 4) 2) 2) 2) 2) 4) 4) 2)).length c9] 29 (0, 0)) ∧ W.ownsRow w.heap.size 5 1 (.slice A9 (rL b (rA b (rA b (rA b (rA b (rA b (rA b (rA b (rA b s 4) 2) 2) 2) 2) 4) 4) 2) (rV b (rA b (rA b (rA b (rA b (rA b (rA b (rA b s 4) 2) 2) 2) 2) 4) 4) 2)).length c9) (rL b (rA b (rA b (rA b (rA b (rA b (rA b (rA b (rA b s 4) 2) 2) 2) 2) 4) 4) 2) (rV b (rA b (rA b (rA b (rA b (rA b (rA b (rA b s 4) 2) 2) 2) 2) 4) 4) 2)).length (nums .u8 (rL b (rA b (rA b (rA b (rA b (rA b (rA b (rA b (rA b s 4) 2) 2) 2) 2) 4) 4) 2) (rV b (rA b (rA b (rA b (rA b (rA b (rA b (rA b s 4) 2) 2) 2) 2) 4) 4) 2)))) ⟨HH.out.set HBX.out (by decide) (by decide) HLT.out 6 _, blk_set HBX.out 6 _, own_setCell (p := ⟨bx, 6, none⟩) hwo (own_ne hwo HBX.out (by decide)) _⟩ ?_
  rintro W7 ⟨hh, hx, hC⟩
  have HH := Aside0.mk hh
  have HBX := Aside0.mk hx
  have HD := Aside0.mk hC
  clear hh hx hC hwo HO hx6 hf6
  have hp0 : W7.cell? ⟨w.heap.size, 0, none⟩ = some (.int .i64 0) := (blk_cell HH.out.r2 0).trans rfl
  have hq0 := blk_frozen HH.out.r2 0
  have hp1 : W7.cell? ⟨w.heap.size, 1, none⟩ = some (.int .i64 0) := (blk_cell HH.out.r2 1).trans rfl
  have hq1 := blk_frozen HH.out.r2 1
  have hp2 : W7.cell? ⟨w.heap.size, 2, none⟩ = some (.int .i64 0) := (blk_cell HH.out.r2 2).trans rfl
  have hq2 := blk_frozen HH.out.r2 2
  have hp3 : W7.cell? ⟨w.heap.size, 3, none⟩ = some (.int .i64 0) := (blk_cell HH.out.r2 3).trans rfl
  have hq3 := blk_frozen HH.out.r2 3
  have hp4 : W7.cell? ⟨w.heap.size, 4, none⟩ = some (.int .u32 0) := (blk_cell HH.out.r2 4).trans rfl
  have hq4 := blk_frozen HH.out.r2 4
  have hp5 : W7.cell? ⟨w.heap.size, 5, none⟩ = some (.int .u32 0) := (blk_cell HH.out.r2 5).trans rfl
  have hq5 := blk_frozen HH.out.r2 5
  have hp6 : W7.cell? ⟨w.heap.size, 6, none⟩ = some (.slice none 0 0) := (blk_cell HH.out.r2 6).trans rfl
  have hq6 := blk_frozen HH.out.r2 6
  have hy0 : W7.cell? ⟨bx, 0, none⟩ = some (.int .i64 (rV b (rA b s 4) 2)) := (blk_cell HBX.out 0).trans rfl
  have hy1 : W7.cell? ⟨bx, 1, none⟩ = some (.int .i64 (rV b (rA b (rA b s 4) 2) 2)) := (blk_cell HBX.out 1).trans rfl
  have hy2 : W7.cell? ⟨bx, 2, none⟩ = some (.int .i64 (rV b (rA b (rA b (rA b s 4) 2) 2) 2)) := (blk_cell HBX.out 2).trans rfl
  have hy3 : W7.cell? ⟨bx, 3, none⟩ = some (.int .i64 (rV b (rA b (rA b (rA b (rA b s 4) 2) 2) 2) 2)) := (blk_cell HBX.out 3).trans rfl
  have hy4 : W7.cell? ⟨bx, 4, none⟩ = some (.int .u32 (rV b (rA b (rA b (rA b (rA b (rA b s 4) 2) 2) 2) 2) 4)) := (blk_cell HBX.out 4).trans rfl
  have hy5 : W7.cell? ⟨bx, 5, none⟩ = some (.int .u32 (rV b (rA b (rA b (rA b (rA b (rA b (rA b s 4) 2) 2) 2) 2) 4) 4)) := (blk_cell HBX.out 5).trans rfl
  have hy6 : W7.cell? ⟨bx, 6, none⟩ = some (.slice A9 (rL b (rA b (rA b (rA b (rA b (rA b (rA b (rA b (rA b s 4) 2) 2) 2) 2) 4) 4) 2) (rV b (rA b (rA b (rA b (rA b (rA b (rA b (rA b s 4) 2) 2) 2) 2) 4) 4) 2)).length c9) := (blk_cell HBX.out 6).trans rfl
  go_wp2_with (go_at_call 37; refine (cs_err HH.out.cs).mono ?_; rintro r w' ⟨rfl, hs_⟩; subst hs_; rw [HE2.out])
  have hown := fun (u0 u1 u2 u3 u4 u5 u6 : Value) => own_move HD.out (fun k hk => keep7 W7 w.heap.size k (fun e => own_ne HD.out HH.out.r2 (by decide) (by rw [← e]; exact hk.symm)) u0 u1 u2 u3 u4 u5 u6)
  have HH := Aside0.mk (H1.fill7 HH.out (by decide) (by decide) (.int .i64 (rV b (rA b s 4) 2)) (.int .i64 (rV b (rA b (rA b s 4) 2) 2)) (.int .i64 (rV b (rA b (rA b (rA b s 4) 2) 2) 2)) (.int .i64 (rV b (rA b (rA b (rA b (rA b s 4) 2) 2) 2) 2)) (.int .u32 (rV b (rA b (rA b (rA b (rA b (rA b s 4) 2) 2) 2) 2) 4)) (.int .u32 (rV b (rA b (rA b (rA b (rA b (rA b (rA b s 4) 2) 2) 2) 2) 4) 4)) (.slice A9 (rL b (rA b (rA b (rA b (rA b (rA b (rA b (rA b (rA b s 4) 2) 2) 2) 2) 4) 4) 2) (rV b (rA b (rA b (rA b (rA b (rA b (rA b (rA b s 4) 2) 2) 2) 2) 4) 4) 2)).length c9))
  refine bodyPost_ret (results_ct rfl _ _ w.heap.size 29 _ (0, 0) _ rfl HH.out.r2 Try.underlying29 rfl (by kernel_rfl)) rfl ?_
  have HOW := own_C (hown (.int .i64 (rV b (rA b s 4) 2)) (.int .i64 (rV b (rA b (rA b s 4) 2) 2)) (.int .i64 (rV b (rA b (rA b (rA b s 4) 2) 2) 2)) (.int .i64 (rV b (rA b (rA b (rA b (rA b s 4) 2) 2) 2) 2)) (.int .u32 (rV b (rA b (rA b (rA b (rA b (rA b s 4) 2) 2) 2) 2) 4)) (.int .u32 (rV b (rA b (rA b (rA b (rA b (rA b (rA b s 4) 2) 2) 2) 2) 4) 4)) (.slice A9 (rL b (rA b (rA b (rA b (rA b (rA b (rA b (rA b (rA b s 4) 2) 2) 2) 2) 4) 4) 2) (rV b (rA b (rA b (rA b (rA b (rA b (rA b (rA b s 4) 2) 2) 2) 2) 4) 4) 2)).length c9))
  exact ⟨A9, c9, ⟨rfl, HH.out.cs, HH.out.kk⟩, HOW.2.1, HOW.2.2.1⟩
end Go.Proofs.Ytpmiofjhgmdghaa.Fld
