/- record: the reference's ReadEnd, walked. -/
import Derived.Test.YtpmiofjhgmdghaaRecRef1
namespace Go.Proofs.Ytpmiofjhgmdghaa.Fld
open Go.RowKit Go.Proofs.YtpmiofjhgmdghaaW.PrintWords Go.Proofs.YtpmiofjhgmdghaaW.PrintLast Go.Proofs.YtpmiofjhgmdghaaW.PrintMore
set_option linter.unusedVariables false
set_option linter.unusedSimpArgs false
theorem alloc_fill7 {w W : World} {t : Nat} {c0 c1 c2 c3 c4 c5 c6 : Value} (hw : w.heap.size < W.heap.size) (u0 u1 u2 u3 u4 u5 u6 : Value) : ((((((((W.alloc (.cells #[c0, c1, c2, c3, c4, c5, c6] t)).setCell ⟨W.heap.size, 0, none⟩ u0).setCell ⟨W.heap.size, 1, none⟩ u1).setCell ⟨W.heap.size, 2, none⟩ u2).setCell ⟨W.heap.size, 3, none⟩ u3).setCell ⟨W.heap.size, 4, none⟩ u4).setCell ⟨W.heap.size, 5, none⟩ u5).setCell ⟨W.heap.size, 6, none⟩ u6).heap[W.heap.size]? = some (.cells #[u0, u1, u2, u3, u4, u5, u6] t (0, 0)) ∧ Below W.heap.size W ((((((((W.alloc (.cells #[c0, c1, c2, c3, c4, c5, c6] t)).setCell ⟨W.heap.size, 0, none⟩ u0).setCell ⟨W.heap.size, 1, none⟩ u1).setCell ⟨W.heap.size, 2, none⟩ u2).setCell ⟨W.heap.size, 3, none⟩ u3).setCell ⟨W.heap.size, 4, none⟩ u4).setCell ⟨W.heap.size, 5, none⟩ u5).setCell ⟨W.heap.size, 6, none⟩ u6) := by
  have h0 := heap_alloc_new W (.cells #[c0, c1, c2, c3, c4, c5, c6] t)
  refine ⟨?_, ?_⟩
  · have hc := (blk_set (blk_set (blk_set (blk_set (blk_set (blk_set (blk_set h0 0 u0) 1 u1) 2 u2) 3 u3) 4 u4) 5 u5) 6 u6)
    simp only [List.setIfInBounds_toArray, List.set_cons_zero, List.set_cons_succ] at hc
    exact hc
  · exact (Below.setCell (Below.setCell (Below.setCell (Below.setCell (Below.setCell (Below.setCell (Below.setCell (below_alloc (Below.refl _ _) _) (p := ⟨W.heap.size, 0, none⟩) (Nat.le_refl _) u0) (p := ⟨W.heap.size, 1, none⟩) (Nat.le_refl _) u1) (p := ⟨W.heap.size, 2, none⟩) (Nat.le_refl _) u2) (p := ⟨W.heap.size, 3, none⟩) (Nat.le_refl _) u3) (p := ⟨W.heap.size, 4, none⟩) (Nat.le_refl _) u4) (p := ⟨W.heap.size, 5, none⟩) (Nat.le_refl _) u5) (p := ⟨W.heap.size, 6, none⟩) (Nat.le_refl _) u6)
theorem alloc_fill16 {w W : World} {t : Nat} {c0 c1 c2 c3 c4 c5 c6 c7 c8 c9 c10 c11 c12 c13 c14 c15 : Value} (hw : w.heap.size < W.heap.size) (u0 u1 u2 u3 u4 u5 u6 u7 u8 u9 u10 u11 u12 u13 u14 u15 : Value) : (((((((((((((((((W.alloc (.cells #[c0, c1, c2, c3, c4, c5, c6, c7, c8, c9, c10, c11, c12, c13, c14, c15] t)).setCell ⟨W.heap.size, 0, none⟩ u0).setCell ⟨W.heap.size, 1, none⟩ u1).setCell ⟨W.heap.size, 2, none⟩ u2).setCell ⟨W.heap.size, 3, none⟩ u3).setCell ⟨W.heap.size, 4, none⟩ u4).setCell ⟨W.heap.size, 5, none⟩ u5).setCell ⟨W.heap.size, 6, none⟩ u6).setCell ⟨W.heap.size, 7, none⟩ u7).setCell ⟨W.heap.size, 8, none⟩ u8).setCell ⟨W.heap.size, 9, none⟩ u9).setCell ⟨W.heap.size, 10, none⟩ u10).setCell ⟨W.heap.size, 11, none⟩ u11).setCell ⟨W.heap.size, 12, none⟩ u12).setCell ⟨W.heap.size, 13, none⟩ u13).setCell ⟨W.heap.size, 14, none⟩ u14).setCell ⟨W.heap.size, 15, none⟩ u15).heap[W.heap.size]? = some (.cells #[u0, u1, u2, u3, u4, u5, u6, u7, u8, u9, u10, u11, u12, u13, u14, u15] t (0, 0)) ∧ Below W.heap.size W (((((((((((((((((W.alloc (.cells #[c0, c1, c2, c3, c4, c5, c6, c7, c8, c9, c10, c11, c12, c13, c14, c15] t)).setCell ⟨W.heap.size, 0, none⟩ u0).setCell ⟨W.heap.size, 1, none⟩ u1).setCell ⟨W.heap.size, 2, none⟩ u2).setCell ⟨W.heap.size, 3, none⟩ u3).setCell ⟨W.heap.size, 4, none⟩ u4).setCell ⟨W.heap.size, 5, none⟩ u5).setCell ⟨W.heap.size, 6, none⟩ u6).setCell ⟨W.heap.size, 7, none⟩ u7).setCell ⟨W.heap.size, 8, none⟩ u8).setCell ⟨W.heap.size, 9, none⟩ u9).setCell ⟨W.heap.size, 10, none⟩ u10).setCell ⟨W.heap.size, 11, none⟩ u11).setCell ⟨W.heap.size, 12, none⟩ u12).setCell ⟨W.heap.size, 13, none⟩ u13).setCell ⟨W.heap.size, 14, none⟩ u14).setCell ⟨W.heap.size, 15, none⟩ u15) := by
  have h0 := heap_alloc_new W (.cells #[c0, c1, c2, c3, c4, c5, c6, c7, c8, c9, c10, c11, c12, c13, c14, c15] t)
  refine ⟨?_, ?_⟩
  · have hc := (blk_set (blk_set (blk_set (blk_set (blk_set (blk_set (blk_set (blk_set (blk_set (blk_set (blk_set (blk_set (blk_set (blk_set (blk_set (blk_set h0 0 u0) 1 u1) 2 u2) 3 u3) 4 u4) 5 u5) 6 u6) 7 u7) 8 u8) 9 u9) 10 u10) 11 u11) 12 u12) 13 u13) 14 u14) 15 u15)
    simp only [List.setIfInBounds_toArray, List.set_cons_zero, List.set_cons_succ] at hc
    exact hc
  · exact (Below.setCell (Below.setCell (Below.setCell (Below.setCell (Below.setCell (Below.setCell (Below.setCell (Below.setCell (Below.setCell (Below.setCell (Below.setCell (Below.setCell (Below.setCell (Below.setCell (Below.setCell (Below.setCell (below_alloc (Below.refl _ _) _) (p := ⟨W.heap.size, 0, none⟩) (Nat.le_refl _) u0) (p := ⟨W.heap.size, 1, none⟩) (Nat.le_refl _) u1) (p := ⟨W.heap.size, 2, none⟩) (Nat.le_refl _) u2) (p := ⟨W.heap.size, 3, none⟩) (Nat.le_refl _) u3) (p := ⟨W.heap.size, 4, none⟩) (Nat.le_refl _) u4) (p := ⟨W.heap.size, 5, none⟩) (Nat.le_refl _) u5) (p := ⟨W.heap.size, 6, none⟩) (Nat.le_refl _) u6) (p := ⟨W.heap.size, 7, none⟩) (Nat.le_refl _) u7) (p := ⟨W.heap.size, 8, none⟩) (Nat.le_refl _) u8) (p := ⟨W.heap.size, 9, none⟩) (Nat.le_refl _) u9) (p := ⟨W.heap.size, 10, none⟩) (Nat.le_refl _) u10) (p := ⟨W.heap.size, 11, none⟩) (Nat.le_refl _) u11) (p := ⟨W.heap.size, 12, none⟩) (Nat.le_refl _) u12) (p := ⟨W.heap.size, 13, none⟩) (Nat.le_refl _) u13) (p := ⟨W.heap.size, 14, none⟩) (Nat.le_refl _) u14) (p := ⟨W.heap.size, 15, none⟩) (Nat.le_refl _) u15)
theorem blk_fill7 {W : World} {bx t : Nat} {c0 c1 c2 c3 c4 c5 c6 : Value} (h : W.heap[bx]? = some (.cells #[c0, c1, c2, c3, c4, c5, c6] t (0, 0))) (u0 u1 u2 u3 u4 u5 u6 : Value) : (((((((W.setCell ⟨bx, 0, none⟩ u0).setCell ⟨bx, 1, none⟩ u1).setCell ⟨bx, 2, none⟩ u2).setCell ⟨bx, 3, none⟩ u3).setCell ⟨bx, 4, none⟩ u4).setCell ⟨bx, 5, none⟩ u5).setCell ⟨bx, 6, none⟩ u6).heap[bx]? = some (.cells #[u0, u1, u2, u3, u4, u5, u6] t (0, 0)) := by
  have hc := (blk_set (blk_set (blk_set (blk_set (blk_set (blk_set (blk_set h 0 u0) 1 u1) 2 u2) 3 u3) 4 u4) 5 u5) 6 u6)
  simp only [List.setIfInBounds_toArray, List.set_cons_zero, List.set_cons_succ] at hc
  exact hc
theorem HR.far7 {w0 w W : World} {g : Nat} {A : Option Addr} {c : Nat} {b : List Int} {s : Sta} {t : Nat} {C : Array Value} (h : HR w0 w W g A c b s t C) {bx : Nat} (hb : w.heap.size < bx) (u0 u1 u2 u3 u4 u5 u6 : Value) : HR w0 w (((((((W.setCell ⟨bx, 0, none⟩ u0).setCell ⟨bx, 1, none⟩ u1).setCell ⟨bx, 2, none⟩ u2).setCell ⟨bx, 3, none⟩ u3).setCell ⟨bx, 4, none⟩ u4).setCell ⟨bx, 5, none⟩ u5).setCell ⟨bx, 6, none⟩ u6) g A c b s t C :=
  (HR.far (HR.far (HR.far (HR.far (HR.far (HR.far (HR.far h hb 0 u0) hb 1 u1) hb 2 u2) hb 3 u3) hb 4 u4) hb 5 u5) hb 6 u6)
theorem own_far7 {W : World} {base n bx t : Nat} {v : Value} {xs : List Value} {cs : Array Value} (h : W.ownsRow base 5 1 v n xs) (hg : W.heap[bx]? = some (.cells cs t (0, 0))) (ht : 5 ≠ t) (u0 u1 u2 u3 u4 u5 u6 : Value) : (((((((W.setCell ⟨bx, 0, none⟩ u0).setCell ⟨bx, 1, none⟩ u1).setCell ⟨bx, 2, none⟩ u2).setCell ⟨bx, 3, none⟩ u3).setCell ⟨bx, 4, none⟩ u4).setCell ⟨bx, 5, none⟩ u5).setCell ⟨bx, 6, none⟩ u6).ownsRow base 5 1 v n xs := by
  have hne := own_ne h hg ht
  exact (own_setCell (own_setCell (own_setCell (own_setCell (own_setCell (own_setCell (own_setCell h (p := ⟨bx, 0, none⟩) hne u0) (p := ⟨bx, 1, none⟩) hne u1) (p := ⟨bx, 2, none⟩) hne u2) (p := ⟨bx, 3, none⟩) hne u3) (p := ⟨bx, 4, none⟩) hne u4) (p := ⟨bx, 5, none⟩) hne u5) (p := ⟨bx, 6, none⟩) hne u6)
theorem blk_fill16 {W : World} {bx t : Nat} {c0 c1 c2 c3 c4 c5 c6 c7 c8 c9 c10 c11 c12 c13 c14 c15 : Value} (h : W.heap[bx]? = some (.cells #[c0, c1, c2, c3, c4, c5, c6, c7, c8, c9, c10, c11, c12, c13, c14, c15] t (0, 0))) (u0 u1 u2 u3 u4 u5 u6 u7 u8 u9 u10 u11 u12 u13 u14 u15 : Value) : ((((((((((((((((W.setCell ⟨bx, 0, none⟩ u0).setCell ⟨bx, 1, none⟩ u1).setCell ⟨bx, 2, none⟩ u2).setCell ⟨bx, 3, none⟩ u3).setCell ⟨bx, 4, none⟩ u4).setCell ⟨bx, 5, none⟩ u5).setCell ⟨bx, 6, none⟩ u6).setCell ⟨bx, 7, none⟩ u7).setCell ⟨bx, 8, none⟩ u8).setCell ⟨bx, 9, none⟩ u9).setCell ⟨bx, 10, none⟩ u10).setCell ⟨bx, 11, none⟩ u11).setCell ⟨bx, 12, none⟩ u12).setCell ⟨bx, 13, none⟩ u13).setCell ⟨bx, 14, none⟩ u14).setCell ⟨bx, 15, none⟩ u15).heap[bx]? = some (.cells #[u0, u1, u2, u3, u4, u5, u6, u7, u8, u9, u10, u11, u12, u13, u14, u15] t (0, 0)) := by
  have hc := (blk_set (blk_set (blk_set (blk_set (blk_set (blk_set (blk_set (blk_set (blk_set (blk_set (blk_set (blk_set (blk_set (blk_set (blk_set (blk_set h 0 u0) 1 u1) 2 u2) 3 u3) 4 u4) 5 u5) 6 u6) 7 u7) 8 u8) 9 u9) 10 u10) 11 u11) 12 u12) 13 u13) 14 u14) 15 u15)
  simp only [List.setIfInBounds_toArray, List.set_cons_zero, List.set_cons_succ] at hc
  exact hc
theorem HR.far16 {w0 w W : World} {g : Nat} {A : Option Addr} {c : Nat} {b : List Int} {s : Sta} {t : Nat} {C : Array Value} (h : HR w0 w W g A c b s t C) {bx : Nat} (hb : w.heap.size < bx) (u0 u1 u2 u3 u4 u5 u6 u7 u8 u9 u10 u11 u12 u13 u14 u15 : Value) : HR w0 w ((((((((((((((((W.setCell ⟨bx, 0, none⟩ u0).setCell ⟨bx, 1, none⟩ u1).setCell ⟨bx, 2, none⟩ u2).setCell ⟨bx, 3, none⟩ u3).setCell ⟨bx, 4, none⟩ u4).setCell ⟨bx, 5, none⟩ u5).setCell ⟨bx, 6, none⟩ u6).setCell ⟨bx, 7, none⟩ u7).setCell ⟨bx, 8, none⟩ u8).setCell ⟨bx, 9, none⟩ u9).setCell ⟨bx, 10, none⟩ u10).setCell ⟨bx, 11, none⟩ u11).setCell ⟨bx, 12, none⟩ u12).setCell ⟨bx, 13, none⟩ u13).setCell ⟨bx, 14, none⟩ u14).setCell ⟨bx, 15, none⟩ u15) g A c b s t C :=
  (HR.far (HR.far (HR.far (HR.far (HR.far (HR.far (HR.far (HR.far (HR.far (HR.far (HR.far (HR.far (HR.far (HR.far (HR.far (HR.far h hb 0 u0) hb 1 u1) hb 2 u2) hb 3 u3) hb 4 u4) hb 5 u5) hb 6 u6) hb 7 u7) hb 8 u8) hb 9 u9) hb 10 u10) hb 11 u11) hb 12 u12) hb 13 u13) hb 14 u14) hb 15 u15)
theorem own_far16 {W : World} {base n bx t : Nat} {v : Value} {xs : List Value} {cs : Array Value} (h : W.ownsRow base 5 1 v n xs) (hg : W.heap[bx]? = some (.cells cs t (0, 0))) (ht : 5 ≠ t) (u0 u1 u2 u3 u4 u5 u6 u7 u8 u9 u10 u11 u12 u13 u14 u15 : Value) : ((((((((((((((((W.setCell ⟨bx, 0, none⟩ u0).setCell ⟨bx, 1, none⟩ u1).setCell ⟨bx, 2, none⟩ u2).setCell ⟨bx, 3, none⟩ u3).setCell ⟨bx, 4, none⟩ u4).setCell ⟨bx, 5, none⟩ u5).setCell ⟨bx, 6, none⟩ u6).setCell ⟨bx, 7, none⟩ u7).setCell ⟨bx, 8, none⟩ u8).setCell ⟨bx, 9, none⟩ u9).setCell ⟨bx, 10, none⟩ u10).setCell ⟨bx, 11, none⟩ u11).setCell ⟨bx, 12, none⟩ u12).setCell ⟨bx, 13, none⟩ u13).setCell ⟨bx, 14, none⟩ u14).setCell ⟨bx, 15, none⟩ u15).ownsRow base 5 1 v n xs := by
  have hne := own_ne h hg ht
  exact (own_setCell (own_setCell (own_setCell (own_setCell (own_setCell (own_setCell (own_setCell (own_setCell (own_setCell (own_setCell (own_setCell (own_setCell (own_setCell (own_setCell (own_setCell (own_setCell h (p := ⟨bx, 0, none⟩) hne u0) (p := ⟨bx, 1, none⟩) hne u1) (p := ⟨bx, 2, none⟩) hne u2) (p := ⟨bx, 3, none⟩) hne u3) (p := ⟨bx, 4, none⟩) hne u4) (p := ⟨bx, 5, none⟩) hne u5) (p := ⟨bx, 6, none⟩) hne u6) (p := ⟨bx, 7, none⟩) hne u7) (p := ⟨bx, 8, none⟩) hne u8) (p := ⟨bx, 9, none⟩) hne u9) (p := ⟨bx, 10, none⟩) hne u10) (p := ⟨bx, 11, none⟩) hne u11) (p := ⟨bx, 12, none⟩) hne u12) (p := ⟨bx, 13, none⟩) hne u13) (p := ⟨bx, 14, none⟩) hne u14) (p := ⟨bx, 15, none⟩) hne u15)
/-- a piece of what is read -/
theorem sliceK (A : Option Addr) (b : List Int) (lo hi : Int) (a m c : Nat) (hlo : lo = (a : Int)) (hhi : hi = ((a + m : Nat) : Int)) (hc : b.length ≤ c) (h : a + m ≤ b.length) (p : List Int) (hp : (b.take (a + m)).drop a = p) :
    ∃ (A' : Option Addr) (c' : Nat), (∀ W : World, (Instr.slice 22 (.slice A b.length c) (some (.int .i64 lo)) (some (.int .i64 hi)) none).run Try.prog W = .ok (.slice A' m c') W) ∧ ∀ W : World, Rd W A b c → Rd W A' p c' ∧ p.length = m := by
  subst hlo; subst hhi
  obtain ⟨A', c', h1, h2, h3⟩ := sliced2 A b a m c hc h
  have e : (b.take (a + m)).drop a = (b.drop a).take m := by rw [List.drop_take, show a + m - a = m by omega]
  have hl : p.length = m := by rw [← hp, e, List.length_take, List.length_drop]; omega
  refine ⟨A', c', h1, fun W hW => ⟨⟨?_, by rw [hl]; exact h2.out⟩, hl⟩⟩
  have h9 := h3.out W hW.1
  rw [← e, hp] at h9
  rw [hl]; exact h9
theorem num_at {W : World} {A : Option Addr} {p : List Int} {c m : Nat} {x : Int} (h : Rd W A p c) (hl : p.length = m) (hx : Go.Proofs.Ytpmiofjhgmdghaa.RQ.duffelref02_Num.f 10 p = some x) :
    Calls Try.prog 40 #[.slice A m c] W (fun r w' => r = .returned (.int .u32 x) ∧ Drawn0 W w') := by
  subst hl
  exact Go.Proofs.Ytpmiofjhgmdghaa.RQ.duffelref02_Num.calls 10 A c p x W h.1 h.2 hx
set_option maxHeartbeats 8000000 in
set_option maxRecDepth 100000 in
theorem ref_readEnd_sign (w0 w : World) (g : Nat) (A : Option Addr) (c : Nat) (b : List Int) (s : Sta) (h : RS0 w0 w g A c b s) (hb : ∀ x ∈ b, 0 ≤ x ∧ x ≤ 255) (E : Int) (hE : sgE b s 101010256 = E) (he : E ≠ 0) :
    Calls Try.prog 35 #[.pointer (some ⟨g, 0, none⟩)] w (RfPost w0 w g A c b (rA b s 4) #[.int .i64 0, .int .i64 0, .int .i64 0, .int .i64 0, .int .u32 0, .int .u32 0, .slice none 0 0] E) := by
  have HH : Aside0 (HR w0 w (w.alloc (.cells #[.int .i64 0, .int .i64 0, .int .i64 0, .int .i64 0, .int .u32 0, .int .u32 0, .slice none 0 0] 29)) g A c b s 29 #[.int .i64 0, .int .i64 0, .int .i64 0, .int .i64 0, .int .u32 0, .int .u32 0, .slice none 0 0]) := ⟨HR.start h _ _⟩
  have HSG : Aside0 (∀ W, RS0 w0 W g A c b s → Calls Try.prog 58 #[.pointer (some ⟨g, 0, none⟩), .int .u32 101010256] W (SgPost w0 W g A c b (rA b s 4) E)) := ⟨fun W hW => hE ▸ ref_sign w0 W g A c b s 101010256 hW hb⟩
  have c1 : decide (E = 0) = false := decide_eq_false he
  have c2 : (E == 0) = false := beq_eq_false_iff_ne.mpr he
  have c3 : (E != 0) = true := by simp [he]
  clear h hb hE he
  go_enter Try.func35, Try.ntmps35
  go_wp2_with (go_at_call 58; (with_reducible refine (HSG.out _ HH.out.rs).mono ?_); rintro r w9 ⟨rfl, hc, hk⟩; replace HH := Aside0.mk (HH.out.op hc hk); clear hc hk; have hp0 : w9.cell? ⟨w.heap.size, 0, none⟩ = some (.int .i64 0) := (blk_cell HH.out.r2 0).trans rfl; have fp0 : w9.frozen? ⟨w.heap.size, 0, none⟩ = false := blk_frozen HH.out.r2 0; have hp1 : w9.cell? ⟨w.heap.size, 1, none⟩ = some (.int .i64 0) := (blk_cell HH.out.r2 1).trans rfl; have fp1 : w9.frozen? ⟨w.heap.size, 1, none⟩ = false := blk_frozen HH.out.r2 1; have hp2 : w9.cell? ⟨w.heap.size, 2, none⟩ = some (.int .i64 0) := (blk_cell HH.out.r2 2).trans rfl; have fp2 : w9.frozen? ⟨w.heap.size, 2, none⟩ = false := blk_frozen HH.out.r2 2; have hp3 : w9.cell? ⟨w.heap.size, 3, none⟩ = some (.int .i64 0) := (blk_cell HH.out.r2 3).trans rfl; have fp3 : w9.frozen? ⟨w.heap.size, 3, none⟩ = false := blk_frozen HH.out.r2 3; have hp4 : w9.cell? ⟨w.heap.size, 4, none⟩ = some (.int .u32 0) := (blk_cell HH.out.r2 4).trans rfl; have fp4 : w9.frozen? ⟨w.heap.size, 4, none⟩ = false := blk_frozen HH.out.r2 4; have hp5 : w9.cell? ⟨w.heap.size, 5, none⟩ = some (.int .u32 0) := (blk_cell HH.out.r2 5).trans rfl; have fp5 : w9.frozen? ⟨w.heap.size, 5, none⟩ = false := blk_frozen HH.out.r2 5; have hp6 : w9.cell? ⟨w.heap.size, 6, none⟩ = some (.slice none 0 0) := (blk_cell HH.out.r2 6).trans rfl; have fp6 : w9.frozen? ⟨w.heap.size, 6, none⟩ = false := blk_frozen HH.out.r2 6)
  replace HH := Aside0.mk (HH.out.fill7 (.int .i64 0) (.int .i64 0) (.int .i64 0) (.int .i64 0) (.int .u32 0) (.int .u32 0) (.slice none 0 0))
  refine bodyPost_ret (results_ct rfl _ _ w.heap.size 29 _ (0, 0) _ rfl HH.out.r2 Try.underlying29 rfl (by kernel_rfl)) rfl ?_
  exact ⟨rfl, HH.out.rs, HH.out.kk⟩
set_option maxHeartbeats 8000000 in
set_option maxRecDepth 100000 in
theorem ref_readEnd_err (w0 w : World) (g : Nat) (A : Option Addr) (c : Nat) (b : List Int) (s : Sta) (h : RS0 w0 w g A c b s) (hb : ∀ x ∈ b, 0 ≤ x ∧ x ≤ 255) (hE : sgE b s 101010256 = 0) (q0 q1 q2 q3 q4 q5 q6 q7 t1 : Sta) (x1 x2 x3 x4 x5 x6 x7 : Int) (hs1 : rA b s 4 = q0) (e1 : rA b q0 2 = q1) (v1 : rV b q0 2 = x1) (e2 : rA b q1 2 = q2) (v2 : rV b q1 2 = x2) (e3 : rA b q2 2 = q3) (v3 : rV b q2 2 = x3) (e4 : rA b q3 2 = q4) (v4 : rV b q3 2 = x4) (e5 : rA b q4 4 = q5) (v5 : rV b q4 4 = x5) (e6 : rA b q5 4 = q6) (v6 : rV b q5 4 = x6) (e7 : rA b q6 2 = q7) (v7 : rV b q6 2 = x7) (D1 : List Int) (k1 : rL b q7 x7 = D1) (j1 : rA b q7 x7 = t1) (EZ : Int) (h5 : t1.2 = EZ) (he : EZ ≠ 0) :
    Calls Try.prog 35 #[.pointer (some ⟨g, 0, none⟩)] w (RfPost w0 w g A c b t1 #[.int .i64 0, .int .i64 0, .int .i64 0, .int .i64 0, .int .u32 0, .int .u32 0, .slice none 0 0] EZ) := by
  have HH : Aside0 (HR w0 w (w.alloc (.cells #[.int .i64 0, .int .i64 0, .int .i64 0, .int .i64 0, .int .u32 0, .int .u32 0, .slice none 0 0] 29)) g A c b s 29 #[.int .i64 0, .int .i64 0, .int .i64 0, .int .i64 0, .int .u32 0, .int .u32 0, .slice none 0 0]) := ⟨HR.start h _ _⟩
  have HSG : Aside0 (∀ W, RS0 w0 W g A c b s → Calls Try.prog 58 #[.pointer (some ⟨g, 0, none⟩), .int .u32 101010256] W (SgPost w0 W g A c b q0 0)) := ⟨fun W hW => by have h9 := ref_sign w0 W g A c b s 101010256 hW hb; rw [hs1, hE] at h9; exact h9⟩
  have hP := enP hb e1 v1 e2 v2 e3 v3 e4 v4 e5 v5 e6 v6 e7 v7
  obtain ⟨D, hD⟩ : ∃ D, (tkN b q0 [2, 2, 2, 2, 4, 4, 2] 7).1 = D := ⟨_, rfl⟩
  have HTK : Aside0 (∀ W base A1 c1, RS0 w0 W g A c b q0 → W.ownsRow base 3 1 (.slice A1 7 c1) 7 (nums .i64 [2, 2, 2, 2, 4, 4, 2]) → Calls Try.prog 59 #[.pointer (some ⟨g, 0, none⟩), .slice A1 7 c1] W (fun r w' => ∃ A5 c5, r = .returned (.slice A5 D.length c5) ∧ w'.ownsRow W.heap.size 5 1 (.slice A5 D.length c5) D.length (nums .u8 D) ∧ RS0 w0 w' g A c b q7 ∧ Kept W w' (fun k => k = g))) := ⟨fun W base A1 c1 hW hz => by
    have h9 := ref_take w0 W g A c b q0 [2, 2, 2, 2, 4, 4, 2] A1 c1 base hW hz (by simp)
    rw [show ([2, 2, 2, 2, 4, 4, 2] : List Int).length = 7 from rfl, hD, hP.1] at h9
    exact h9⟩
  have HB1 : Aside0 (∀ W, RS0 w0 W g A c b q7 → Calls Try.prog 32 #[.pointer (some ⟨g, 0, none⟩), .int .i64 x7] W (fun r w' => ∃ A1 c1, r = .returned (.slice A1 D1.length c1) ∧ w'.ownsRow W.heap.size 5 1 (.slice A1 D1.length c1) D1.length (nums .u8 D1) ∧ RS0 w0 w' g A c b t1 ∧ Kept W w' (fun k => k = g))) := ⟨fun W hW => k1 ▸ j1 ▸ rs_take hW x7⟩
  have HST : Aside0 (q7.2 ≠ 0 → t1 = q7) := ⟨fun h => by
    have g1 : t1 = q7 := by rw [← j1]; exact rA_stuck h
    exact g1⟩
  have HPP := Aside0.mk hP.2
  rw [hD] at HPP
  have HE2 := Aside0.mk h5
  clear h hb hE hs1 hP hD h5 e1 v1 e2 v2 e3 v3 e4 v4 e5 v5 e6 v6 e7 v7 k1 j1
  have c1 : decide (EZ = 0) = false := decide_eq_false he
  have c2 : (EZ == 0) = false := beq_eq_false_iff_ne.mpr he
  have c3 : (EZ != 0) = true := by simp [he]
  have HNE := Aside0.mk he
  clear he
  obtain ⟨aH, eH⟩ := q7
  go_enter Try.func35, Try.ntmps35
  go_upto_if 20 with (first
    | (go_at_call 58; (with_reducible refine (HSG.out _ HH.out.rs).mono ?_); rintro r w9 ⟨rfl, hc, hk⟩; replace HH := Aside0.mk (HH.out.op hc hk); clear hc hk)
    | ((with_reducible refine gate_dst (N := 14) rfl ?_); (try (refine gate_guard (by rfl) ?_; dsimp only)); refine Kd.R_lit (Kd.int .i64) _ 3 ?hg (N := 14) ?hd (xs := ([2, 2, 2, 2, 4, 4, 2] : List Int)) (inner := [.int .i64 2, .int .i64 2, .int .i64 2, .int .i64 2, .int .i64 4, .int .i64 4, .int .i64 2]) (ok := fun _ => True) (okp := fun _ => True) ?hr ?hp (fun _ hk => hk) trivial (Below.refl _ _) (Nat.le_refl _) (by simp) ?_; (case hd => rfl); (case hg => rfl); (case hr => first | (go_simp; done) | (go_simp; rfl)); (case hp => exact (Reps.one (show Kd.M (Kd.int .i64) _ _ _ 2 [.int .i64 2] from rfl) (Reps.one (show Kd.M (Kd.int .i64) _ _ _ 2 [.int .i64 2] from rfl) (Reps.one (show Kd.M (Kd.int .i64) _ _ _ 2 [.int .i64 2] from rfl) (Reps.one (show Kd.M (Kd.int .i64) _ _ _ 2 [.int .i64 2] from rfl) (Reps.one (show Kd.M (Kd.int .i64) _ _ _ 4 [.int .i64 4] from rfl) (Reps.one (show Kd.M (Kd.int .i64) _ _ _ 4 [.int .i64 4] from rfl) (Reps.one (show Kd.M (Kd.int .i64) _ _ _ 2 [.int .i64 2] from rfl) (Reps.none _ _))))))))); intro v1 w1 ho hb hg_ hnew_; have HZ := Aside0.mk (Kd.own_of_R ho); obtain ⟨A1, c1, rfl⟩ := own_slice HZ.out; replace HH := Aside0.mk (HH.out.bel hb); clear ho hb hg_ hnew_)
    | (go_at_call 59; (with_reducible refine (HTK.out _ _ _ _ HH.out.rs HZ.out).mono ?_); rintro r w9 ⟨A5, c5, rfl, ho, hc, hk⟩; have HOD := Aside0.mk (own_weaken ho HH.out.kk.1); replace HH := Aside0.mk (HH.out.op hc hk); have ce : w9.cell? ⟨g, 2, none⟩ = some (.int .i64 eH) := (blk_cell hc.blk 2).trans rfl; clear ho hc hk)
    | fail)
  by_cases heH : eH = 0
  · subst heH
    obtain ⟨D0, hD0, hDl, hDb, r0, r1, r2, r3, r4, r5, r6⟩ := HPP.out rfl
    subst hD0
    clear HPP
    have HA0 : Aside0 (∀ W, Rd W A5 D c5 → Calls Try.prog 41 #[.slice A5 D.length c5, .int .i64 0] W (fun r w' => r = .returned (.int .i64 x1) ∧ Below W.heap.size W w')) := ⟨fun W hW => (Go.Proofs.Ytpmiofjhgmdghaa.RQ.duffelref24_at.calls 10 A5 c5 D 0 x1 W hW.1 hW.2 r0).mono (fun _ _ h => ⟨h.1, h.2.below⟩)⟩
    have HA1 : Aside0 (∀ W, Rd W A5 D c5 → Calls Try.prog 41 #[.slice A5 D.length c5, .int .i64 2] W (fun r w' => r = .returned (.int .i64 x2) ∧ Below W.heap.size W w')) := ⟨fun W hW => (Go.Proofs.Ytpmiofjhgmdghaa.RQ.duffelref24_at.calls 10 A5 c5 D 2 x2 W hW.1 hW.2 r1).mono (fun _ _ h => ⟨h.1, h.2.below⟩)⟩
    have HA2 : Aside0 (∀ W, Rd W A5 D c5 → Calls Try.prog 41 #[.slice A5 D.length c5, .int .i64 4] W (fun r w' => r = .returned (.int .i64 x3) ∧ Below W.heap.size W w')) := ⟨fun W hW => (Go.Proofs.Ytpmiofjhgmdghaa.RQ.duffelref24_at.calls 10 A5 c5 D 4 x3 W hW.1 hW.2 r2).mono (fun _ _ h => ⟨h.1, h.2.below⟩)⟩
    have HA3 : Aside0 (∀ W, Rd W A5 D c5 → Calls Try.prog 41 #[.slice A5 D.length c5, .int .i64 6] W (fun r w' => r = .returned (.int .i64 x4) ∧ Below W.heap.size W w')) := ⟨fun W hW => (Go.Proofs.Ytpmiofjhgmdghaa.RQ.duffelref24_at.calls 10 A5 c5 D 6 x4 W hW.1 hW.2 r3).mono (fun _ _ h => ⟨h.1, h.2.below⟩)⟩
    have HA4 : Aside0 (∀ W, Rd W A5 D c5 → Calls Try.prog 41 #[.slice A5 D.length c5, .int .i64 16] W (fun r w' => r = .returned (.int .i64 x7) ∧ Below W.heap.size W w')) := ⟨fun W hW => (Go.Proofs.Ytpmiofjhgmdghaa.RQ.duffelref24_at.calls 10 A5 c5 D 16 x7 W hW.1 hW.2 r4).mono (fun _ _ h => ⟨h.1, h.2.below⟩)⟩
    obtain ⟨p5, hp5⟩ : ∃ p, (D.take 12).drop 8 = p := ⟨_, rfl⟩
    rw [hp5] at r5
    obtain ⟨N5, d5, hs5, hr5⟩ := sliceK A5 D 8 12 8 4 c5 rfl rfl (own_C HOD.out).2.2.1 (by omega) p5 hp5
    have HN5 : Aside0 (∀ W, Rd W A5 D c5 → Calls Try.prog 40 #[.slice N5 4 d5] W (fun r w' => r = .returned (.int .u32 x5) ∧ Below W.heap.size W w')) := ⟨fun W hW => (num_at (hr5 W hW).1 (hr5 W hW).2 r5).mono (fun _ _ h => ⟨h.1, h.2.below⟩)⟩
    clear hr5 hp5
    obtain ⟨p6, hp6⟩ : ∃ p, (D.take 16).drop 12 = p := ⟨_, rfl⟩
    rw [hp6] at r6
    obtain ⟨N6, d6, hs6, hr6⟩ := sliceK A5 D 12 16 12 4 c5 rfl rfl (own_C HOD.out).2.2.1 (by omega) p6 hp6
    have HN6 : Aside0 (∀ W, Rd W A5 D c5 → Calls Try.prog 40 #[.slice N6 4 d6] W (fun r w' => r = .returned (.int .u32 x6) ∧ Below W.heap.size W w')) := ⟨fun W hW => (num_at (hr6 W hW).1 (hr6 W hW).2 r6).mono (fun _ _ h => ⟨h.1, h.2.below⟩)⟩
    clear hr6 hp6
    clear hDb hDl
    refine wp_gen (fun W => HR w0 w W g A c b (aH, 0) 29 #[.int .i64 0, .int .i64 0, .int .i64 0, .int .i64 0, .int .u32 0, .int .u32 0, .slice none 0 0] ∧ W.ownsRow w.heap.size 5 1 (.slice A5 D.length c5) D.length (nums .u8 D)) ⟨HH.out, HOD.out⟩ ?_
    rintro w7 ⟨hh, hod⟩
    have HH0 := Aside0.mk hh
    have HOD0 := Aside0.mk hod
    replace HH := Aside0.mk hh.drew
    replace HOD := Aside0.mk (pw_own_below hod (below_drew (Below.refl _ _)))
    clear hh hod ce
    go_upto_region 7 with fail
    go_cut [6] from 7 (fun s6 W => ∃ bx, s6 = .pointer (some ⟨bx, 0, none⟩) ∧ w.heap.size < bx ∧ HR w0 w W g A c b (aH, 0) 29 #[.int .i64 0, .int .i64 0, .int .i64 0, .int .i64 0, .int .u32 0, .int .u32 0, .slice none 0 0] ∧ W.heap[bx]? = some (.cells #[.int .i64 x1, .int .i64 x2, .int .i64 x3, .int .i64 x4, .int .u32 x5, .int .u32 x6, .slice none 0 0] 29 (0, 0)) ∧ W.ownsRow w.heap.size 5 1 (.slice A5 D.length c5) D.length (nums .u8 D))
    case first =>
      rename_i J0 K0 hJ0 hM0
      go_region_held3 (fun _ => True) (trivial)
        (first
          | (go_at_call 41; (with_reducible refine (HA0.out _ (own_Rd HOD.out)).mono ?_); rintro r w7 ⟨rfl, hb⟩; replace HH := Aside0.mk (HH.out.bel hb); replace HOD := Aside0.mk (pw_own_below HOD.out hb); (try (replace HX := Aside0.mk (blk_below HX.out hb); skip)); clear hb)
          | (go_at_call 41; (with_reducible refine (HA0.out _ (own_Rd (pw_own_below HOD.out (below_alloc (Below.refl _ _) _)))).mono ?_); rintro r w8 ⟨rfl, hb⟩; obtain ⟨bx, hbx⟩ : ∃ bx, w7.heap.size = bx := ⟨_, rfl⟩; have HX : Aside0 (w8.heap[bx]? = some (.cells #[.int .i64 0, .int .i64 0, .int .i64 0, .int .i64 0, .int .u32 0, .int .u32 0, .slice none 0 0] 29 (0, 0))) := ⟨by rw [← hbx]; exact blk_below (heap_alloc_new _ _) hb⟩; have HLT : Aside0 (w.heap.size < bx) := ⟨hbx ▸ blk_lt HH.out.r2⟩; replace HH := Aside0.mk ((HH.out.bel (below_alloc (Below.refl _ _) _)).bel hb); replace HOD := Aside0.mk (pw_own_below (pw_own_below HOD.out (below_alloc (Below.refl _ _) _)) hb); skip; rw [hbx]; clear hb)
          | (go_at_call 41; (with_reducible refine (HA0.out _ (own_Rd (pw_own_below HOD0.out (below_drew (below_alloc (Below.refl _ _) _))))).mono ?_); rintro r w8 ⟨rfl, hb⟩; obtain ⟨bx, hbx⟩ : ∃ bx, w7.heap.size = bx := ⟨_, rfl⟩; have HX : Aside0 (w8.heap[bx]? = some (.cells #[.int .i64 0, .int .i64 0, .int .i64 0, .int .i64 0, .int .u32 0, .int .u32 0, .slice none 0 0] 29 (0, 0))) := ⟨by rw [← hbx]; exact blk_below (show (World.drew (w7.alloc _)).heap[w7.heap.size]? = _ from heap_alloc_new w7 _) hb⟩; have HLT : Aside0 (w.heap.size < bx) := ⟨hbx ▸ blk_lt HH0.out.r2⟩; replace HH := Aside0.mk ((HH0.out.bel (below_drew (below_alloc (Below.refl _ _) _))).bel hb); replace HOD := Aside0.mk (pw_own_below (pw_own_below HOD0.out (below_drew (below_alloc (Below.refl _ _) _))) hb); skip; rw [hbx]; clear hb)
          | (go_at_call 41; (with_reducible refine (HA1.out _ (own_Rd HOD.out)).mono ?_); rintro r w7 ⟨rfl, hb⟩; replace HH := Aside0.mk (HH.out.bel hb); replace HOD := Aside0.mk (pw_own_below HOD.out hb); (try (replace HX := Aside0.mk (blk_below HX.out hb); skip)); clear hb)
          | (go_at_call 41; (with_reducible refine (HA1.out _ (own_Rd (pw_own_below HOD.out (below_alloc (Below.refl _ _) _)))).mono ?_); rintro r w8 ⟨rfl, hb⟩; obtain ⟨bx, hbx⟩ : ∃ bx, w7.heap.size = bx := ⟨_, rfl⟩; have HX : Aside0 (w8.heap[bx]? = some (.cells #[.int .i64 0, .int .i64 0, .int .i64 0, .int .i64 0, .int .u32 0, .int .u32 0, .slice none 0 0] 29 (0, 0))) := ⟨by rw [← hbx]; exact blk_below (heap_alloc_new _ _) hb⟩; have HLT : Aside0 (w.heap.size < bx) := ⟨hbx ▸ blk_lt HH.out.r2⟩; replace HH := Aside0.mk ((HH.out.bel (below_alloc (Below.refl _ _) _)).bel hb); replace HOD := Aside0.mk (pw_own_below (pw_own_below HOD.out (below_alloc (Below.refl _ _) _)) hb); skip; rw [hbx]; clear hb)
          | (go_at_call 41; (with_reducible refine (HA2.out _ (own_Rd HOD.out)).mono ?_); rintro r w7 ⟨rfl, hb⟩; replace HH := Aside0.mk (HH.out.bel hb); replace HOD := Aside0.mk (pw_own_below HOD.out hb); (try (replace HX := Aside0.mk (blk_below HX.out hb); skip)); clear hb)
          | (go_at_call 41; (with_reducible refine (HA2.out _ (own_Rd (pw_own_below HOD.out (below_alloc (Below.refl _ _) _)))).mono ?_); rintro r w8 ⟨rfl, hb⟩; obtain ⟨bx, hbx⟩ : ∃ bx, w7.heap.size = bx := ⟨_, rfl⟩; have HX : Aside0 (w8.heap[bx]? = some (.cells #[.int .i64 0, .int .i64 0, .int .i64 0, .int .i64 0, .int .u32 0, .int .u32 0, .slice none 0 0] 29 (0, 0))) := ⟨by rw [← hbx]; exact blk_below (heap_alloc_new _ _) hb⟩; have HLT : Aside0 (w.heap.size < bx) := ⟨hbx ▸ blk_lt HH.out.r2⟩; replace HH := Aside0.mk ((HH.out.bel (below_alloc (Below.refl _ _) _)).bel hb); replace HOD := Aside0.mk (pw_own_below (pw_own_below HOD.out (below_alloc (Below.refl _ _) _)) hb); skip; rw [hbx]; clear hb)
          | (go_at_call 41; (with_reducible refine (HA3.out _ (own_Rd HOD.out)).mono ?_); rintro r w7 ⟨rfl, hb⟩; replace HH := Aside0.mk (HH.out.bel hb); replace HOD := Aside0.mk (pw_own_below HOD.out hb); (try (replace HX := Aside0.mk (blk_below HX.out hb); skip)); clear hb)
          | (go_at_call 41; (with_reducible refine (HA3.out _ (own_Rd (pw_own_below HOD.out (below_alloc (Below.refl _ _) _)))).mono ?_); rintro r w8 ⟨rfl, hb⟩; obtain ⟨bx, hbx⟩ : ∃ bx, w7.heap.size = bx := ⟨_, rfl⟩; have HX : Aside0 (w8.heap[bx]? = some (.cells #[.int .i64 0, .int .i64 0, .int .i64 0, .int .i64 0, .int .u32 0, .int .u32 0, .slice none 0 0] 29 (0, 0))) := ⟨by rw [← hbx]; exact blk_below (heap_alloc_new _ _) hb⟩; have HLT : Aside0 (w.heap.size < bx) := ⟨hbx ▸ blk_lt HH.out.r2⟩; replace HH := Aside0.mk ((HH.out.bel (below_alloc (Below.refl _ _) _)).bel hb); replace HOD := Aside0.mk (pw_own_below (pw_own_below HOD.out (below_alloc (Below.refl _ _) _)) hb); skip; rw [hbx]; clear hb)
          | (go_at_call 40; (with_reducible refine (HN5.out _ (own_Rd HOD.out)).mono ?_); rintro r w7 ⟨rfl, hb⟩; replace HH := Aside0.mk (HH.out.bel hb); replace HOD := Aside0.mk (pw_own_below HOD.out hb); (try (replace HX := Aside0.mk (blk_below HX.out hb); skip)); clear hb)
          | (go_at_call 40; (with_reducible refine (HN5.out _ (own_Rd (pw_own_below HOD.out (below_alloc (Below.refl _ _) _)))).mono ?_); rintro r w8 ⟨rfl, hb⟩; obtain ⟨bx, hbx⟩ : ∃ bx, w7.heap.size = bx := ⟨_, rfl⟩; have HX : Aside0 (w8.heap[bx]? = some (.cells #[.int .i64 0, .int .i64 0, .int .i64 0, .int .i64 0, .int .u32 0, .int .u32 0, .slice none 0 0] 29 (0, 0))) := ⟨by rw [← hbx]; exact blk_below (heap_alloc_new _ _) hb⟩; have HLT : Aside0 (w.heap.size < bx) := ⟨hbx ▸ blk_lt HH.out.r2⟩; replace HH := Aside0.mk ((HH.out.bel (below_alloc (Below.refl _ _) _)).bel hb); replace HOD := Aside0.mk (pw_own_below (pw_own_below HOD.out (below_alloc (Below.refl _ _) _)) hb); skip; rw [hbx]; clear hb)
          | (go_at_call 40; (with_reducible refine (HN6.out _ (own_Rd HOD.out)).mono ?_); rintro r w7 ⟨rfl, hb⟩; replace HH := Aside0.mk (HH.out.bel hb); replace HOD := Aside0.mk (pw_own_below HOD.out hb); (try (replace HX := Aside0.mk (blk_below HX.out hb); have hx0 : w7.cell? ⟨bx, 0, none⟩ = some (.int .i64 0) := (blk_cell HX.out 0).trans rfl; have fx0 : w7.frozen? ⟨bx, 0, none⟩ = false := blk_frozen HX.out 0; have hx1 : w7.cell? ⟨bx, 1, none⟩ = some (.int .i64 0) := (blk_cell HX.out 1).trans rfl; have fx1 : w7.frozen? ⟨bx, 1, none⟩ = false := blk_frozen HX.out 1; have hx2 : w7.cell? ⟨bx, 2, none⟩ = some (.int .i64 0) := (blk_cell HX.out 2).trans rfl; have fx2 : w7.frozen? ⟨bx, 2, none⟩ = false := blk_frozen HX.out 2; have hx3 : w7.cell? ⟨bx, 3, none⟩ = some (.int .i64 0) := (blk_cell HX.out 3).trans rfl; have fx3 : w7.frozen? ⟨bx, 3, none⟩ = false := blk_frozen HX.out 3; have hx4 : w7.cell? ⟨bx, 4, none⟩ = some (.int .u32 0) := (blk_cell HX.out 4).trans rfl; have fx4 : w7.frozen? ⟨bx, 4, none⟩ = false := blk_frozen HX.out 4; have hx5 : w7.cell? ⟨bx, 5, none⟩ = some (.int .u32 0) := (blk_cell HX.out 5).trans rfl; have fx5 : w7.frozen? ⟨bx, 5, none⟩ = false := blk_frozen HX.out 5; have hx6 : w7.cell? ⟨bx, 6, none⟩ = some (.slice none 0 0) := (blk_cell HX.out 6).trans rfl; have fx6 : w7.frozen? ⟨bx, 6, none⟩ = false := blk_frozen HX.out 6)); clear hb)
          | (go_at_call 40; (with_reducible refine (HN6.out _ (own_Rd (pw_own_below HOD.out (below_alloc (Below.refl _ _) _)))).mono ?_); rintro r w8 ⟨rfl, hb⟩; obtain ⟨bx, hbx⟩ : ∃ bx, w7.heap.size = bx := ⟨_, rfl⟩; have HX : Aside0 (w8.heap[bx]? = some (.cells #[.int .i64 0, .int .i64 0, .int .i64 0, .int .i64 0, .int .u32 0, .int .u32 0, .slice none 0 0] 29 (0, 0))) := ⟨by rw [← hbx]; exact blk_below (heap_alloc_new _ _) hb⟩; have HLT : Aside0 (w.heap.size < bx) := ⟨hbx ▸ blk_lt HH.out.r2⟩; replace HH := Aside0.mk ((HH.out.bel (below_alloc (Below.refl _ _) _)).bel hb); replace HOD := Aside0.mk (pw_own_below (pw_own_below HOD.out (below_alloc (Below.refl _ _) _)) hb); have hx0 : w8.cell? ⟨bx, 0, none⟩ = some (.int .i64 0) := (blk_cell HX.out 0).trans rfl; have fx0 : w8.frozen? ⟨bx, 0, none⟩ = false := blk_frozen HX.out 0; have hx1 : w8.cell? ⟨bx, 1, none⟩ = some (.int .i64 0) := (blk_cell HX.out 1).trans rfl; have fx1 : w8.frozen? ⟨bx, 1, none⟩ = false := blk_frozen HX.out 1; have hx2 : w8.cell? ⟨bx, 2, none⟩ = some (.int .i64 0) := (blk_cell HX.out 2).trans rfl; have fx2 : w8.frozen? ⟨bx, 2, none⟩ = false := blk_frozen HX.out 2; have hx3 : w8.cell? ⟨bx, 3, none⟩ = some (.int .i64 0) := (blk_cell HX.out 3).trans rfl; have fx3 : w8.frozen? ⟨bx, 3, none⟩ = false := blk_frozen HX.out 3; have hx4 : w8.cell? ⟨bx, 4, none⟩ = some (.int .u32 0) := (blk_cell HX.out 4).trans rfl; have fx4 : w8.frozen? ⟨bx, 4, none⟩ = false := blk_frozen HX.out 4; have hx5 : w8.cell? ⟨bx, 5, none⟩ = some (.int .u32 0) := (blk_cell HX.out 5).trans rfl; have fx5 : w8.frozen? ⟨bx, 5, none⟩ = false := blk_frozen HX.out 5; have hx6 : w8.cell? ⟨bx, 6, none⟩ = some (.slice none 0 0) := (blk_cell HX.out 6).trans rfl; have fx6 : w8.frozen? ⟨bx, 6, none⟩ = false := blk_frozen HX.out 6; rw [hbx]; clear hb)
          | fail)
      all_goals
        refine hM0 _ _ (Met.intro (hJ0 _ _ ?_))
        (repeat apply Exists.intro)
        refine ⟨?_, rfl⟩
      all_goals
        first
          | (refine ⟨bx, rfl, HLT.out, HH.out.far7 HLT.out _ _ _ _ _ _ _ , blk_fill7 HX.out _ _ _ _ _ _ _ , own_far7 HOD.out HX.out (by decide) _ _ _ _ _ _ _ ⟩; done)
          | (refine ⟨w7.heap.size, rfl, blk_lt HH.out.r2, HH.out.bel (below_alloc (Below.refl _ _) _), heap_alloc_new w7 _, pw_own_below HOD.out (below_alloc (Below.refl _ _) _)⟩; done)
    clear HH HOD HH0 HOD0
    obtain ⟨bx, hs6, hlt, hh, hx', hod⟩ := hcut
    subst hs6
    have HLT := Aside0.mk hlt
    have HH := Aside0.mk hh
    have HX := Aside0.mk hx'
    have HOD := Aside0.mk hod
    clear hlt hh hx' hod
    go_upto_region 9 with (first
      | (go_at_call 41; (with_reducible refine (HA4.out _ (own_Rd HOD.out)).mono ?_); rintro r w7 ⟨rfl, hb⟩; replace HH := Aside0.mk (HH.out.bel hb); replace HOD := Aside0.mk (pw_own_below HOD.out hb); replace HX := Aside0.mk (blk_below HX.out hb))
      | (go_at_call 32; (with_reducible refine (HB1.out _ HH.out.rs).mono ?_); rintro r w6 ⟨B1, f1, rfl, ho, hc, hk⟩; replace HX := Aside0.mk (blk_rcur HX.out (by decide) HH.out.rs hk); replace HOD := Aside0.mk (own_rcur HOD.out (by decide) HH.out.rs hk);  have HO1 := Aside0.mk (own_weaken ho HH.out.kk.1); replace HH := Aside0.mk (HH.out.op hc hk); clear ho hc hk; have hx : w6.cell? ⟨bx, 6, none⟩ = some (.slice none 0 0) := (blk_cell HX.out 6).trans rfl; have fx : w6.frozen? ⟨bx, 6, none⟩ = false := blk_frozen HX.out 6)
      | fail)
    refine wp_gen (fun W => HR w0 w W g A c b t1 29 #[.int .i64 0, .int .i64 0, .int .i64 0, .int .i64 0, .int .u32 0, .int .u32 0, .slice none 0 0] ∧ W.heap[bx]? = some (.cells #[.int .i64 x1, .int .i64 x2, .int .i64 x3, .int .i64 x4, .int .u32 x5, .int .u32 x6, .slice B1 D1.length f1] 29 (0, 0)) ∧ W.ownsRow w.heap.size 5 1 (.slice A5 D.length c5) D.length (nums .u8 D) ∧ W.ownsRow w.heap.size 5 1 (.slice B1 D1.length f1) D1.length (nums .u8 D1)) ⟨HH.out.far HLT.out 6 _, blk_set HX.out 6 _, own_setCell HOD.out (own_ne HOD.out HX.out (by decide)) _, own_setCell HO1.out (own_ne HO1.out HX.out (by decide)) _⟩ ?_
    rintro W9 ⟨hh, hx', hod, ho1⟩
    replace HH := Aside0.mk hh
    replace HX := Aside0.mk hx'
    replace HOD := Aside0.mk hod
    replace HO1 := Aside0.mk ho1
    clear hh hx' hod ho1
    try clear hx fx
    have ce : W9.cell? ⟨g, 2, none⟩ = some (.int .i64 EZ) := by have h9 := (blk_cell HH.out.rs.blk 2).trans rfl; rw [HE2.out] at h9; exact h9
    go_upto_if 50 with fail
    refine wp_gen (fun W => HR w0 w W g A c b t1 29 #[.int .i64 0, .int .i64 0, .int .i64 0, .int .i64 0, .int .u32 0, .int .u32 0, .slice none 0 0]) HH.out ?_
    rintro Wx hh
    have HN := Aside0.mk hh
    replace HH := Aside0.mk hh.drew
    clear hh ce
    have ce : Wx.cell? ⟨g, 2, none⟩ = some (.int .i64 EZ) := by have h9 : Wx.cell? ⟨g, 2, none⟩ = some (.int .i64 t1.2) := (blk_cell HH.out.rs.blk 2).trans rfl; rw [HE2.out] at h9; exact h9
    have hne1 : (g = w.heap.size) = False := eq_false (by have h9 := HH.out.gl; omega)
    have hne2 : (w.heap.size = g) = False := eq_false (by have h9 := HH.out.gl; omega)
    have hp0 : Wx.cell? ⟨w.heap.size, 0, none⟩ = some (.int .i64 0) := (blk_cell HH.out.r2 0).trans rfl; have fp0 : Wx.frozen? ⟨w.heap.size, 0, none⟩ = false := blk_frozen HH.out.r2 0; have hp1 : Wx.cell? ⟨w.heap.size, 1, none⟩ = some (.int .i64 0) := (blk_cell HH.out.r2 1).trans rfl; have fp1 : Wx.frozen? ⟨w.heap.size, 1, none⟩ = false := blk_frozen HH.out.r2 1; have hp2 : Wx.cell? ⟨w.heap.size, 2, none⟩ = some (.int .i64 0) := (blk_cell HH.out.r2 2).trans rfl; have fp2 : Wx.frozen? ⟨w.heap.size, 2, none⟩ = false := blk_frozen HH.out.r2 2; have hp3 : Wx.cell? ⟨w.heap.size, 3, none⟩ = some (.int .i64 0) := (blk_cell HH.out.r2 3).trans rfl; have fp3 : Wx.frozen? ⟨w.heap.size, 3, none⟩ = false := blk_frozen HH.out.r2 3; have hp4 : Wx.cell? ⟨w.heap.size, 4, none⟩ = some (.int .u32 0) := (blk_cell HH.out.r2 4).trans rfl; have fp4 : Wx.frozen? ⟨w.heap.size, 4, none⟩ = false := blk_frozen HH.out.r2 4; have hp5 : Wx.cell? ⟨w.heap.size, 5, none⟩ = some (.int .u32 0) := (blk_cell HH.out.r2 5).trans rfl; have fp5 : Wx.frozen? ⟨w.heap.size, 5, none⟩ = false := blk_frozen HH.out.r2 5; have hp6 : Wx.cell? ⟨w.heap.size, 6, none⟩ = some (.slice none 0 0) := (blk_cell HH.out.r2 6).trans rfl; have fp6 : Wx.frozen? ⟨w.heap.size, 6, none⟩ = false := blk_frozen HH.out.r2 6
    have HSK : Aside0 (∀ (W : World) (C : Array Value), HR w0 w W g A c b t1 29 C → W.cell? ⟨g, 2, none⟩ = some (.int .i64 EZ)) := ⟨fun W C h => by have h9 : W.cell? ⟨g, 2, none⟩ = some (.int .i64 t1.2) := (blk_cell h.rs.blk 2).trans rfl; rw [HE2.out] at h9; exact h9⟩
    go_wp2_with fail
    go_region_held3 (fun W => W.cell? ⟨g, 2, none⟩ = some (.int .i64 EZ)) (first | (with_reducible exact HSK.out _ _ HH.out) | (with_reducible exact HSK.out _ _ (HR.drew (HN.out.fill7 (.int .i64 0) (.int .i64 0) (.int .i64 0) (.int .i64 0) (.int .u32 0) (.int .u32 0) (.slice none 0 0))))) (fail)
    all_goals
      refine ex_gen (X := Exit.then _ _ _ _) (fun W => HR w0 w W g A c b t1 29 #[.int .i64 0, .int .i64 0, .int .i64 0, .int .i64 0, .int .u32 0, .int .u32 0, .slice none 0 0]) ?_ ?_
      · with_reducible exact HR.drew (HN.out.fill7 (.int .i64 0) (.int .i64 0) (.int .i64 0) (.int .i64 0) (.int .u32 0) (.int .u32 0) (.slice none 0 0))
      rintro W7 hh
      replace HH := Aside0.mk hh
      clear hh
      go_wp2
      refine bodyPost_ret (results_ct rfl _ _ w.heap.size 29 _ (0, 0) _ rfl HH.out.r2 Try.underlying29 rfl (by kernel_rfl)) rfl ?_
      exact ⟨rfl, HH.out.rs, HH.out.kk⟩
  · have hst := HST.out heH
    have e3 : eH = EZ := by have h9 := HE2.out; rw [hst] at h9; exact h9
    subst e3
    rw [hst]
    refine wp_gen (fun W => HR w0 w W g A c b (aH, eH) 29 #[.int .i64 0, .int .i64 0, .int .i64 0, .int .i64 0, .int .u32 0, .int .u32 0, .slice none 0 0]) HH.out ?_
    rintro W1 hh
    have HN := Aside0.mk hh
    replace HH := Aside0.mk hh.drew
    clear hh ce HOD
    have ce : W1.cell? ⟨g, 2, none⟩ = some (.int .i64 eH) := (blk_cell HH.out.rs.blk 2).trans rfl
    have hne1 : (g = w.heap.size) = False := eq_false (by have h9 := HH.out.gl; omega)
    have hne2 : (w.heap.size = g) = False := eq_false (by have h9 := HH.out.gl; omega)
    have hp0 : W1.cell? ⟨w.heap.size, 0, none⟩ = some (.int .i64 0) := (blk_cell HH.out.r2 0).trans rfl; have fp0 : W1.frozen? ⟨w.heap.size, 0, none⟩ = false := blk_frozen HH.out.r2 0; have hp1 : W1.cell? ⟨w.heap.size, 1, none⟩ = some (.int .i64 0) := (blk_cell HH.out.r2 1).trans rfl; have fp1 : W1.frozen? ⟨w.heap.size, 1, none⟩ = false := blk_frozen HH.out.r2 1; have hp2 : W1.cell? ⟨w.heap.size, 2, none⟩ = some (.int .i64 0) := (blk_cell HH.out.r2 2).trans rfl; have fp2 : W1.frozen? ⟨w.heap.size, 2, none⟩ = false := blk_frozen HH.out.r2 2; have hp3 : W1.cell? ⟨w.heap.size, 3, none⟩ = some (.int .i64 0) := (blk_cell HH.out.r2 3).trans rfl; have fp3 : W1.frozen? ⟨w.heap.size, 3, none⟩ = false := blk_frozen HH.out.r2 3; have hp4 : W1.cell? ⟨w.heap.size, 4, none⟩ = some (.int .u32 0) := (blk_cell HH.out.r2 4).trans rfl; have fp4 : W1.frozen? ⟨w.heap.size, 4, none⟩ = false := blk_frozen HH.out.r2 4; have hp5 : W1.cell? ⟨w.heap.size, 5, none⟩ = some (.int .u32 0) := (blk_cell HH.out.r2 5).trans rfl; have fp5 : W1.frozen? ⟨w.heap.size, 5, none⟩ = false := blk_frozen HH.out.r2 5; have hp6 : W1.cell? ⟨w.heap.size, 6, none⟩ = some (.slice none 0 0) := (blk_cell HH.out.r2 6).trans rfl; have fp6 : W1.frozen? ⟨w.heap.size, 6, none⟩ = false := blk_frozen HH.out.r2 6
    have HSK : Aside0 (∀ (W : World) (C : Array Value), HR w0 w W g A c b (aH, eH) 29 C → W.cell? ⟨g, 2, none⟩ = some (.int .i64 eH)) := ⟨fun W C h => (blk_cell h.rs.blk 2).trans rfl⟩
    go_wp2_with fail
    go_region_held3 (fun W => W.cell? ⟨g, 2, none⟩ = some (.int .i64 eH)) (first | (with_reducible exact HSK.out _ _ HH.out) | (with_reducible exact HSK.out _ _ (HR.drew (HN.out.fill7 (.int .i64 0) (.int .i64 0) (.int .i64 0) (.int .i64 0) (.int .u32 0) (.int .u32 0) (.slice none 0 0))))) (fail)
    all_goals
      refine ex_gen (X := Exit.then _ _ _ _) (fun W => HR w0 w W g A c b (aH, eH) 29 #[.int .i64 0, .int .i64 0, .int .i64 0, .int .i64 0, .int .u32 0, .int .u32 0, .slice none 0 0]) ?_ ?_
      · with_reducible exact HR.drew (HN.out.fill7 (.int .i64 0) (.int .i64 0) (.int .i64 0) (.int .i64 0) (.int .u32 0) (.int .u32 0) (.slice none 0 0))
      rintro W7 hh
      replace HH := Aside0.mk hh
      clear hh
      go_wp2
      refine bodyPost_ret (results_ct rfl _ _ w.heap.size 29 _ (0, 0) _ rfl HH.out.r2 Try.underlying29 rfl (by kernel_rfl)) rfl ?_
      exact ⟨rfl, HH.out.rs, HH.out.kk⟩
set_option maxHeartbeats 8000000 in
set_option maxRecDepth 100000 in
theorem ref_readEnd_ok (w0 w : World) (g : Nat) (A : Option Addr) (c : Nat) (b : List Int) (s : Sta) (h : RS0 w0 w g A c b s) (hb : ∀ x ∈ b, 0 ≤ x ∧ x ≤ 255) (hE : sgE b s 101010256 = 0) (q0 q1 q2 q3 q4 q5 q6 q7 t1 : Sta) (x1 x2 x3 x4 x5 x6 x7 : Int) (hs1 : rA b s 4 = q0) (e1 : rA b q0 2 = q1) (v1 : rV b q0 2 = x1) (e2 : rA b q1 2 = q2) (v2 : rV b q1 2 = x2) (e3 : rA b q2 2 = q3) (v3 : rV b q2 2 = x3) (e4 : rA b q3 2 = q4) (v4 : rV b q3 2 = x4) (e5 : rA b q4 4 = q5) (v5 : rV b q4 4 = x5) (e6 : rA b q5 4 = q6) (v6 : rV b q5 4 = x6) (e7 : rA b q6 2 = q7) (v7 : rV b q6 2 = x7) (D1 : List Int) (k1 : rL b q7 x7 = D1) (j1 : rA b q7 x7 = t1) (h5 : t1.2 = 0) :
    Calls Try.prog 35 #[.pointer (some ⟨g, 0, none⟩)] w (fun r w' => ∃ A1 c1, RfPost w0 w g A c b t1 #[.int .i64 x1, .int .i64 x2, .int .i64 x3, .int .i64 x4, .int .u32 x5, .int .u32 x6, .slice A1 D1.length c1] 0 r w' ∧ Ow w w' A1 D1 c1) := by
  have HH : Aside0 (HR w0 w (w.alloc (.cells #[.int .i64 0, .int .i64 0, .int .i64 0, .int .i64 0, .int .u32 0, .int .u32 0, .slice none 0 0] 29)) g A c b s 29 #[.int .i64 0, .int .i64 0, .int .i64 0, .int .i64 0, .int .u32 0, .int .u32 0, .slice none 0 0]) := ⟨HR.start h _ _⟩
  have HSG : Aside0 (∀ W, RS0 w0 W g A c b s → Calls Try.prog 58 #[.pointer (some ⟨g, 0, none⟩), .int .u32 101010256] W (SgPost w0 W g A c b q0 0)) := ⟨fun W hW => by have h9 := ref_sign w0 W g A c b s 101010256 hW hb; rw [hs1, hE] at h9; exact h9⟩
  have hP := enP hb e1 v1 e2 v2 e3 v3 e4 v4 e5 v5 e6 v6 e7 v7
  obtain ⟨D, hD⟩ : ∃ D, (tkN b q0 [2, 2, 2, 2, 4, 4, 2] 7).1 = D := ⟨_, rfl⟩
  have HTK : Aside0 (∀ W base A1 c1, RS0 w0 W g A c b q0 → W.ownsRow base 3 1 (.slice A1 7 c1) 7 (nums .i64 [2, 2, 2, 2, 4, 4, 2]) → Calls Try.prog 59 #[.pointer (some ⟨g, 0, none⟩), .slice A1 7 c1] W (fun r w' => ∃ A5 c5, r = .returned (.slice A5 D.length c5) ∧ w'.ownsRow W.heap.size 5 1 (.slice A5 D.length c5) D.length (nums .u8 D) ∧ RS0 w0 w' g A c b q7 ∧ Kept W w' (fun k => k = g))) := ⟨fun W base A1 c1 hW hz => by
    have h9 := ref_take w0 W g A c b q0 [2, 2, 2, 2, 4, 4, 2] A1 c1 base hW hz (by simp)
    rw [show ([2, 2, 2, 2, 4, 4, 2] : List Int).length = 7 from rfl, hD, hP.1] at h9
    exact h9⟩
  have HB1 : Aside0 (∀ W, RS0 w0 W g A c b q7 → Calls Try.prog 32 #[.pointer (some ⟨g, 0, none⟩), .int .i64 x7] W (fun r w' => ∃ A1 c1, r = .returned (.slice A1 D1.length c1) ∧ w'.ownsRow W.heap.size 5 1 (.slice A1 D1.length c1) D1.length (nums .u8 D1) ∧ RS0 w0 w' g A c b t1 ∧ Kept W w' (fun k => k = g))) := ⟨fun W hW => k1 ▸ j1 ▸ rs_take hW x7⟩
  have HST : Aside0 (q7.2 ≠ 0 → t1 = q7) := ⟨fun h => by
    have g1 : t1 = q7 := by rw [← j1]; exact rA_stuck h
    exact g1⟩
  have HPP := Aside0.mk hP.2
  rw [hD] at HPP
  have HE2 := Aside0.mk h5
  clear h hb hE hs1 hP hD h5 e1 v1 e2 v2 e3 v3 e4 v4 e5 v5 e6 v6 e7 v7 k1 j1
  obtain ⟨aH, eH⟩ := q7
  go_enter Try.func35, Try.ntmps35
  go_upto_if 20 with (first
    | (go_at_call 58; (with_reducible refine (HSG.out _ HH.out.rs).mono ?_); rintro r w9 ⟨rfl, hc, hk⟩; replace HH := Aside0.mk (HH.out.op hc hk); clear hc hk)
    | ((with_reducible refine gate_dst (N := 14) rfl ?_); (try (refine gate_guard (by rfl) ?_; dsimp only)); refine Kd.R_lit (Kd.int .i64) _ 3 ?hg (N := 14) ?hd (xs := ([2, 2, 2, 2, 4, 4, 2] : List Int)) (inner := [.int .i64 2, .int .i64 2, .int .i64 2, .int .i64 2, .int .i64 4, .int .i64 4, .int .i64 2]) (ok := fun _ => True) (okp := fun _ => True) ?hr ?hp (fun _ hk => hk) trivial (Below.refl _ _) (Nat.le_refl _) (by simp) ?_; (case hd => rfl); (case hg => rfl); (case hr => first | (go_simp; done) | (go_simp; rfl)); (case hp => exact (Reps.one (show Kd.M (Kd.int .i64) _ _ _ 2 [.int .i64 2] from rfl) (Reps.one (show Kd.M (Kd.int .i64) _ _ _ 2 [.int .i64 2] from rfl) (Reps.one (show Kd.M (Kd.int .i64) _ _ _ 2 [.int .i64 2] from rfl) (Reps.one (show Kd.M (Kd.int .i64) _ _ _ 2 [.int .i64 2] from rfl) (Reps.one (show Kd.M (Kd.int .i64) _ _ _ 4 [.int .i64 4] from rfl) (Reps.one (show Kd.M (Kd.int .i64) _ _ _ 4 [.int .i64 4] from rfl) (Reps.one (show Kd.M (Kd.int .i64) _ _ _ 2 [.int .i64 2] from rfl) (Reps.none _ _))))))))); intro v1 w1 ho hb hg_ hnew_; have HZ := Aside0.mk (Kd.own_of_R ho); obtain ⟨A1, c1, rfl⟩ := own_slice HZ.out; replace HH := Aside0.mk (HH.out.bel hb); clear ho hb hg_ hnew_)
    | (go_at_call 59; (with_reducible refine (HTK.out _ _ _ _ HH.out.rs HZ.out).mono ?_); rintro r w9 ⟨A5, c5, rfl, ho, hc, hk⟩; have HOD := Aside0.mk (own_weaken ho HH.out.kk.1); replace HH := Aside0.mk (HH.out.op hc hk); have ce : w9.cell? ⟨g, 2, none⟩ = some (.int .i64 eH) := (blk_cell hc.blk 2).trans rfl; clear ho hc hk)
    | fail)
  by_cases heH : eH = 0
  · subst heH
    obtain ⟨D0, hD0, hDl, hDb, r0, r1, r2, r3, r4, r5, r6⟩ := HPP.out rfl
    subst hD0
    clear HPP
    have HA0 : Aside0 (∀ W, Rd W A5 D c5 → Calls Try.prog 41 #[.slice A5 D.length c5, .int .i64 0] W (fun r w' => r = .returned (.int .i64 x1) ∧ Below W.heap.size W w')) := ⟨fun W hW => (Go.Proofs.Ytpmiofjhgmdghaa.RQ.duffelref24_at.calls 10 A5 c5 D 0 x1 W hW.1 hW.2 r0).mono (fun _ _ h => ⟨h.1, h.2.below⟩)⟩
    have HA1 : Aside0 (∀ W, Rd W A5 D c5 → Calls Try.prog 41 #[.slice A5 D.length c5, .int .i64 2] W (fun r w' => r = .returned (.int .i64 x2) ∧ Below W.heap.size W w')) := ⟨fun W hW => (Go.Proofs.Ytpmiofjhgmdghaa.RQ.duffelref24_at.calls 10 A5 c5 D 2 x2 W hW.1 hW.2 r1).mono (fun _ _ h => ⟨h.1, h.2.below⟩)⟩
    have HA2 : Aside0 (∀ W, Rd W A5 D c5 → Calls Try.prog 41 #[.slice A5 D.length c5, .int .i64 4] W (fun r w' => r = .returned (.int .i64 x3) ∧ Below W.heap.size W w')) := ⟨fun W hW => (Go.Proofs.Ytpmiofjhgmdghaa.RQ.duffelref24_at.calls 10 A5 c5 D 4 x3 W hW.1 hW.2 r2).mono (fun _ _ h => ⟨h.1, h.2.below⟩)⟩
    have HA3 : Aside0 (∀ W, Rd W A5 D c5 → Calls Try.prog 41 #[.slice A5 D.length c5, .int .i64 6] W (fun r w' => r = .returned (.int .i64 x4) ∧ Below W.heap.size W w')) := ⟨fun W hW => (Go.Proofs.Ytpmiofjhgmdghaa.RQ.duffelref24_at.calls 10 A5 c5 D 6 x4 W hW.1 hW.2 r3).mono (fun _ _ h => ⟨h.1, h.2.below⟩)⟩
    have HA4 : Aside0 (∀ W, Rd W A5 D c5 → Calls Try.prog 41 #[.slice A5 D.length c5, .int .i64 16] W (fun r w' => r = .returned (.int .i64 x7) ∧ Below W.heap.size W w')) := ⟨fun W hW => (Go.Proofs.Ytpmiofjhgmdghaa.RQ.duffelref24_at.calls 10 A5 c5 D 16 x7 W hW.1 hW.2 r4).mono (fun _ _ h => ⟨h.1, h.2.below⟩)⟩
    obtain ⟨p5, hp5⟩ : ∃ p, (D.take 12).drop 8 = p := ⟨_, rfl⟩
    rw [hp5] at r5
    obtain ⟨N5, d5, hs5, hr5⟩ := sliceK A5 D 8 12 8 4 c5 rfl rfl (own_C HOD.out).2.2.1 (by omega) p5 hp5
    have HN5 : Aside0 (∀ W, Rd W A5 D c5 → Calls Try.prog 40 #[.slice N5 4 d5] W (fun r w' => r = .returned (.int .u32 x5) ∧ Below W.heap.size W w')) := ⟨fun W hW => (num_at (hr5 W hW).1 (hr5 W hW).2 r5).mono (fun _ _ h => ⟨h.1, h.2.below⟩)⟩
    clear hr5 hp5
    obtain ⟨p6, hp6⟩ : ∃ p, (D.take 16).drop 12 = p := ⟨_, rfl⟩
    rw [hp6] at r6
    obtain ⟨N6, d6, hs6, hr6⟩ := sliceK A5 D 12 16 12 4 c5 rfl rfl (own_C HOD.out).2.2.1 (by omega) p6 hp6
    have HN6 : Aside0 (∀ W, Rd W A5 D c5 → Calls Try.prog 40 #[.slice N6 4 d6] W (fun r w' => r = .returned (.int .u32 x6) ∧ Below W.heap.size W w')) := ⟨fun W hW => (num_at (hr6 W hW).1 (hr6 W hW).2 r6).mono (fun _ _ h => ⟨h.1, h.2.below⟩)⟩
    clear hr6 hp6
    clear hDb hDl
    refine wp_gen (fun W => HR w0 w W g A c b (aH, 0) 29 #[.int .i64 0, .int .i64 0, .int .i64 0, .int .i64 0, .int .u32 0, .int .u32 0, .slice none 0 0] ∧ W.ownsRow w.heap.size 5 1 (.slice A5 D.length c5) D.length (nums .u8 D)) ⟨HH.out, HOD.out⟩ ?_
    rintro w7 ⟨hh, hod⟩
    have HH0 := Aside0.mk hh
    have HOD0 := Aside0.mk hod
    replace HH := Aside0.mk hh.drew
    replace HOD := Aside0.mk (pw_own_below hod (below_drew (Below.refl _ _)))
    clear hh hod ce
    go_upto_region 7 with fail
    go_cut [6] from 7 (fun s6 W => ∃ bx, s6 = .pointer (some ⟨bx, 0, none⟩) ∧ w.heap.size < bx ∧ HR w0 w W g A c b (aH, 0) 29 #[.int .i64 0, .int .i64 0, .int .i64 0, .int .i64 0, .int .u32 0, .int .u32 0, .slice none 0 0] ∧ W.heap[bx]? = some (.cells #[.int .i64 x1, .int .i64 x2, .int .i64 x3, .int .i64 x4, .int .u32 x5, .int .u32 x6, .slice none 0 0] 29 (0, 0)) ∧ W.ownsRow w.heap.size 5 1 (.slice A5 D.length c5) D.length (nums .u8 D))
    case first =>
      rename_i J0 K0 hJ0 hM0
      go_region_held3 (fun _ => True) (trivial)
        (first
          | (go_at_call 41; (with_reducible refine (HA0.out _ (own_Rd HOD.out)).mono ?_); rintro r w7 ⟨rfl, hb⟩; replace HH := Aside0.mk (HH.out.bel hb); replace HOD := Aside0.mk (pw_own_below HOD.out hb); (try (replace HX := Aside0.mk (blk_below HX.out hb); skip)); clear hb)
          | (go_at_call 41; (with_reducible refine (HA0.out _ (own_Rd (pw_own_below HOD.out (below_alloc (Below.refl _ _) _)))).mono ?_); rintro r w8 ⟨rfl, hb⟩; obtain ⟨bx, hbx⟩ : ∃ bx, w7.heap.size = bx := ⟨_, rfl⟩; have HX : Aside0 (w8.heap[bx]? = some (.cells #[.int .i64 0, .int .i64 0, .int .i64 0, .int .i64 0, .int .u32 0, .int .u32 0, .slice none 0 0] 29 (0, 0))) := ⟨by rw [← hbx]; exact blk_below (heap_alloc_new _ _) hb⟩; have HLT : Aside0 (w.heap.size < bx) := ⟨hbx ▸ blk_lt HH.out.r2⟩; replace HH := Aside0.mk ((HH.out.bel (below_alloc (Below.refl _ _) _)).bel hb); replace HOD := Aside0.mk (pw_own_below (pw_own_below HOD.out (below_alloc (Below.refl _ _) _)) hb); skip; rw [hbx]; clear hb)
          | (go_at_call 41; (with_reducible refine (HA0.out _ (own_Rd (pw_own_below HOD0.out (below_drew (below_alloc (Below.refl _ _) _))))).mono ?_); rintro r w8 ⟨rfl, hb⟩; obtain ⟨bx, hbx⟩ : ∃ bx, w7.heap.size = bx := ⟨_, rfl⟩; have HX : Aside0 (w8.heap[bx]? = some (.cells #[.int .i64 0, .int .i64 0, .int .i64 0, .int .i64 0, .int .u32 0, .int .u32 0, .slice none 0 0] 29 (0, 0))) := ⟨by rw [← hbx]; exact blk_below (show (World.drew (w7.alloc _)).heap[w7.heap.size]? = _ from heap_alloc_new w7 _) hb⟩; have HLT : Aside0 (w.heap.size < bx) := ⟨hbx ▸ blk_lt HH0.out.r2⟩; replace HH := Aside0.mk ((HH0.out.bel (below_drew (below_alloc (Below.refl _ _) _))).bel hb); replace HOD := Aside0.mk (pw_own_below (pw_own_below HOD0.out (below_drew (below_alloc (Below.refl _ _) _))) hb); skip; rw [hbx]; clear hb)
          | (go_at_call 41; (with_reducible refine (HA1.out _ (own_Rd HOD.out)).mono ?_); rintro r w7 ⟨rfl, hb⟩; replace HH := Aside0.mk (HH.out.bel hb); replace HOD := Aside0.mk (pw_own_below HOD.out hb); (try (replace HX := Aside0.mk (blk_below HX.out hb); skip)); clear hb)
          | (go_at_call 41; (with_reducible refine (HA1.out _ (own_Rd (pw_own_below HOD.out (below_alloc (Below.refl _ _) _)))).mono ?_); rintro r w8 ⟨rfl, hb⟩; obtain ⟨bx, hbx⟩ : ∃ bx, w7.heap.size = bx := ⟨_, rfl⟩; have HX : Aside0 (w8.heap[bx]? = some (.cells #[.int .i64 0, .int .i64 0, .int .i64 0, .int .i64 0, .int .u32 0, .int .u32 0, .slice none 0 0] 29 (0, 0))) := ⟨by rw [← hbx]; exact blk_below (heap_alloc_new _ _) hb⟩; have HLT : Aside0 (w.heap.size < bx) := ⟨hbx ▸ blk_lt HH.out.r2⟩; replace HH := Aside0.mk ((HH.out.bel (below_alloc (Below.refl _ _) _)).bel hb); replace HOD := Aside0.mk (pw_own_below (pw_own_below HOD.out (below_alloc (Below.refl _ _) _)) hb); skip; rw [hbx]; clear hb)
          | (go_at_call 41; (with_reducible refine (HA2.out _ (own_Rd HOD.out)).mono ?_); rintro r w7 ⟨rfl, hb⟩; replace HH := Aside0.mk (HH.out.bel hb); replace HOD := Aside0.mk (pw_own_below HOD.out hb); (try (replace HX := Aside0.mk (blk_below HX.out hb); skip)); clear hb)
          | (go_at_call 41; (with_reducible refine (HA2.out _ (own_Rd (pw_own_below HOD.out (below_alloc (Below.refl _ _) _)))).mono ?_); rintro r w8 ⟨rfl, hb⟩; obtain ⟨bx, hbx⟩ : ∃ bx, w7.heap.size = bx := ⟨_, rfl⟩; have HX : Aside0 (w8.heap[bx]? = some (.cells #[.int .i64 0, .int .i64 0, .int .i64 0, .int .i64 0, .int .u32 0, .int .u32 0, .slice none 0 0] 29 (0, 0))) := ⟨by rw [← hbx]; exact blk_below (heap_alloc_new _ _) hb⟩; have HLT : Aside0 (w.heap.size < bx) := ⟨hbx ▸ blk_lt HH.out.r2⟩; replace HH := Aside0.mk ((HH.out.bel (below_alloc (Below.refl _ _) _)).bel hb); replace HOD := Aside0.mk (pw_own_below (pw_own_below HOD.out (below_alloc (Below.refl _ _) _)) hb); skip; rw [hbx]; clear hb)
          | (go_at_call 41; (with_reducible refine (HA3.out _ (own_Rd HOD.out)).mono ?_); rintro r w7 ⟨rfl, hb⟩; replace HH := Aside0.mk (HH.out.bel hb); replace HOD := Aside0.mk (pw_own_below HOD.out hb); (try (replace HX := Aside0.mk (blk_below HX.out hb); skip)); clear hb)
          | (go_at_call 41; (with_reducible refine (HA3.out _ (own_Rd (pw_own_below HOD.out (below_alloc (Below.refl _ _) _)))).mono ?_); rintro r w8 ⟨rfl, hb⟩; obtain ⟨bx, hbx⟩ : ∃ bx, w7.heap.size = bx := ⟨_, rfl⟩; have HX : Aside0 (w8.heap[bx]? = some (.cells #[.int .i64 0, .int .i64 0, .int .i64 0, .int .i64 0, .int .u32 0, .int .u32 0, .slice none 0 0] 29 (0, 0))) := ⟨by rw [← hbx]; exact blk_below (heap_alloc_new _ _) hb⟩; have HLT : Aside0 (w.heap.size < bx) := ⟨hbx ▸ blk_lt HH.out.r2⟩; replace HH := Aside0.mk ((HH.out.bel (below_alloc (Below.refl _ _) _)).bel hb); replace HOD := Aside0.mk (pw_own_below (pw_own_below HOD.out (below_alloc (Below.refl _ _) _)) hb); skip; rw [hbx]; clear hb)
          | (go_at_call 40; (with_reducible refine (HN5.out _ (own_Rd HOD.out)).mono ?_); rintro r w7 ⟨rfl, hb⟩; replace HH := Aside0.mk (HH.out.bel hb); replace HOD := Aside0.mk (pw_own_below HOD.out hb); (try (replace HX := Aside0.mk (blk_below HX.out hb); skip)); clear hb)
          | (go_at_call 40; (with_reducible refine (HN5.out _ (own_Rd (pw_own_below HOD.out (below_alloc (Below.refl _ _) _)))).mono ?_); rintro r w8 ⟨rfl, hb⟩; obtain ⟨bx, hbx⟩ : ∃ bx, w7.heap.size = bx := ⟨_, rfl⟩; have HX : Aside0 (w8.heap[bx]? = some (.cells #[.int .i64 0, .int .i64 0, .int .i64 0, .int .i64 0, .int .u32 0, .int .u32 0, .slice none 0 0] 29 (0, 0))) := ⟨by rw [← hbx]; exact blk_below (heap_alloc_new _ _) hb⟩; have HLT : Aside0 (w.heap.size < bx) := ⟨hbx ▸ blk_lt HH.out.r2⟩; replace HH := Aside0.mk ((HH.out.bel (below_alloc (Below.refl _ _) _)).bel hb); replace HOD := Aside0.mk (pw_own_below (pw_own_below HOD.out (below_alloc (Below.refl _ _) _)) hb); skip; rw [hbx]; clear hb)
          | (go_at_call 40; (with_reducible refine (HN6.out _ (own_Rd HOD.out)).mono ?_); rintro r w7 ⟨rfl, hb⟩; replace HH := Aside0.mk (HH.out.bel hb); replace HOD := Aside0.mk (pw_own_below HOD.out hb); (try (replace HX := Aside0.mk (blk_below HX.out hb); have hx0 : w7.cell? ⟨bx, 0, none⟩ = some (.int .i64 0) := (blk_cell HX.out 0).trans rfl; have fx0 : w7.frozen? ⟨bx, 0, none⟩ = false := blk_frozen HX.out 0; have hx1 : w7.cell? ⟨bx, 1, none⟩ = some (.int .i64 0) := (blk_cell HX.out 1).trans rfl; have fx1 : w7.frozen? ⟨bx, 1, none⟩ = false := blk_frozen HX.out 1; have hx2 : w7.cell? ⟨bx, 2, none⟩ = some (.int .i64 0) := (blk_cell HX.out 2).trans rfl; have fx2 : w7.frozen? ⟨bx, 2, none⟩ = false := blk_frozen HX.out 2; have hx3 : w7.cell? ⟨bx, 3, none⟩ = some (.int .i64 0) := (blk_cell HX.out 3).trans rfl; have fx3 : w7.frozen? ⟨bx, 3, none⟩ = false := blk_frozen HX.out 3; have hx4 : w7.cell? ⟨bx, 4, none⟩ = some (.int .u32 0) := (blk_cell HX.out 4).trans rfl; have fx4 : w7.frozen? ⟨bx, 4, none⟩ = false := blk_frozen HX.out 4; have hx5 : w7.cell? ⟨bx, 5, none⟩ = some (.int .u32 0) := (blk_cell HX.out 5).trans rfl; have fx5 : w7.frozen? ⟨bx, 5, none⟩ = false := blk_frozen HX.out 5; have hx6 : w7.cell? ⟨bx, 6, none⟩ = some (.slice none 0 0) := (blk_cell HX.out 6).trans rfl; have fx6 : w7.frozen? ⟨bx, 6, none⟩ = false := blk_frozen HX.out 6)); clear hb)
          | (go_at_call 40; (with_reducible refine (HN6.out _ (own_Rd (pw_own_below HOD.out (below_alloc (Below.refl _ _) _)))).mono ?_); rintro r w8 ⟨rfl, hb⟩; obtain ⟨bx, hbx⟩ : ∃ bx, w7.heap.size = bx := ⟨_, rfl⟩; have HX : Aside0 (w8.heap[bx]? = some (.cells #[.int .i64 0, .int .i64 0, .int .i64 0, .int .i64 0, .int .u32 0, .int .u32 0, .slice none 0 0] 29 (0, 0))) := ⟨by rw [← hbx]; exact blk_below (heap_alloc_new _ _) hb⟩; have HLT : Aside0 (w.heap.size < bx) := ⟨hbx ▸ blk_lt HH.out.r2⟩; replace HH := Aside0.mk ((HH.out.bel (below_alloc (Below.refl _ _) _)).bel hb); replace HOD := Aside0.mk (pw_own_below (pw_own_below HOD.out (below_alloc (Below.refl _ _) _)) hb); have hx0 : w8.cell? ⟨bx, 0, none⟩ = some (.int .i64 0) := (blk_cell HX.out 0).trans rfl; have fx0 : w8.frozen? ⟨bx, 0, none⟩ = false := blk_frozen HX.out 0; have hx1 : w8.cell? ⟨bx, 1, none⟩ = some (.int .i64 0) := (blk_cell HX.out 1).trans rfl; have fx1 : w8.frozen? ⟨bx, 1, none⟩ = false := blk_frozen HX.out 1; have hx2 : w8.cell? ⟨bx, 2, none⟩ = some (.int .i64 0) := (blk_cell HX.out 2).trans rfl; have fx2 : w8.frozen? ⟨bx, 2, none⟩ = false := blk_frozen HX.out 2; have hx3 : w8.cell? ⟨bx, 3, none⟩ = some (.int .i64 0) := (blk_cell HX.out 3).trans rfl; have fx3 : w8.frozen? ⟨bx, 3, none⟩ = false := blk_frozen HX.out 3; have hx4 : w8.cell? ⟨bx, 4, none⟩ = some (.int .u32 0) := (blk_cell HX.out 4).trans rfl; have fx4 : w8.frozen? ⟨bx, 4, none⟩ = false := blk_frozen HX.out 4; have hx5 : w8.cell? ⟨bx, 5, none⟩ = some (.int .u32 0) := (blk_cell HX.out 5).trans rfl; have fx5 : w8.frozen? ⟨bx, 5, none⟩ = false := blk_frozen HX.out 5; have hx6 : w8.cell? ⟨bx, 6, none⟩ = some (.slice none 0 0) := (blk_cell HX.out 6).trans rfl; have fx6 : w8.frozen? ⟨bx, 6, none⟩ = false := blk_frozen HX.out 6; rw [hbx]; clear hb)
          | fail)
      all_goals
        refine hM0 _ _ (Met.intro (hJ0 _ _ ?_))
        (repeat apply Exists.intro)
        refine ⟨?_, rfl⟩
      all_goals
        first
          | (refine ⟨bx, rfl, HLT.out, HH.out.far7 HLT.out _ _ _ _ _ _ _ , blk_fill7 HX.out _ _ _ _ _ _ _ , own_far7 HOD.out HX.out (by decide) _ _ _ _ _ _ _ ⟩; done)
          | (refine ⟨w7.heap.size, rfl, blk_lt HH.out.r2, HH.out.bel (below_alloc (Below.refl _ _) _), heap_alloc_new w7 _, pw_own_below HOD.out (below_alloc (Below.refl _ _) _)⟩; done)
    clear HH HOD HH0 HOD0
    obtain ⟨bx, hs6, hlt, hh, hx', hod⟩ := hcut
    subst hs6
    have HLT := Aside0.mk hlt
    have HH := Aside0.mk hh
    have HX := Aside0.mk hx'
    have HOD := Aside0.mk hod
    clear hlt hh hx' hod
    go_upto_region 9 with (first
      | (go_at_call 41; (with_reducible refine (HA4.out _ (own_Rd HOD.out)).mono ?_); rintro r w7 ⟨rfl, hb⟩; replace HH := Aside0.mk (HH.out.bel hb); replace HOD := Aside0.mk (pw_own_below HOD.out hb); replace HX := Aside0.mk (blk_below HX.out hb))
      | (go_at_call 32; (with_reducible refine (HB1.out _ HH.out.rs).mono ?_); rintro r w6 ⟨B1, f1, rfl, ho, hc, hk⟩; replace HX := Aside0.mk (blk_rcur HX.out (by decide) HH.out.rs hk); replace HOD := Aside0.mk (own_rcur HOD.out (by decide) HH.out.rs hk);  have HO1 := Aside0.mk (own_weaken ho HH.out.kk.1); replace HH := Aside0.mk (HH.out.op hc hk); clear ho hc hk; have hx : w6.cell? ⟨bx, 6, none⟩ = some (.slice none 0 0) := (blk_cell HX.out 6).trans rfl; have fx : w6.frozen? ⟨bx, 6, none⟩ = false := blk_frozen HX.out 6)
      | fail)
    refine wp_gen (fun W => HR w0 w W g A c b t1 29 #[.int .i64 0, .int .i64 0, .int .i64 0, .int .i64 0, .int .u32 0, .int .u32 0, .slice none 0 0] ∧ W.heap[bx]? = some (.cells #[.int .i64 x1, .int .i64 x2, .int .i64 x3, .int .i64 x4, .int .u32 x5, .int .u32 x6, .slice B1 D1.length f1] 29 (0, 0)) ∧ W.ownsRow w.heap.size 5 1 (.slice A5 D.length c5) D.length (nums .u8 D) ∧ W.ownsRow w.heap.size 5 1 (.slice B1 D1.length f1) D1.length (nums .u8 D1)) ⟨HH.out.far HLT.out 6 _, blk_set HX.out 6 _, own_setCell HOD.out (own_ne HOD.out HX.out (by decide)) _, own_setCell HO1.out (own_ne HO1.out HX.out (by decide)) _⟩ ?_
    rintro W9 ⟨hh, hx', hod, ho1⟩
    replace HH := Aside0.mk hh
    replace HX := Aside0.mk hx'
    replace HOD := Aside0.mk hod
    replace HO1 := Aside0.mk ho1
    clear hh hx' hod ho1
    try clear hx fx
    have ce : W9.cell? ⟨g, 2, none⟩ = some (.int .i64 0) := by have h9 := (blk_cell HH.out.rs.blk 2).trans rfl; rw [HE2.out] at h9; exact h9
    go_upto_if 50 with fail
    go_wp2_with (first
      | ((with_reducible refine gate_dst (N := 56) rfl ?_); refine wpList_load_row rfl 29 (.tmp 6) rfl bx rfl 29 _ (0, 0) _ HX.out Try.underlying29 rfl (by kernel_rfl) ?_)
      | ((with_reducible refine gate_store (t := 29) (p := 2) (v := .tmp 56) rfl ?_); refine wpList_store_mid rfl 29 (.tmp 2) (.tmp 56) rfl w.heap.size 0 #[.int .i64 x1, .int .i64 x2, .int .i64 x3, .int .i64 x4, .int .u32 x5, .int .u32 x6, .slice B1 D1.length f1] rfl rfl (there_of HH.out.r2 _ (by simp)) (by kernel_rfl) (by simp [Value.oneCell']) ?_; refine wpl_gen (fun W => HR w0 w W g A c b t1 29 #[.int .i64 x1, .int .i64 x2, .int .i64 x3, .int .i64 x4, .int .u32 x5, .int .u32 x6, .slice B1 D1.length f1] ∧ W.ownsRow w.heap.size 5 1 (.slice B1 D1.length f1) D1.length (nums .u8 D1)) ⟨HH.out.put _ rfl, own_setCells HO1.out HH.out.r2 (by decide) _⟩ ?_; rintro w5 ⟨hh, ho1⟩; replace HH := Aside0.mk hh; replace HO1 := Aside0.mk ho1)
      | fail)
    refine bodyPost_ret (results_ct rfl _ _ w.heap.size 29 _ (0, 0) _ rfl HH.out.r2 Try.underlying29 rfl (by kernel_rfl)) rfl ?_
    exact ⟨B1, f1, ⟨rfl, HH.out.rs, HH.out.kk⟩, HO1.out⟩
  · have hst := HST.out heH
    have h9 := HE2.out
    rw [hst] at h9
    exact absurd h9 heH
end Go.Proofs.Ytpmiofjhgmdghaa.Fld
