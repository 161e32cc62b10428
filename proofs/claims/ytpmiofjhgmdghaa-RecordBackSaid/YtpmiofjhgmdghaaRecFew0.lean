/- record: the reference's CutHead, walked. -/
import Derived.Test.YtpmiofjhgmdghaaRecRead2
import Derived.Test.YtpmiofjhgmdghaaMyCut
import Derived.Test.YtpmiofjhgmdghaaRCx1
namespace Go.Proofs.Ytpmiofjhgmdghaa.Fld
open Go.Proofs.Ytpmiofjhgmdghaa.RC
open Go.RowKit Go.Proofs.YtpmiofjhgmdghaaW.PrintWords Go.Proofs.YtpmiofjhgmdghaaW.PrintLast Go.Proofs.YtpmiofjhgmdghaaW.PrintMore
set_option linter.unusedVariables false
set_option linter.unusedSimpArgs false
/-- a struct's box and a result's box -/
structure K2 (w W : World) (C R : Array Value) : Prop where
  x : W.heap[w.heap.size]? = some (.cells C 37 (0, 0))
  r : W.heap[w.heap.size + 1]? = some (.cells R 37 (0, 0))
  b : Below w.heap.size w W
section
variable {w W W' : World} {C R : Array Value}
theorem K2.bel (h : K2 w W C R) (hb : Below W.heap.size W W') : K2 w W' C R := ⟨blk_below h.x hb, blk_below h.r hb, below_step h.b hb⟩
theorem K2.drew (h : K2 w W C R) : K2 w W.drew C R := ⟨h.x, h.r, below_drew h.b⟩
theorem K2.setX (h : K2 w W C R) (j : Nat) (u : Value) : K2 w (W.setCell ⟨w.heap.size, j, none⟩ u) (C.setIfInBounds j u) R :=
  ⟨blk_set h.x j u, blk_far h.r (by show w.heap.size + 1 ≠ w.heap.size; omega) u, h.b.setCell (Nat.le_refl _) u⟩
theorem K2.setR (h : K2 w W C R) (j : Nat) (u : Value) : K2 w (W.setCell ⟨w.heap.size + 1, j, none⟩ u) C (R.setIfInBounds j u) :=
  ⟨blk_far h.x (by show w.heap.size ≠ w.heap.size + 1; omega) u, blk_set h.r j u, h.b.setCell (Nat.le_succ _) u⟩
theorem K2.fill {c0 c1 c2 c3 c4 c5 c6 c7 c8 c9 : Value} (h : K2 w W C #[c0, c1, c2, c3, c4, c5, c6, c7, c8, c9]) (u0 u1 u2 u3 u4 u5 u6 u7 u8 u9 : Value) : K2 w ((((((((((W.setCell ⟨w.heap.size + 1, 0, none⟩ u0).setCell ⟨w.heap.size + 1, 1, none⟩ u1).setCell ⟨w.heap.size + 1, 2, none⟩ u2).setCell ⟨w.heap.size + 1, 3, none⟩ u3).setCell ⟨w.heap.size + 1, 4, none⟩ u4).setCell ⟨w.heap.size + 1, 5, none⟩ u5).setCell ⟨w.heap.size + 1, 6, none⟩ u6).setCell ⟨w.heap.size + 1, 7, none⟩ u7).setCell ⟨w.heap.size + 1, 8, none⟩ u8).setCell ⟨w.heap.size + 1, 9, none⟩ u9) C #[u0, u1, u2, u3, u4, u5, u6, u7, u8, u9] := by
  have hc := ((((((((((h.setR 0 u0).setR 1 u1).setR 2 u2).setR 3 u3).setR 4 u4).setR 5 u5).setR 6 u6).setR 7 u7).setR 8 u8).setR 9 u9)
  simp only [List.setIfInBounds_toArray, List.set_cons_zero, List.set_cons_succ] at hc
  exact hc
end
theorem own_blkne {W : World} {base n g t : Nat} {v : Value} {xs : List Value} {cs : Array Value} (h : W.ownsRow base 5 1 v n xs) (hg : W.heap[g]? = some (.cells cs t (0, 0))) (ht : 5 ≠ t) {k : Nat} (hk : v.ownBlock = some k) : k ≠ g :=
  fun e => own_ne h hg ht (by rw [← e]; exact hk.symm)
/-- what CutHead answers: the numbers as they were, pieces of its own -/
def CutPost (w : World) (V : Value → Value → Array Value) (r8 r9 : List Int) (r : Ending) (w' : World) : Prop :=
  ∃ A18 c18 A19 c19, r = .returned (.agg (V (.slice A18 r8.length c18) (.slice A19 r9.length c19))) ∧ w'.ownsRow w.heap.size 5 1 (.slice A18 r8.length c18) r8.length (nums .u8 r8) ∧ w'.ownsRow w.heap.size 5 1 (.slice A19 r9.length c19) r9.length (nums .u8 r9) ∧ Below w.heap.size w w'
theorem copy_f (l : List Int) (h : l.length ≤ 100) : duffelref01_Copy.f l = some l := by
  unfold duffelref01_Copy.f
  rw [if_pos (by simp; omega)]
  simp
set_option maxHeartbeats 4000000 in
set_option maxRecDepth 100000 in
theorem cutHead (w : World) (a0 a1 a2 a3 a4 a5 a6 a7 : Int) (A8 A9 : Option Addr) (b8 b9 : List Int) (c8 c9 : Nat) (h8 : Kd.C (Kd.int .u8) w A8 b8.length b8) (l8 : b8.length ≤ c8) (h9 : Kd.C (Kd.int .u8) w A9 b9.length b9) (l9 : b9.length ≤ c9) :
    Calls Try.prog 47 #[.agg #[.int .i64 a0, .int .i64 a1, .int .i64 a2, .int .i64 a3, .int .i64 a4, .int .u32 a5, .int .u32 a6, .int .u32 a7, .slice A8 b8.length c8, .slice A9 b9.length c9], .int .i64 100] w (CutPost w (fun x y => #[.int .i64 a0, .int .i64 a1, .int .i64 a2, .int .i64 a3, .int .i64 a4, .int .u32 a5, .int .u32 a6, .int .u32 a7, x, y]) (b8.take 100) (b9.take 100)) := by
  obtain ⟨r8, hr8⟩ : ∃ r, b8.take 100 = r := ⟨_, rfl⟩
  obtain ⟨r9, hr9⟩ : ∃ r, b9.take 100 = r := ⟨_, rfl⟩
  have HF8 : Aside0 (MyCut.cut_u8.f b8 100 = some r8) := ⟨hr8 ▸ MyCut.cut_u8.nat b8 100⟩
  have HF9 : Aside0 (MyCut.cut_u8.f b9 100 = some r9) := ⟨hr9 ▸ MyCut.cut_u8.nat b9 100⟩
  have HC8 : Aside0 (Kd.C (Kd.int .u8) w A8 r8.length r8) := ⟨MyCut.C_cut_u8 h8 HF8.out⟩
  have HC9 : Aside0 (Kd.C (Kd.int .u8) w A9 r9.length r9) := ⟨MyCut.C_cut_u8 h9 HF9.out⟩
  have HM8 : Aside0 (r8.length ≤ c8) := ⟨MyCut.le_cut_u8 l8 HF8.out⟩
  have HM9 : Aside0 (r9.length ≤ c9) := ⟨MyCut.le_cut_u8 l9 HF9.out⟩
  have HP8 : Aside0 (duffelref01_Copy.f r8 = some r8) := ⟨copy_f _ (by rw [← hr8]; simp; omega)⟩
  have HP9 : Aside0 (duffelref01_Copy.f r9 = some r9) := ⟨copy_f _ (by rw [← hr9]; simp; omega)⟩
  have HL8 := Aside0.mk l8
  have HL9 := Aside0.mk l9
  rw [hr8, hr9]
  clear h8 h9 l8 l9 hr8 hr9
  have HK : Aside0 (K2 w ((w.alloc (.cells #[.int .i64 a0, .int .i64 a1, .int .i64 a2, .int .i64 a3, .int .i64 a4, .int .u32 a5, .int .u32 a6, .int .u32 a7, .slice A8 b8.length c8, .slice A9 b9.length c9] 37)).alloc (.cells #[.int .i64 0, .int .i64 0, .int .i64 0, .int .i64 0, .int .i64 0, .int .u32 0, .int .u32 0, .int .u32 0, .slice none 0 0, .slice none 0 0] 37)) #[.int .i64 a0, .int .i64 a1, .int .i64 a2, .int .i64 a3, .int .i64 a4, .int .u32 a5, .int .u32 a6, .int .u32 a7, .slice A8 b8.length c8, .slice A9 b9.length c9] #[.int .i64 0, .int .i64 0, .int .i64 0, .int .i64 0, .int .i64 0, .int .u32 0, .int .u32 0, .int .u32 0, .slice none 0 0, .slice none 0 0]) := by
    refine ⟨⟨blk_alloc (heap_alloc_new w _) _, ?_, below_alloc (below_alloc (Below.refl _ _) _) _⟩⟩
    have h9 := heap_alloc_new (w.alloc (.cells #[.int .i64 a0, .int .i64 a1, .int .i64 a2, .int .i64 a3, .int .i64 a4, .int .u32 a5, .int .u32 a6, .int .u32 a7, .slice A8 b8.length c8, .slice A9 b9.length c9] 37)) (.cells #[.int .i64 0, .int .i64 0, .int .i64 0, .int .i64 0, .int .i64 0, .int .u32 0, .int .u32 0, .int .u32 0, .slice none 0 0, .slice none 0 0] 37)
    simpa using h9
  go_enter Try.func47, Try.ntmps47
  go_upto_region 1 with fail
  try rw [show (w.alloc (.cells #[.int .i64 a0, .int .i64 a1, .int .i64 a2, .int .i64 a3, .int .i64 a4, .int .u32 a5, .int .u32 a6, .int .u32 a7, .slice A8 b8.length c8, .slice A9 b9.length c9] 37)).heap.size = w.heap.size + 1 from by simp]
  refine wp_gen (fun W => K2 w W #[.int .i64 a0, .int .i64 a1, .int .i64 a2, .int .i64 a3, .int .i64 a4, .int .u32 a5, .int .u32 a6, .int .u32 a7, .slice A8 b8.length c8, .slice A9 b9.length c9] #[.int .i64 0, .int .i64 0, .int .i64 0, .int .i64 0, .int .i64 0, .int .u32 0, .int .u32 0, .int .u32 0, .slice none 0 0, .slice none 0 0]) HK.out ?_
  rintro W1 hk1
  replace HK := Aside0.mk hk1.drew
  clear hk1
  have hx8 : W1.drew.cell? ⟨w.heap.size, 8, none⟩ = some (.slice A8 b8.length c8) := (blk_cell HK.out.x 8).trans rfl; have fx8 := blk_frozen HK.out.x 8; have hx9 : W1.drew.cell? ⟨w.heap.size, 9, none⟩ = some (.slice A9 b9.length c9) := (blk_cell HK.out.x 9).trans rfl; have fx9 := blk_frozen HK.out.x 9
  refine Code.wp_mono (Q := Exit.then (fun a W => ∃ A18 c18 A19 c19, a = ⟨#[.agg #[.int .i64 a0, .int .i64 a1, .int .i64 a2, .int .i64 a3, .int .i64 a4, .int .u32 a5, .int .u32 a6, .int .u32 a7, .slice A8 b8.length c8, .slice A9 b9.length c9], .int .i64 100, .pointer (some ⟨w.heap.size, 0, none⟩), undef, .pointer (some ⟨w.heap.size + 1, 0, none⟩), .pointer (some ⟨w.heap.size, 8, none⟩), .slice A8 b8.length c8, .int .i64 100, .slice A8 r8.length c8, .slice A18 r8.length c18, .pointer (some ⟨w.heap.size, 9, none⟩), .slice A9 b9.length c9, .int .i64 100, .slice A9 r9.length c9, .slice A19 r9.length c19, .pointer (some ⟨w.heap.size, 8, none⟩), .pointer (some ⟨w.heap.size, 9, none⟩), undef], []⟩ ∧ K2 w W #[.int .i64 a0, .int .i64 a1, .int .i64 a2, .int .i64 a3, .int .i64 a4, .int .u32 a5, .int .u32 a6, .int .u32 a7, .slice A18 r8.length c18, .slice A19 r9.length c19] #[.int .i64 0, .int .i64 0, .int .i64 0, .int .i64 0, .int .i64 0, .int .u32 0, .int .u32 0, .int .u32 0, .slice none 0 0, .slice none 0 0] ∧ W.ownsRow w.heap.size 5 1 (.slice A18 r8.length c18) r8.length (nums .u8 r8) ∧ W.ownsRow w.heap.size 5 1 (.slice A19 r9.length c19) r9.length (nums .u8 r9)) (fun _ _ _ => False)) ?_ ?_
  rotate_left
  · go_wp2_with fail
    go_region_law (first
      | (go_simp; go_at_call 9; (with_reducible refine (MyCut.cut_u8.calls A8 c8 b8 100 r8 _ HL8.out HF8.out).mono ?_); rintro e w' ⟨rfl, hs_⟩; subst hs_)
      | (go_simp; go_at_call 9; (with_reducible refine (MyCut.cut_u8.calls A9 c9 b9 100 r9 _ HL9.out HF9.out).mono ?_); rintro e w' ⟨rfl, hs_⟩; subst hs_)
      | (go_simp; go_at_call 15; (with_reducible refine (duffelref01_Copy.calls A8 c8 r8 r8 _ (Kd.C_below HC8.out HK.out.b) HM8.out HP8.out).mono ?_); rintro e w9 ⟨v_, rfl, hv, hb⟩; have ho := Kd.own_of_R hv; clear hv; obtain ⟨A18, c18, rfl⟩ := own_slice ho; have HO8 := Aside0.mk (own_weaken ho HK.out.b.size); (try have HO9 := Aside0.mk (pw_own_below HO9.out hb)); replace HK := Aside0.mk (HK.out.bel hb); clear ho hb; have hx8 : w9.cell? ⟨w.heap.size, 8, none⟩ = some (.slice A8 b8.length c8) := (blk_cell HK.out.x 8).trans rfl; have fx8 := blk_frozen HK.out.x 8; have hx9 : w9.cell? ⟨w.heap.size, 9, none⟩ = some (.slice A9 b9.length c9) := (blk_cell HK.out.x 9).trans rfl; have fx9 := blk_frozen HK.out.x 9)
      | (go_simp; go_at_call 15; (with_reducible refine (duffelref01_Copy.calls A9 c9 r9 r9 _ (Kd.C_below HC9.out HK.out.b) HM9.out HP9.out).mono ?_); rintro e w9 ⟨v_, rfl, hv, hb⟩; have ho := Kd.own_of_R hv; clear hv; obtain ⟨A19, c19, rfl⟩ := own_slice ho; have HO9 := Aside0.mk (own_weaken ho HK.out.b.size); (try have HO8 := Aside0.mk (pw_own_below HO8.out hb)); replace HK := Aside0.mk (HK.out.bel hb); clear ho hb; have hx8 : w9.cell? ⟨w.heap.size, 8, none⟩ = some (.slice A8 b8.length c8) := (blk_cell HK.out.x 8).trans rfl; have fx8 := blk_frozen HK.out.x 8; have hx9 : w9.cell? ⟨w.heap.size, 9, none⟩ = some (.slice A9 b9.length c9) := (blk_cell HK.out.x 9).trans rfl; have fx9 := blk_frozen HK.out.x 9)
      | fail)
    all_goals
      refine ⟨A18, c18, A19, c19, rfl, ?_, ?_, ?_⟩
      · exact (HK.out.setX 8 _).setX 9 _
      · exact own_setCell (p := ⟨w.heap.size, 9, none⟩) (own_setCell (p := ⟨w.heap.size, 8, none⟩) HO8.out (own_ne HO8.out HK.out.x (by decide)) _) (by have h9 := own_ne HO8.out HK.out.x (by decide); simpa using h9) _
      · exact own_setCell (p := ⟨w.heap.size, 9, none⟩) (own_setCell (p := ⟨w.heap.size, 8, none⟩) HO9.out (own_ne HO9.out HK.out.x (by decide)) _) (by have h9 := own_ne HO9.out HK.out.x (by decide); simpa using h9) _
  · intro e a W9 hq
    cases e <;> first | exact hq.elim | skip
    obtain ⟨A18, c18, A19, c19, rfl, hk, ho8, ho9⟩ := hq
    replace HK := Aside0.mk hk
    have HO8 := Aside0.mk ho8
    have HO9 := Aside0.mk ho9
    clear hk ho8 ho9
    try clear hx8 fx8 hx9 fx9
    have hp0 : W9.cell? ⟨w.heap.size + 1, 0, none⟩ = some (.int .i64 0) := (blk_cell HK.out.r 0).trans rfl; have hq0 := blk_frozen HK.out.r 0; have hy0 : W9.cell? ⟨w.heap.size, 0, none⟩ = some (.int .i64 a0) := (blk_cell HK.out.x 0).trans rfl; have hp1 : W9.cell? ⟨w.heap.size + 1, 1, none⟩ = some (.int .i64 0) := (blk_cell HK.out.r 1).trans rfl; have hq1 := blk_frozen HK.out.r 1; have hy1 : W9.cell? ⟨w.heap.size, 1, none⟩ = some (.int .i64 a1) := (blk_cell HK.out.x 1).trans rfl; have hp2 : W9.cell? ⟨w.heap.size + 1, 2, none⟩ = some (.int .i64 0) := (blk_cell HK.out.r 2).trans rfl; have hq2 := blk_frozen HK.out.r 2; have hy2 : W9.cell? ⟨w.heap.size, 2, none⟩ = some (.int .i64 a2) := (blk_cell HK.out.x 2).trans rfl; have hp3 : W9.cell? ⟨w.heap.size + 1, 3, none⟩ = some (.int .i64 0) := (blk_cell HK.out.r 3).trans rfl; have hq3 := blk_frozen HK.out.r 3; have hy3 : W9.cell? ⟨w.heap.size, 3, none⟩ = some (.int .i64 a3) := (blk_cell HK.out.x 3).trans rfl; have hp4 : W9.cell? ⟨w.heap.size + 1, 4, none⟩ = some (.int .i64 0) := (blk_cell HK.out.r 4).trans rfl; have hq4 := blk_frozen HK.out.r 4; have hy4 : W9.cell? ⟨w.heap.size, 4, none⟩ = some (.int .i64 a4) := (blk_cell HK.out.x 4).trans rfl; have hp5 : W9.cell? ⟨w.heap.size + 1, 5, none⟩ = some (.int .u32 0) := (blk_cell HK.out.r 5).trans rfl; have hq5 := blk_frozen HK.out.r 5; have hy5 : W9.cell? ⟨w.heap.size, 5, none⟩ = some (.int .u32 a5) := (blk_cell HK.out.x 5).trans rfl; have hp6 : W9.cell? ⟨w.heap.size + 1, 6, none⟩ = some (.int .u32 0) := (blk_cell HK.out.r 6).trans rfl; have hq6 := blk_frozen HK.out.r 6; have hy6 : W9.cell? ⟨w.heap.size, 6, none⟩ = some (.int .u32 a6) := (blk_cell HK.out.x 6).trans rfl; have hp7 : W9.cell? ⟨w.heap.size + 1, 7, none⟩ = some (.int .u32 0) := (blk_cell HK.out.r 7).trans rfl; have hq7 := blk_frozen HK.out.r 7; have hy7 : W9.cell? ⟨w.heap.size, 7, none⟩ = some (.int .u32 a7) := (blk_cell HK.out.x 7).trans rfl; have hp8 : W9.cell? ⟨w.heap.size + 1, 8, none⟩ = some (.slice none 0 0) := (blk_cell HK.out.r 8).trans rfl; have hq8 := blk_frozen HK.out.r 8; have hy8 : W9.cell? ⟨w.heap.size, 8, none⟩ = some (.slice A18 r8.length c18) := (blk_cell HK.out.x 8).trans rfl; have hp9 : W9.cell? ⟨w.heap.size + 1, 9, none⟩ = some (.slice none 0 0) := (blk_cell HK.out.r 9).trans rfl; have hq9 := blk_frozen HK.out.r 9; have hy9 : W9.cell? ⟨w.heap.size, 9, none⟩ = some (.slice A19 r9.length c19) := (blk_cell HK.out.x 9).trans rfl
    go_wp2_with fail
    have HW8 := own_move HO8.out (fun k hk => keep10 W9 (w.heap.size + 1) k (own_blkne HO8.out HK.out.r (by decide) hk) (.int .i64 a0) (.int .i64 a1) (.int .i64 a2) (.int .i64 a3) (.int .i64 a4) (.int .u32 a5) (.int .u32 a6) (.int .u32 a7) (.slice A18 r8.length c18) (.slice A19 r9.length c19))
    have HW9 := own_move HO9.out (fun k hk => keep10 W9 (w.heap.size + 1) k (own_blkne HO9.out HK.out.r (by decide) hk) (.int .i64 a0) (.int .i64 a1) (.int .i64 a2) (.int .i64 a3) (.int .i64 a4) (.int .u32 a5) (.int .u32 a6) (.int .u32 a7) (.slice A18 r8.length c18) (.slice A19 r9.length c19))
    have HK := Aside0.mk (HK.out.fill (.int .i64 a0) (.int .i64 a1) (.int .i64 a2) (.int .i64 a3) (.int .i64 a4) (.int .u32 a5) (.int .u32 a6) (.int .u32 a7) (.slice A18 r8.length c18) (.slice A19 r9.length c19))
    refine bodyPost_ret (results_cell_row rfl _ _ (w.heap.size + 1) 37 _ (0, 0) _ rfl HK.out.r Try.underlying37 rfl (by kernel_rfl)) rfl ?_
    exact ⟨A18, c18, A19, c19, rfl, HW8, HW9, HK.out.b⟩
end Go.Proofs.Ytpmiofjhgmdghaa.Fld
