/- DosAttrs, walked. -/
import Derived.Test.YtboliliohghncaaDosAttr2
import Derived.Test.YtboliliohghncaaDLx2
namespace Go.Proofs.Ytboliliohghncaa.DosWalk
open Go.RowKit Go.Proofs.YtboliliohghncaaW.PrintWords Go.Proofs.YtboliliohghncaaW.PrintLast Go.Proofs.YtboliliohghncaaW.PrintMore Go.Proofs.Ytboliliohghncaa.Dy Go.Proofs.Ytboliliohghncaa.DL
set_option linter.unusedVariables false
set_option linter.unusedSimpArgs false
theorem refbits : ∀ b0 b1 b2 b3 b4 b5 : Bool, duffelref22_Bits.f 8 b0 b1 b2 b3 b4 b5 = some (sumTo [b0, b1, b2, b3, b4, b5] 6) := by decide +kernel
theorem two_keep {W w1 : World} {z : Nat} (hz : z ≤ W.heap.size) (hb : Below W.heap.size W w1) : ∀ b o v, b < z → W.cell? ⟨b, o, none⟩ = some v → w1.cell? ⟨b, o, none⟩ = some v :=
  fun b o v h h2 => (hb.cell (p := ⟨b, o, none⟩) (Nat.lt_of_lt_of_le h hz)).trans h2
def clampZ (o : Int) : Int := if o < 0 then 0 else if o > 1099511627776 then 1099511627776 else o
theorem clamp_eq (o : Int) : duffelref01_Within.f o 0 1099511627776 = some (clampZ o) := by
  unfold duffelref01_Within.f clampZ
  by_cases h1 : o < 0
  · rw [if_pos h1, if_pos h1]
  · rw [if_neg h1, if_neg h1]
    by_cases h2 : o > 1099511627776
    · rw [if_pos h2, if_pos h2]
    · rw [if_neg h2, if_neg h2]
theorem clamp_bd (o : Int) : 0 ≤ clampZ o ∧ clampZ o ≤ 1099511627776 := by unfold clampZ; split <;> (try split) <;> omega
set_option maxHeartbeats 16000000 in
set_option maxRecDepth 100000 in
theorem attrs_law (a0 a1 a2 a3 a4 a5 : Bool) (x o : Int) (w : World) (hx0 : -9223372036854775808 ≤ x) (hx1 : x ≤ 9223372036854775807) :
    Calls Try.prog 6 #[.agg #[.bool a0, .bool a1, .bool a2, .bool a3, .bool a4, .bool a5], .int .i64 x, .int .i64 o] w (TPost w) := by
  have hcb := clamp_bd o
  have hn := sumTo_bd [a0, a1, a2, a3, a4, a5] 6
  have hbs := bit_sum [a0, a1, a2, a3, a4, a5] a0 a1 a2 a3 a4 a5 rfl (clampZ o - clampZ o % 64) (by omega)
  have hor := or_more (sumTo [a0, a1, a2, a3, a4, a5] 6) (clampZ o - clampZ o % 64) hn.1 (by have := hn.2; simp at this; omega) (by omega) (by omega) (by omega)
  have hcl := clear_low (clampZ o) hcb.1 hcb.2
  have hmk := mask_any x
  have BI := Aside0.mk (fun W : World => bits_any a0 a1 a2 a3 a4 a5 W)
  have RB := Aside0.mk (fun W : World => duffelref22_Bits.calls 8 a0 a1 a2 a3 a4 a5 _ W (refbits a0 a1 a2 a3 a4 a5))
  have WI := Aside0.mk (fun W : World => duffelref01_Within.calls o 0 1099511627776 _ W (clamp_eq o))
  have AX := Aside0.mk (fun W : World => attrs_any x W hx0 hx1)
  have AN := Aside0.mk (fun W : World => attrs_any (sumTo [a0, a1, a2, a3, a4, a5] 6 + (clampZ o - clampZ o % 64)) W (by have := hn.2; simp at this; omega) (by have := hn.2; simp at this; omega))
  have BY := Aside0.mk (fun W : World => bits_any (bitB x 0) (bitB x 1) (bitB x 2) (bitB x 3) (bitB x 4) (bitB x 5) W)
  rw [bits_sum x] at BY
  have LV := Aside0.mk (fun W : World => lives_c W)
  unfold aggB at AX AN
  obtain ⟨h0, h1, h2, h3, h4, h5⟩ := hbs
  rw [h0, h1, h2, h3, h4, h5] at AN
  generalize sumTo [a0, a1, a2, a3, a4, a5] 6 = n at *
  generalize clampZ o - clampZ o % 64 = m at *
  generalize clampZ o = z at *
  generalize bitB x 0 = y0 at *
  generalize bitB x 1 = y1 at *
  generalize bitB x 2 = y2 at *
  generalize bitB x 3 = y3 at *
  generalize bitB x 4 = y4 at *
  generalize bitB x 5 = y5 at *
  generalize x % 64 = xm at *
  clear h0 h1 h2 h3 h4 h5 hn hcb hx0 hx1
  go_enter Try.func6, Try.ntmps6
  go_upto_region 4 with (first
    | (go_at_call 16; (with_reducible refine (BI.out _).mono ?_); rintro e w1 ⟨rfl, hb1⟩; have K1 := Aside0.mk ((hb1.block w.heap.size (by simp)).trans (heap_alloc_new w _)); have HB1 := Aside0.mk (below_step (below_alloc (Below.refl w.heap.size w) _) hb1); clear hb1 BI)
    | (go_at_call 17; (with_reducible refine (WI.out _).mono ?_); rintro e w2 ⟨rfl, hd⟩; obtain ⟨nd, rfl⟩ := hd)
    | (go_at_call 18; (with_reducible refine (AX.out _).mono ?_); rintro e w3 ⟨rfl, hb3⟩; have K3 := Aside0.mk ((hb3.block w.heap.size (by have := HB1.out.size; have hl := blk_lt K1.out; exact hl)).trans K1.out); have HB3 := Aside0.mk (below_step (pw_below_drewN HB1.out nd) hb3); clear hb3 AX))
  have W0 := Aside0.mk (below_drew (below_alloc HB3.out (.cells #[.bool y0, .bool y1, .bool y2, .bool y3, .bool y4, .bool y5] 40)))
  have hsz : w.heap.size < w3.heap.size := blk_lt K3.out
  obtain ⟨c0, c1, c2, c3, c4, c5⟩ : w3.cell? ⟨w.heap.size, 0, none⟩ = some (.bool a0) ∧ w3.cell? ⟨w.heap.size, 1, none⟩ = some (.bool a1) ∧ w3.cell? ⟨w.heap.size, 2, none⟩ = some (.bool a2) ∧ w3.cell? ⟨w.heap.size, 3, none⟩ = some (.bool a3) ∧ w3.cell? ⟨w.heap.size, 4, none⟩ = some (.bool a4) ∧ w3.cell? ⟨w.heap.size, 5, none⟩ = some (.bool a5) :=
    ⟨(cell_of_row w3 _ 0 _ _ _ K3.out).trans rfl, (cell_of_row w3 _ 1 _ _ _ K3.out).trans rfl, (cell_of_row w3 _ 2 _ _ _ K3.out).trans rfl, (cell_of_row w3 _ 3 _ _ _ K3.out).trans rfl, (cell_of_row w3 _ 4 _ _ _ K3.out).trans rfl, (cell_of_row w3 _ 5 _ _ _ K3.out).trans rfl⟩
  have HT : Aside0 (Below w.heap.size w (w3.alloc (.cells #[.bool y0, .bool y1, .bool y2, .bool y3, .bool y4, .bool y5] 40)).drew ∧ w3.heap.size + 1 ≤ (w3.alloc (.cells #[.bool y0, .bool y1, .bool y2, .bool y3, .bool y4, .bool y5] 40)).drew.heap.size) := ⟨W0.out, by show _ ≤ (w3.alloc _).heap.size; simp⟩
  go_region_held3 (fun w' => w'.cell? ⟨w.heap.size, 0, none⟩ = some (.bool a0) ∧ w'.cell? ⟨w.heap.size, 1, none⟩ = some (.bool a1) ∧ w'.cell? ⟨w.heap.size, 2, none⟩ = some (.bool a2) ∧ w'.cell? ⟨w.heap.size, 3, none⟩ = some (.bool a3) ∧ w'.cell? ⟨w.heap.size, 4, none⟩ = some (.bool a4) ∧ w'.cell? ⟨w.heap.size, 5, none⟩ = some (.bool a5) ∧ w'.cell? ⟨w3.heap.size, 0, none⟩ = some (.bool y0) ∧ w'.cell? ⟨w3.heap.size, 1, none⟩ = some (.bool y1) ∧ w'.cell? ⟨w3.heap.size, 2, none⟩ = some (.bool y2) ∧ w'.cell? ⟨w3.heap.size, 3, none⟩ = some (.bool y3) ∧ w'.cell? ⟨w3.heap.size, 4, none⟩ = some (.bool y4) ∧ w'.cell? ⟨w3.heap.size, 5, none⟩ = some (.bool y5))
    (((try dsimp only); (repeat' apply And.intro); (all_goals (first | go_keep | (go_split_ands; exact kp _ _ _ (by first | assumption | omega | (simp; done)) (by assumption))))))
    (first
      | (go_at_call 19; (refine (RB.out _).mono ?_); rintro e wx ⟨rfl, hbx⟩; have kp := two_keep HT.out.2 hbx; have HT := Aside0.mk (And.intro (below_step HT.out.1 hbx) (Nat.le_trans HT.out.2 hbx.size)); clear hbx)
      | (go_at_call 18; (refine (AN.out _).mono ?_); rintro e wx ⟨rfl, hbx⟩; have kp := two_keep HT.out.2 hbx; have HT := Aside0.mk (And.intro (below_step HT.out.1 hbx) (Nat.le_trans HT.out.2 hbx.size)); clear hbx)
      | (go_at_call 16; (refine (BY.out _).mono ?_); rintro e wx ⟨rfl, hbx⟩; have kp := two_keep HT.out.2 hbx; have HT := Aside0.mk (And.intro (below_step HT.out.1 hbx) (Nat.le_trans HT.out.2 hbx.size)); clear hbx)
      | (go_at_call 10; (refine (LV.out _).mono ?_); rintro e wx ⟨rfl, hbx⟩; have kp := two_keep HT.out.2 hbx; have HT := Aside0.mk (And.intro (below_step HT.out.1 hbx) (Nat.le_trans HT.out.2 hbx.size)); clear hbx))
  all_goals (go_wp2; go_ret; exact ⟨rfl, HT.out.1⟩)
end Go.Proofs.Ytboliliohghncaa.DosWalk
