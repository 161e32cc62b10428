/- field: lives, walked. -/
import Derived.Test.YtedboieaefdbdaaFieldCur1
namespace Go.Proofs.Ytedboieaefdbdaa.Fld
open Go.RowKit Go.Proofs.YtedboieaefdbdaaW.PrintWords Go.Proofs.YtedboieaefdbdaaW.PrintLast Go.Proofs.YtedboieaefdbdaaW.PrintMore
set_option linter.unusedVariables false
set_option linter.unusedSimpArgs false
theorem e258 : num (tkL [2, 1] 0 0 2) = 258 := by decide
theorem e4 : u32L [] 0 1 = [1, 0, 0, 0] := by decide
set_option maxHeartbeats 4000000 in
theorem field_lives (w : World) : Calls Try.prog 14 #[] w fun e w' => e = .returned (.bool true) ∧ Below w.heap.size w w' := by
  have hN : Aside0 (Kd.C (Kd.int .u8) (w.alloc (.cells #[.int .u8 2, .int .u8 1] 5)) (some ⟨w.heap.size, 0, none⟩) 2 [2, 1]) := ⟨MyWords.C_new .u8 w [2, 1] 5 _ (by decide)⟩
  have h58 := Aside0.mk e258
  have h4 := Aside0.mk e4
  go_enter Try.func14, Try.ntmps14
  go_wp2_with (first
    | (go_at_call 23; refine (cur_open _ _ 2 [2, 1] hN.out (fun h => by cases h) (by decide)).mono ?_; rintro e w1 ⟨g, v, rfl, hc, hb⟩; have HC := Aside0.mk hc; have HB1 := Aside0.mk (below_then (below_alloc (Below.refl _ _) _) (by simp) hb); clear hc hb)
    | (go_at_call 24; refine (cur_u16 w1 _ g v [2, 1] 0 0 HC.out (by decide)).mono ?_; rintro e w2 ⟨he, hc, hb⟩; rw [h58.out] at he; subst he; have HB2 := Aside0.mk (HB1.out.trans (hb.below.mono (by simp))); clear hc hb)
    | (go_at_call 15; refine (row_new w2).mono ?_; rintro e w3 ⟨rfl, hc, hb⟩; have HC3 := Aside0.mk hc; have HB3 := Aside0.mk (HB2.out.trans (hb.mono HB2.out.size)); clear hc hb)
    | (go_at_call 18; refine (row_u32 w3 _ _ _ [] 1 0 HC3.out (by decide) (by decide)).mono ?_; rintro e w4 ⟨v4, rfl, hc, hb⟩; rw [h4.out] at hc; have HC4 := Aside0.mk hc; have HB4 := Aside0.mk (HB3.out.trans (hb.below.mono HB2.out.size)); clear hc hb)
    | (go_at_call 21; refine (row_bytes w4 _ _ _ [1, 0, 0, 0] HC4.out (by decide)).mono ?_; rintro e w5 ⟨v5, rfl, hc, hb⟩; obtain ⟨A5, c5, rfl⟩ := own_slice hc; have HB5 := Aside0.mk (HB4.out.trans (hb.mono HB4.out.size)); clear hc hb))
  go_ret
  exact ⟨rfl, HB5.out⟩
end Go.Proofs.Ytedboieaefdbdaa.Fld
