/- The law FieldNobody, walked. -/
import Derived.Test.YtedboieaefdbdaaFieldNil
import Derived.Test.YtedboieaefdbdaaFieldLives
namespace Go.Proofs.Ytedboieaefdbdaa.Fld
open Go.RowKit Go.Proofs.YtedboieaefdbdaaW.PrintWords Go.Proofs.YtedboieaefdbdaaW.PrintLast Go.Proofs.YtedboieaefdbdaaW.PrintMore
set_option linter.unusedVariables false
set_option linter.unusedSimpArgs false
set_option maxHeartbeats 4000000 in
set_option maxRecDepth 100000 in
theorem nobody_any (n x : Int) (w : World) : Calls Try.prog 7 #[.int .i64 n, .int .u32 x] w fun e w' => e = .returned (.bool true) ∧ Below w.heap.size w w' := by
  have PB : Aside0 (((w.alloc (.cells #[.slice none 0 0, .int .i64 0, .int .i64 0, .bool false] 58)).alloc (.cells #[.int .u8 1] 5)).heap[w.heap.size]? = some (.cells #[.slice none 0 0, .int .i64 0, .int .i64 0, .bool false] 58 (0, 0))) :=
    ⟨blk_alloc (heap_alloc_new w _) _⟩
  go_enter Try.func7, Try.ntmps7
  go_wp2_with (first
    | (go_at_call 16; refine (nil_u16 _ _).mono ?_; rintro e w' ⟨rfl, hs⟩; subst hs)
    | (go_at_call 18; refine (nil_u32 _ _).mono ?_; rintro e w' ⟨rfl, hs⟩; subst hs)
    | (go_at_call 19; refine (nil_put _ _).mono ?_; rintro e w' ⟨rfl, hs⟩; subst hs)
    | (go_at_call 21; refine (nil_bytes _).mono ?_; rintro e w' ⟨rfl, hs⟩; subst hs)
    | (go_at_call 22; refine (nil_err _).mono ?_; rintro e w' ⟨rfl, hs⟩; subst hs)
    | (go_at_call 24; refine (bad_u16 _ _ (by first | exact Or.inl rfl | exact Or.inr ⟨_, rfl, PB.out⟩)).mono ?_; rintro e w' ⟨rfl, hs⟩; subst hs)
    | (go_at_call 26; refine (bad_u32 _ _ (by first | exact Or.inl rfl | exact Or.inr ⟨_, rfl, PB.out⟩)).mono ?_; rintro e w' ⟨rfl, hs⟩; subst hs)
    | (go_at_call 27; refine (bad_bytes _ _ _ (by first | exact Or.inl rfl | exact Or.inr ⟨_, rfl, PB.out⟩)).mono ?_; rintro e w' ⟨rfl, hs⟩; subst hs)
    | (go_at_call 28; refine (bad_left _ _ (by first | exact Or.inl rfl | exact Or.inr ⟨_, rfl, PB.out⟩)).mono ?_; rintro e w' ⟨rfl, hs⟩; subst hs)
    | (go_at_call 30; refine (bad_at _ _ (by first | exact Or.inl rfl | exact Or.inr ⟨_, rfl, PB.out⟩)).mono ?_; rintro e w' ⟨rfl, hs⟩; subst hs)
    | (go_at_call 31; refine (bad_err _ _ (by first | exact Or.inl rfl | exact Or.inr ⟨_, rfl, PB.out⟩)).mono ?_; rintro e w' ⟨rfl, hs⟩; subst hs)
    | (go_at_call 32; refine (bad_end _ _ (by first | exact Or.inl rfl | exact Or.inr ⟨_, rfl, PB.out⟩)).mono ?_; rintro e w' ⟨rfl, hs⟩; subst hs)
    | (go_at_call 14; refine (field_lives _).mono ?_; rintro e w' ⟨rfl, hb⟩; have HB := Aside0.mk hb; clear hb))
  go_ret
  exact ⟨rfl, (below_alloc (below_alloc (Below.refl _ _) _) _).trans (HB.out.mono (by simp; omega))⟩
end Go.Proofs.Ytedboieaefdbdaa.Fld
