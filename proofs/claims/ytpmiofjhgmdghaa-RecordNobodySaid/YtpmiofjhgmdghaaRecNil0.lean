/- record's readers without a cursor, walked. -/
import Derived.Test.YtpmiofjhgmdghaaFieldNil
import Derived.Test.YtpmiofjhgmdghaaRecWrite0
namespace Go.Proofs.Ytpmiofjhgmdghaa.Fld
open Go.RowKit Go.Proofs.YtpmiofjhgmdghaaW.PrintWords Go.Proofs.YtpmiofjhgmdghaaW.PrintLast Go.Proofs.YtpmiofjhgmdghaaW.PrintMore
set_option linter.unusedVariables false
set_option linter.unusedSimpArgs false
set_option maxHeartbeats 1000000 in
theorem bad_sign (w : World) (p : Option Addr) (x : Int) (h : BadCur w p) : Calls Try.prog 52 #[.pointer p, .int .u32 x] w (Same (.int .i64 1) w) := by
  have h0 := Aside0.mk h
  clear h
  go_enter Try.func52, Try.ntmps52
  go_wp2_with (first
    | (go_at_call 55; refine (bad_u32 _ _ h0.out).mono ?_; rintro e w' ⟨rfl, hs⟩; subst hs)
    | (go_at_call 37; refine (bad_err _ _ h0.out).mono ?_; rintro e w' ⟨rfl, hs⟩; subst hs))
  go_ret
  exact ⟨rfl, rfl⟩
theorem BadCur.alloc {w : World} {p : Option Addr} (h : BadCur w p) (o : Obj) : BadCur (w.alloc o) p := by
  rcases h with h | ⟨g, h, hb⟩
  · exact .inl h
  · exact .inr ⟨g, h, blk_alloc hb o⟩
def zHead : Value := .agg #[.int .i64 0, .int .i64 0, .int .i64 0, .int .i64 0, .int .i64 0, .int .u32 0, .int .u32 0, .int .u32 0, .slice none 0 0, .slice none 0 0]
def zCentral : Value := .agg #[.int .i64 0, .int .i64 0, .int .i64 0, .int .i64 0, .int .i64 0, .int .u32 0, .int .u32 0, .int .u32 0, .slice none 0 0, .slice none 0 0, .int .i64 0, .int .i64 0, .int .i64 0, .int .u32 0, .int .u32 0, .slice none 0 0]
def zEnd : Value := .agg #[.int .i64 0, .int .i64 0, .int .i64 0, .int .i64 0, .int .u32 0, .int .u32 0, .slice none 0 0]
def Zero (z : Value) (w : World) (r : Ending) (w' : World) : Prop := r = .returned (.tuple #[z, .int .i64 1]) ∧ Below w.heap.size w w'
set_option maxHeartbeats 4000000 in
set_option maxRecDepth 100000 in
theorem bad_local (w : World) (p : Option Addr) (h : BadCur w p) : Calls Try.prog 23 #[.pointer p] w (Zero zHead w) := by
  have h0 := Aside0.mk (h.alloc (.cells #[.int .i64 0, .int .i64 0, .int .i64 0, .int .i64 0, .int .i64 0, .int .u32 0, .int .u32 0, .int .u32 0, .slice none 0 0, .slice none 0 0] 37))
  clear h
  go_enter Try.func23, Try.ntmps23
  go_wp2_with (go_at_call 52; refine (bad_sign _ _ _ h0.out).mono ?_; rintro e w' ⟨rfl, hs⟩; subst hs)
  exact bodyPost_ret (v := .tuple #[zHead, .int .i64 1]) (by simp [results, Try.results23, go_sem, zHead]) rfl ⟨rfl, by repeat (first | exact Below.refl _ _ | (with_reducible refine below_alloc ?_ _) | (refine Below.setCell ?_ (by simp) _))⟩
set_option maxHeartbeats 4000000 in
set_option maxRecDepth 100000 in
theorem bad_central (w : World) (p : Option Addr) (h : BadCur w p) : Calls Try.prog 24 #[.pointer p] w (Zero zCentral w) := by
  have h0 := Aside0.mk (h.alloc (.cells #[.int .i64 0, .int .i64 0, .int .i64 0, .int .i64 0, .int .i64 0, .int .u32 0, .int .u32 0, .int .u32 0, .slice none 0 0, .slice none 0 0, .int .i64 0, .int .i64 0, .int .i64 0, .int .u32 0, .int .u32 0, .slice none 0 0] 39))
  clear h
  go_enter Try.func24, Try.ntmps24
  go_wp2_with (go_at_call 52; refine (bad_sign _ _ _ h0.out).mono ?_; rintro e w' ⟨rfl, hs⟩; subst hs)
  exact bodyPost_ret (v := .tuple #[zCentral, .int .i64 1]) (by simp [results, Try.results24, go_sem, zCentral]) rfl ⟨rfl, by repeat (first | exact Below.refl _ _ | (with_reducible refine below_alloc ?_ _) | (refine Below.setCell ?_ (by simp) _))⟩
set_option maxHeartbeats 4000000 in
set_option maxRecDepth 100000 in
theorem bad_end_ (w : World) (p : Option Addr) (h : BadCur w p) : Calls Try.prog 25 #[.pointer p] w (Zero zEnd w) := by
  have h0 := Aside0.mk (h.alloc (.cells #[.int .i64 0, .int .i64 0, .int .i64 0, .int .i64 0, .int .u32 0, .int .u32 0, .slice none 0 0] 29))
  clear h
  go_enter Try.func25, Try.ntmps25
  go_wp2_with (go_at_call 52; refine (bad_sign _ _ _ h0.out).mono ?_; rintro e w' ⟨rfl, hs⟩; subst hs)
  exact bodyPost_ret (v := .tuple #[zEnd, .int .i64 1]) (by simp [results, Try.results25, go_sem, zEnd]) rfl ⟨rfl, by repeat (first | exact Below.refl _ _ | (with_reducible refine below_alloc ?_ _) | (refine Below.setCell ?_ (by simp) _))⟩
end Go.Proofs.Ytpmiofjhgmdghaa.Fld
