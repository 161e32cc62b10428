/- A row, a cursor that no call made, walked. -/
import Derived.Test.YtedboieaefdbdaaFieldCur1
namespace Go.Proofs.Ytedboieaefdbdaa.Fld
open Go.RowKit Go.Proofs.YtedboieaefdbdaaW.PrintWords Go.Proofs.YtedboieaefdbdaaW.PrintLast Go.Proofs.YtedboieaefdbdaaW.PrintMore
set_option linter.unusedVariables false
set_option linter.unusedSimpArgs false
def Same (u : Value) (w : World) (r : Ending) (w' : World) : Prop := r = .returned u ∧ w = w'
set_option maxHeartbeats 1000000 in
theorem nil_err (w : World) : Calls Try.prog 22 #[.pointer none] w (Same (.int .i64 1) w) := by
  go_enter Try.func22, Try.ntmps22
  go_wp2
  go_ret
  exact ⟨rfl, rfl⟩
set_option maxHeartbeats 1000000 in
theorem nil_number (w : World) (x n : Int) : Calls Try.prog 34 #[.pointer none, .int .u32 x, .int .i64 n] w (Same (.pointer none) w) := by
  go_enter Try.func34, Try.ntmps34
  go_wp2_with (go_at_call 22; refine (nil_err _).mono ?_; rintro e w' ⟨rfl, hs⟩; subst hs)
  go_ret
  exact ⟨rfl, rfl⟩
set_option maxHeartbeats 1000000 in
theorem nil_u16 (w : World) (x : Int) : Calls Try.prog 16 #[.pointer none, .int .i64 x] w (Same (.pointer none) w) := by
  go_enter Try.func16, Try.ntmps16
  go_wp2_with (first
    | (go_at_call 22; refine (nil_err _).mono ?_; rintro e w' ⟨rfl, hs⟩; subst hs)
    | (go_at_call 34; refine (nil_number _ _ _).mono ?_; rintro e w' ⟨rfl, hs⟩; subst hs))
  go_ret
  exact ⟨rfl, rfl⟩
set_option maxHeartbeats 1000000 in
theorem nil_u32 (w : World) (x : Int) : Calls Try.prog 18 #[.pointer none, .int .u32 x] w (Same (.pointer none) w) := by
  go_enter Try.func18, Try.ntmps18
  go_wp2_with (go_at_call 34; refine (nil_number _ _ _).mono ?_; rintro e w' ⟨rfl, hs⟩; subst hs)
  go_ret
  exact ⟨rfl, rfl⟩
set_option maxHeartbeats 1000000 in
theorem nil_put (w : World) (v : Value) : Calls Try.prog 19 #[.pointer none, v] w (Same (.pointer none) w) := by
  go_enter Try.func19, Try.ntmps19
  go_wp2_with (go_at_call 22; refine (nil_err _).mono ?_; rintro e w' ⟨rfl, hs⟩; subst hs)
  go_ret
  exact ⟨rfl, rfl⟩
set_option maxHeartbeats 1000000 in
theorem nil_bytes (w : World) : Calls Try.prog 21 #[.pointer none] w (Same (.slice none 0 0) w) := by
  go_enter Try.func21, Try.ntmps21
  go_wp2_with (go_at_call 22; refine (nil_err _).mono ?_; rintro e w' ⟨rfl, hs⟩; subst hs)
  go_ret
  exact ⟨rfl, rfl⟩
/-- A cursor that no call made: none, or its zero value. -/
def BadCur (w : World) (p : Option Addr) : Prop :=
  p = none ∨ ∃ g, p = some ⟨g, 0, none⟩ ∧ w.heap[g]? = some (.cells #[.slice none 0 0, .int .i64 0, .int .i64 0, .bool false] 58 (0, 0))
set_option maxHeartbeats 1000000 in
theorem bad_err (w : World) (p : Option Addr) (h : BadCur w p) : Calls Try.prog 31 #[.pointer p] w (Same (.int .i64 1) w) := by
  rcases h with rfl | ⟨g, rfl, hb⟩
  · go_enter Try.func31, Try.ntmps31
    go_wp2
    go_ret
    exact ⟨rfl, rfl⟩
  · have c3 : w.cell? ⟨g, 3, none⟩ = some (.bool false) := (blk_cell hb 3).trans rfl
    clear hb
    go_enter Try.func31, Try.ntmps31
    go_wp2
    go_ret
    exact ⟨rfl, rfl⟩
set_option maxHeartbeats 1000000 in
theorem bad_take (w : World) (p : Option Addr) (n : Int) (h : BadCur w p) : Calls Try.prog 37 #[.pointer p, .int .i64 n] w (Same (.slice none 0 0) w) := by
  have h0 := Aside0.mk h
  clear h
  go_enter Try.func37, Try.ntmps37
  go_wp2_with (go_at_call 31; refine (bad_err _ _ h0.out).mono ?_; rintro e w' ⟨rfl, hs⟩; subst hs)
  go_ret
  exact ⟨rfl, rfl⟩
set_option maxHeartbeats 1000000 in
theorem bad_number (w : World) (p : Option Addr) (n : Int) (h : BadCur w p) : Calls Try.prog 36 #[.pointer p, .int .i64 n] w (Same (.int .u32 0) w) := by
  have h0 := Aside0.mk h
  clear h
  go_enter Try.func36, Try.ntmps36
  go_wp2_with (go_at_call 37; refine (bad_take _ _ _ h0.out).mono ?_; rintro e w' ⟨rfl, hs⟩; subst hs)
  go_loop [5, 12] (fun v5 v12 => v5 = .int .u32 0 ∧ v12 = .int .i64 0) (fun _ _ => 0)
  case atStart => exact ⟨rfl, rfl⟩
  case round =>
    obtain ⟨rfl, rfl⟩ := hrel
    go_wp2
    go_ret
    exact ⟨rfl, rfl⟩
set_option maxHeartbeats 1000000 in
theorem bad_u16 (w : World) (p : Option Addr) (h : BadCur w p) : Calls Try.prog 24 #[.pointer p] w (Same (.int .i64 0) w) := by
  have h0 := Aside0.mk h
  clear h
  go_enter Try.func24, Try.ntmps24
  go_wp2_with (go_at_call 36; refine (bad_number _ _ _ h0.out).mono ?_; rintro e w' ⟨rfl, hs⟩; subst hs)
  go_ret
  exact ⟨rfl, rfl⟩
set_option maxHeartbeats 1000000 in
theorem bad_u32 (w : World) (p : Option Addr) (h : BadCur w p) : Calls Try.prog 26 #[.pointer p] w (Same (.int .u32 0) w) := by
  have h0 := Aside0.mk h
  clear h
  go_enter Try.func26, Try.ntmps26
  go_wp2_with (go_at_call 36; refine (bad_number _ _ _ h0.out).mono ?_; rintro e w' ⟨rfl, hs⟩; subst hs)
  go_ret
  exact ⟨rfl, rfl⟩
set_option maxHeartbeats 1000000 in
theorem clone_none (w : World) : Calls Try.prog 35 #[.slice none 0 0] w (Same (.slice none 0 0) w) := by
  have he := fun W : World => eql_slice_nil (P := Try.prog) W 22 5 none 0 0 Try.underlying22
  go_enter Try.func35, Try.ntmps35
  go_wp2
  go_ret
  exact ⟨rfl, rfl⟩
set_option maxHeartbeats 1000000 in
theorem bad_bytes (w : World) (p : Option Addr) (n : Int) (h : BadCur w p) : Calls Try.prog 27 #[.pointer p, .int .i64 n] w (Same (.slice none 0 0) w) := by
  have h0 := Aside0.mk h
  clear h
  go_enter Try.func27, Try.ntmps27
  go_wp2_with (first
    | (go_at_call 37; refine (bad_take _ _ _ h0.out).mono ?_; rintro e w' ⟨rfl, hs⟩; subst hs)
    | (go_at_call 35; refine (clone_none _).mono ?_; rintro e w' ⟨rfl, hs⟩; subst hs))
  go_ret
  exact ⟨rfl, rfl⟩
set_option maxHeartbeats 1000000 in
theorem bad_left (w : World) (p : Option Addr) (h : BadCur w p) : Calls Try.prog 28 #[.pointer p] w (Same (.int .i64 0) w) := by
  have h0 := Aside0.mk h
  clear h
  go_enter Try.func28, Try.ntmps28
  go_wp2_with (go_at_call 31; refine (bad_err _ _ h0.out).mono ?_; rintro e w' ⟨rfl, hs⟩; subst hs)
  go_ret
  exact ⟨rfl, rfl⟩
set_option maxHeartbeats 1000000 in
theorem bad_at (w : World) (p : Option Addr) (h : BadCur w p) : Calls Try.prog 30 #[.pointer p] w (Same (.int .i64 0) w) := by
  rcases h with rfl | ⟨g, rfl, hb⟩
  · go_enter Try.func30, Try.ntmps30
    go_wp2
    go_ret
    exact ⟨rfl, rfl⟩
  · have c1 : w.cell? ⟨g, 1, none⟩ = some (.int .i64 0) := (blk_cell hb 1).trans rfl
    clear hb
    go_enter Try.func30, Try.ntmps30
    go_wp2
    go_ret
    exact ⟨rfl, rfl⟩
set_option maxHeartbeats 1000000 in
theorem bad_end (w : World) (p : Option Addr) (h : BadCur w p) : Calls Try.prog 32 #[.pointer p] w (Same (.int .i64 1) w) := by
  have h0 := Aside0.mk h
  clear h
  go_enter Try.func32, Try.ntmps32
  go_wp2_with (go_at_call 31; refine (bad_err _ _ h0.out).mono ?_; rintro e w' ⟨rfl, hs⟩; subst hs)
  go_ret
  exact ⟨rfl, rfl⟩
end Go.Proofs.Ytedboieaefdbdaa.Fld
