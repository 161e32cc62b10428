/- A row, a cursor that no call made, walked. -/
import Derived.Test.YtpmiofjhgmdghaaFieldCur1
namespace Go.Proofs.Ytpmiofjhgmdghaa.Fld
open Go.RowKit Go.Proofs.YtpmiofjhgmdghaaW.PrintWords Go.Proofs.YtpmiofjhgmdghaaW.PrintLast Go.Proofs.YtpmiofjhgmdghaaW.PrintMore
set_option linter.unusedVariables false
set_option linter.unusedSimpArgs false
def Same (u : Value) (w : World) (r : Ending) (w' : World) : Prop := r = .returned u ∧ w = w'
set_option maxHeartbeats 1000000 in
theorem nil_err (w : World) : Calls Try.prog 62 #[.pointer none] w (Same (.int .i64 1) w) := by
  go_enter Try.func62, Try.ntmps62
  go_wp2
  go_ret
  exact ⟨rfl, rfl⟩
set_option maxHeartbeats 1000000 in
theorem nil_number (w : World) (x n : Int) : Calls Try.prog 61 #[.pointer none, .int .u32 x, .int .i64 n] w (Same (.pointer none) w) := by
  go_enter Try.func61, Try.ntmps61
  go_wp2_with (go_at_call 62; refine (nil_err _).mono ?_; rintro e w' ⟨rfl, hs⟩; subst hs)
  go_ret
  exact ⟨rfl, rfl⟩
set_option maxHeartbeats 1000000 in
theorem nil_u16 (w : World) (x : Int) : Calls Try.prog 44 #[.pointer none, .int .i64 x] w (Same (.pointer none) w) := by
  go_enter Try.func44, Try.ntmps44
  go_wp2_with (first
    | (go_at_call 62; refine (nil_err _).mono ?_; rintro e w' ⟨rfl, hs⟩; subst hs)
    | (go_at_call 61; refine (nil_number _ _ _).mono ?_; rintro e w' ⟨rfl, hs⟩; subst hs))
  go_ret
  exact ⟨rfl, rfl⟩
set_option maxHeartbeats 1000000 in
theorem nil_u32 (w : World) (x : Int) : Calls Try.prog 43 #[.pointer none, .int .u32 x] w (Same (.pointer none) w) := by
  go_enter Try.func43, Try.ntmps43
  go_wp2_with (go_at_call 61; refine (nil_number _ _ _).mono ?_; rintro e w' ⟨rfl, hs⟩; subst hs)
  go_ret
  exact ⟨rfl, rfl⟩
set_option maxHeartbeats 1000000 in
theorem nil_put (w : World) (v : Value) : Calls Try.prog 46 #[.pointer none, v] w (Same (.pointer none) w) := by
  go_enter Try.func46, Try.ntmps46
  go_wp2_with (go_at_call 62; refine (nil_err _).mono ?_; rintro e w' ⟨rfl, hs⟩; subst hs)
  go_ret
  exact ⟨rfl, rfl⟩
set_option maxHeartbeats 1000000 in
theorem nil_bytes (w : World) : Calls Try.prog 63 #[.pointer none] w (Same (.slice none 0 0) w) := by
  go_enter Try.func63, Try.ntmps63
  go_wp2_with (go_at_call 62; refine (nil_err _).mono ?_; rintro e w' ⟨rfl, hs⟩; subst hs)
  go_ret
  exact ⟨rfl, rfl⟩
/-- A cursor that no call made: none, or its zero value. -/
def BadCur (w : World) (p : Option Addr) : Prop :=
  p = none ∨ ∃ g, p = some ⟨g, 0, none⟩ ∧ w.heap[g]? = some (.cells #[.slice none 0 0, .int .i64 0, .int .i64 0, .bool false] 56 (0, 0))
set_option maxHeartbeats 1000000 in
theorem bad_err (w : World) (p : Option Addr) (h : BadCur w p) : Calls Try.prog 37 #[.pointer p] w (Same (.int .i64 1) w) := by
  rcases h with rfl | ⟨g, rfl, hb⟩
  · go_enter Try.func37, Try.ntmps37
    go_wp2
    go_ret
    exact ⟨rfl, rfl⟩
  · have c3 : w.cell? ⟨g, 3, none⟩ = some (.bool false) := (blk_cell hb 3).trans rfl
    clear hb
    go_enter Try.func37, Try.ntmps37
    go_wp2
    go_ret
    exact ⟨rfl, rfl⟩
set_option maxHeartbeats 1000000 in
theorem bad_take (w : World) (p : Option Addr) (n : Int) (h : BadCur w p) : Calls Try.prog 57 #[.pointer p, .int .i64 n] w (Same (.slice none 0 0) w) := by
  have h0 := Aside0.mk h
  clear h
  go_enter Try.func57, Try.ntmps57
  go_wp2_with (go_at_call 37; refine (bad_err _ _ h0.out).mono ?_; rintro e w' ⟨rfl, hs⟩; subst hs)
  go_ret
  exact ⟨rfl, rfl⟩
set_option maxHeartbeats 1000000 in
theorem bad_number (w : World) (p : Option Addr) (n : Int) (h : BadCur w p) : Calls Try.prog 65 #[.pointer p, .int .i64 n] w (Same (.int .u32 0) w) := by
  have h0 := Aside0.mk h
  clear h
  go_enter Try.func65, Try.ntmps65
  go_wp2_with (go_at_call 57; refine (bad_take _ _ _ h0.out).mono ?_; rintro e w' ⟨rfl, hs⟩; subst hs)
  go_loop [5, 12] (fun v5 v12 => v5 = .int .u32 0 ∧ v12 = .int .i64 0) (fun _ _ => 0)
  case atStart => exact ⟨rfl, rfl⟩
  case round =>
    obtain ⟨rfl, rfl⟩ := hrel
    go_wp2
    go_ret
    exact ⟨rfl, rfl⟩
set_option maxHeartbeats 1000000 in
theorem bad_u16 (w : World) (p : Option Addr) (h : BadCur w p) : Calls Try.prog 54 #[.pointer p] w (Same (.int .i64 0) w) := by
  have h0 := Aside0.mk h
  clear h
  go_enter Try.func54, Try.ntmps54
  go_wp2_with (go_at_call 65; refine (bad_number _ _ _ h0.out).mono ?_; rintro e w' ⟨rfl, hs⟩; subst hs)
  go_ret
  exact ⟨rfl, rfl⟩
set_option maxHeartbeats 1000000 in
theorem bad_u32 (w : World) (p : Option Addr) (h : BadCur w p) : Calls Try.prog 55 #[.pointer p] w (Same (.int .u32 0) w) := by
  have h0 := Aside0.mk h
  clear h
  go_enter Try.func55, Try.ntmps55
  go_wp2_with (go_at_call 65; refine (bad_number _ _ _ h0.out).mono ?_; rintro e w' ⟨rfl, hs⟩; subst hs)
  go_ret
  exact ⟨rfl, rfl⟩
set_option maxHeartbeats 1000000 in
theorem clone_none (w : World) : Calls Try.prog 56 #[.slice none 0 0] w (Same (.slice none 0 0) w) := by
  have he := fun W : World => eql_slice_nil (P := Try.prog) W 22 5 none 0 0 Try.underlying22
  go_enter Try.func56, Try.ntmps56
  go_wp2
  go_ret
  exact ⟨rfl, rfl⟩
set_option maxHeartbeats 1000000 in
theorem bad_bytes (w : World) (p : Option Addr) (n : Int) (h : BadCur w p) : Calls Try.prog 31 #[.pointer p, .int .i64 n] w (Same (.slice none 0 0) w) := by
  have h0 := Aside0.mk h
  clear h
  go_enter Try.func31, Try.ntmps31
  go_wp2_with (first
    | (go_at_call 57; refine (bad_take _ _ _ h0.out).mono ?_; rintro e w' ⟨rfl, hs⟩; subst hs)
    | (go_at_call 56; refine (clone_none _).mono ?_; rintro e w' ⟨rfl, hs⟩; subst hs))
  go_ret
  exact ⟨rfl, rfl⟩
set_option maxHeartbeats 1000000 in
theorem bad_left (w : World) (p : Option Addr) (h : BadCur w p) : Calls Try.prog 38 #[.pointer p] w (Same (.int .i64 0) w) := by
  have h0 := Aside0.mk h
  clear h
  go_enter Try.func38, Try.ntmps38
  go_wp2_with (go_at_call 37; refine (bad_err _ _ h0.out).mono ?_; rintro e w' ⟨rfl, hs⟩; subst hs)
  go_ret
  exact ⟨rfl, rfl⟩
set_option maxHeartbeats 1000000 in
theorem bad_at (w : World) (p : Option Addr) (h : BadCur w p) : Calls Try.prog 36 #[.pointer p] w (Same (.int .i64 0) w) := by
  rcases h with rfl | ⟨g, rfl, hb⟩
  · go_enter Try.func36, Try.ntmps36
    go_wp2
    go_ret
    exact ⟨rfl, rfl⟩
  · have c1 : w.cell? ⟨g, 1, none⟩ = some (.int .i64 0) := (blk_cell hb 1).trans rfl
    clear hb
    go_enter Try.func36, Try.ntmps36
    go_wp2
    go_ret
    exact ⟨rfl, rfl⟩
end Go.Proofs.Ytpmiofjhgmdghaa.Fld
