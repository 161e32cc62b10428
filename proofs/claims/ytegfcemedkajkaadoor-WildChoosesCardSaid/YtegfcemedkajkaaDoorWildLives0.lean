/- The law's lives, walked. -/
import Derived.Test.YtegfcemedkajkaaDoorWildMatch0
namespace Go.Proofs.YtegfcemedkajkaaDoor.Wd
open Go.RowKit Go.Proofs.YtegfcemedkajkaaDoorW.PrintWords Go.Proofs.YtegfcemedkajkaaDoorW.PrintLast Go.Proofs.YtegfcemedkajkaaDoorW.PrintMore
set_option linter.unusedVariables false
set_option linter.unusedSimpArgs false
theorem live1 : matchB [42, 46, 116, 120, 116] [97, 47, 98, 46, 84, 88, 84] = true := by decide +kernel
theorem live2 : matchB [97] [98] = false := by decide +kernel
theorem C_new' (W : World) (xs : List Int) (fr : Nat × Nat) (b : Nat) (hb : W.heap.size = b) (hm : xs.length ≤ 9223372036854775807) :
    Kd.C (Kd.int .u8) (W.alloc (.cells (xs.map (Value.int .u8)).toArray 5 fr)) (some ⟨b, 0, none⟩) xs.length xs := by
  subst hb; exact MyWords.C_new .u8 W xs 5 _ hm
theorem match_lit (w : World) (f1 f2 : Nat × Nat) (b1 b2 : Nat) (xs ys : List Int) (r : Bool) (h1 : w.heap.size = b1) (h2 : w.heap.size + 1 = b2) (hr : matchB xs ys = r) (n0 : xs.length < 1000) (n1 : ys.length < 1000) (r0 : ∀ x ∈ xs, 0 ≤ x ∧ x ≤ 255) (r1 : ∀ x ∈ ys, 0 ≤ x ∧ x ≤ 255) :
    Calls Tryd.prog 10 #[.slice (some ⟨b1, 0, none⟩) xs.length xs.length, .slice (some ⟨b2, 0, none⟩) ys.length ys.length] ((w.alloc (.cells (xs.map (Value.int .u8)).toArray 5 f1)).alloc (.cells (ys.map (Value.int .u8)).toArray 5 f2))
      fun e w' => e = .returned (.bool r) ∧ Below w.heap.size w w' := by
  subst hr
  refine (match_any (some ⟨b1, 0, none⟩) xs.length xs (some ⟨b2, 0, none⟩) ys.length ys _ (Kd.C_alloc (C_new' w xs f1 b1 h1 (by omega)) _) (C_new' _ ys f2 b2 (by rw [← h2]; simp) (by omega)) (by omega) (by omega) r0 r1).mono ?_
  rintro e w' ⟨rfl, hb⟩
  exact ⟨rfl, below_step (below_alloc (below_alloc (Below.refl _ _) _) _) hb⟩
theorem convert_next (w : World) (o : Obj) (C : Array Value) (n c : Nat) : (convert 22 22 (.slice (some ⟨w.heap.size + 1, 0, none⟩) n c)).run Tryd.prog ((w.alloc o).alloc (.cells C 5)) = .ok (.slice (some ⟨w.heap.size + 1, 0, none⟩) n c) ((w.alloc o).alloc (.cells C 5 (C.size, C.size + 1))) := by
  have h := Lib.run_convert_bytes_const (P := Tryd.prog) (w.alloc o) 22 5 C n c Tryd.underlying22 Tryd.underlying5
  have e : (w.alloc o).heap.size = w.heap.size + 1 := by simp
  rwa [e] at h
set_option maxHeartbeats 8000000 in
set_option maxRecDepth 100000 in
theorem lives_any (w : World) : Calls Tryd.prog 12 #[] w fun e w' => e = .returned (.bool true) ∧ Below w.heap.size w w' := by
  have L1 : Aside0 (Calls Tryd.prog 10 #[.slice (some ⟨w.heap.size, 0, none⟩) 5 5, .slice (some ⟨w.heap.size + 1, 0, none⟩) 7 7] _ _) := ⟨match_lit w (5, 6) (7, 8) _ _ [42, 46, 116, 120, 116] [97, 47, 98, 46, 84, 88, 84] _ rfl rfl live1 (by decide) (by decide) (by decide) (by decide)⟩
  have L2 : Aside0 (∀ w1 : World, Calls Tryd.prog 10 #[.slice (some ⟨w1.heap.size, 0, none⟩) 1 1, .slice (some ⟨w1.heap.size + 1, 0, none⟩) 1 1] _ _) := ⟨fun w1 => match_lit w1 (1, 2) (1, 2) _ _ [97] [98] _ rfl rfl live2 (by decide) (by decide) (by decide) (by decide)⟩
  have kc := fun (w : World) (C : Array Value) (n c : Nat) => Lib.run_convert_bytes_const (P := Tryd.prog) w 22 5 C n c Tryd.underlying22 Tryd.underlying5
  have kc2 := fun (w : World) (o : Obj) (C : Array Value) (n c : Nat) => convert_next w o C n c
  go_enter Tryd.func12, Tryd.ntmps12
  go_wp2_with (first
    | (go_at_call 10; refine L1.out.mono ?_; rintro e w1 ⟨rfl, hb1⟩; have HB1 := Aside0.mk hb1; clear hb1 L1)
    | (go_at_call 10; refine (L2.out w1).mono ?_; rintro e w2 ⟨rfl, hb2⟩; have HB2 := Aside0.mk (below_step HB1.out hb2); clear hb2))
  go_ret
  exact ⟨rfl, HB2.out⟩
theorem lit_call {F : FuncId} {xs : List Int} {v2 : Value} {r : Bool} (fr : Nat × Nat) (w0 w : World) (hB : Below w0.heap.size w0 w) (hm : xs.length ≤ 1000)
    (M : ∀ (A0 : Option Addr) (c0 : Nat) (w' : World), Below w0.heap.size w0 w' → Kd.C (Kd.int .u8) w' A0 xs.length xs → xs.length ≤ c0 → Calls Tryd.prog F #[.slice A0 xs.length c0, v2] w' fun e w'' => e = .returned (.bool r) ∧ Below w'.heap.size w' w'') :
    Calls Tryd.prog F #[.slice (some ⟨w.heap.size, 0, none⟩) xs.length xs.length, v2] (w.alloc (.cells (xs.map (Value.int .u8)).toArray 5 fr)) fun e w'' => e = .returned (.bool r) ∧ Below w0.heap.size w0 w'' :=
  (M _ _ _ (below_alloc hB _) (C_new' w xs fr _ rfl (by omega)) (Nat.le_refl _)).mono fun e w'' ⟨he, hb⟩ => ⟨he, below_step (below_alloc hB _) hb⟩
end Go.Proofs.YtegfcemedkajkaaDoor.Wd
