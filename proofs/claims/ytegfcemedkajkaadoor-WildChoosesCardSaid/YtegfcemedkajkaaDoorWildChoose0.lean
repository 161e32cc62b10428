/- wild.anyOf and wild.Choose, walked. -/
import Derived.Test.YtegfcemedkajkaaDoorWildMatch0
import Derived.Test.YtegfcemedkajkaaDoorWBx0
namespace Go.Proofs.YtegfcemedkajkaaDoor.Wd
open Go.RowKit Go.Proofs.YtegfcemedkajkaaDoorW.PrintWords Go.Proofs.YtegfcemedkajkaaDoorW.PrintLast Go.Proofs.YtegfcemedkajkaaDoorW.PrintMore
set_option linter.unusedVariables false
set_option linter.unusedSimpArgs false
def Fine (l : List Int) : Prop := l.length < 1000000 ∧ ∀ x ∈ l, 0 ≤ x ∧ x ≤ 255
def anyB (X : List (List Int)) (s : List Int) : Bool := X.any fun p => matchB p s
set_option maxHeartbeats 4000000 in
theorem closure_any (A0 : Option Addr) (c0 : Nat) (l0 : List Int) (A1 : Option Addr) (c1 : Nat) (s : List Int) (b : Nat) (w : World) (h0 : Kd.C (Kd.int .u8) w A0 l0.length l0) (h1 : Kd.C (Kd.int .u8) w A1 s.length s)
    (hb : w.cell? ⟨b, 0, none⟩ = some (.slice A1 s.length c1)) (f0 : Fine l0) (f1 : Fine s) :
    Calls Tryd.prog 35 #[.slice A0 l0.length c0, .pointer (some ⟨b, 0, none⟩)] w fun e w' => e = .returned (.bool (matchB l0 s)) ∧ Below w.heap.size w w' := by
  have M := Aside0.mk (match_any A0 c0 l0 A1 c1 s w h0 h1 f0.1 f1.1 f0.2 f1.2)
  clear h0 h1 f0 f1
  go_enter Tryd.func35, Tryd.ntmps35
  go_wp2_with (go_at_call 10; refine M.out.mono ?_; rintro e w1 ⟨rfl, hb1⟩; have HB1 := Aside0.mk hb1; clear hb1)
  go_ret
  exact ⟨rfl, HB1.out⟩
/-- a row of slices of bytes, read in whatever world comes later -/
def RowAt (w : World) (A : Option Addr) (X : List (List Int)) : Prop := Kd.C (Kd.slice 5 (Kd.int .u8)) w A X.length X
theorem RowAt.below {w w1 : World} {A : Option Addr} {X : List (List Int)} (h : RowAt w A X) (hb : Below w.heap.size w w1) : RowAt w1 A X := Kd.C_below h hb
theorem RowAt.at_ {w : World} {A : Option Addr} {X : List (List Int)} (h : RowAt w A X) (i : Nat) (hi : i < X.length) :
    ∃ ad A0 c0, A = some ad ∧ w.cell? (ad.add i) = some (.slice A0 (X.getD i []).length c0) ∧ (X.getD i []).length ≤ c0 ∧ Kd.C (Kd.int .u8) w A0 (X.getD i []).length (X.getD i []) := by
  have h1 := WB.at_L1 h (i : Int) (by omega) (by omega)
  have e : WB.rd_L1 X (i : Int) = X.getD i [] := by unfold WB.rd_L1; rw [Int.toNat_natCast]
  rw [e, Int.toNat_natCast] at h1
  exact h1
def IdxRel (w : World) (X : List (List Int)) (s : List Int) (v : Value) (w' : World) : Prop :=
  ∃ i : Nat, v = .int .i64 (i : Int) ∧ i ≤ X.length ∧ (∀ j, j < i → matchB (X.getD j []) s = false) ∧ Below w.heap.size w w'
def IdxPost (w : World) (X : List (List Int)) (s : List Int) (e : Ending) (w' : World) : Prop := ∃ r : Int, e = .returned (.int .i64 r) ∧ (decide (0 ≤ r) = anyB X s) ∧ Below w.heap.size w w'
theorem any_hit {X : List (List Int)} {s : List Int} {i : Nat} (hi : i < X.length) (h : matchB (X.getD i []) s = true) : anyB X s = true := List.any_eq_true.2 ⟨_, mem_getD hi, h⟩
theorem any_miss {X : List (List Int)} {s : List Int} (h : ∀ j, j < X.length → matchB (X.getD j []) s = false) : anyB X s = false := by
  unfold anyB
  rw [List.any_eq_false]
  intro p hp
  obtain ⟨i, hi, rfl⟩ := List.mem_iff_getElem.1 hp
  have := h i hi
  rw [List.getD_eq_getElem?_getD, List.getElem?_eq_getElem hi] at this
  simpa using this
set_option maxHeartbeats 8000000 in
set_option maxRecDepth 100000 in
theorem index_any (A : Option Addr) (c : Nat) (X : List (List Int)) (A1 : Option Addr) (c1 : Nat) (s : List Int) (b : Nat) (w : World) (h0 : RowAt w A X) (hl : X.length < 1000000000) (h1 : Kd.C (Kd.int .u8) w A1 s.length s)
    (hb : w.cell? ⟨b, 0, none⟩ = some (.slice A1 s.length c1)) (f0 : ∀ p ∈ X, Fine p) (f1 : Fine s) :
    Calls Tryd.prog 37 #[.slice A X.length c, .func (.func 35) #[] #[.pointer (some ⟨b, 0, none⟩)]] w (IdxPost w X s) := by
  have HR := Aside0.mk h0
  have HL := Aside0.mk hl
  have F0 := Aside0.mk f0
  have CL : Aside0 (∀ (wr : World) (A0 : Option Addr) (c0 : Nat) (l0 : List Int), Below w.heap.size w wr → Kd.C (Kd.int .u8) wr A0 l0.length l0 → Fine l0 →
      Calls Tryd.prog 35 #[.slice A0 l0.length c0, .pointer (some ⟨b, 0, none⟩)] wr fun e w' => e = .returned (.bool (matchB l0 s)) ∧ Below wr.heap.size wr w') :=
    ⟨fun wr A0 c0 l0 hB h hf => closure_any A0 c0 l0 A1 c1 s b wr h (Kd.C_below h1 hB) ((hB.cell (World.block_lt_of_cell? w _ hb)).trans hb) hf f1⟩
  clear h0 hl h1 hb f0 f1
  go_enter Tryd.func37, Tryd.ntmps37
  go_wp2
  go_loopw [8] (fun v8 wr => IdxRel w X s v8 wr) (fun v8 _ => X.length - (intOf v8).toNat)
  case atStart => exact ⟨0, rfl, by omega, fun j hj => by omega, Below.refl _ _⟩
  case round =>
    obtain ⟨i, rfl, hi0, ha0, hb0⟩ := hrel
    have HI := Aside0.mk hi0
    have HA := Aside0.mk ha0
    have HB := Aside0.mk hb0
    clear hi0 ha0 hb0
    by_cases c : i < X.length
    · have q1 : decide ((i : Int) < (X.length : Int)) = true := decide_eq_true (by omega)
      have q2 : (i : Int) < (X.length : Int) := by omega
      obtain ⟨ad, A0, c0, rfl, hc, hle, hC⟩ := (HR.out.below HB.out).at_ i c
      have hf := F0.out _ (mem_getD c)
      have C1 := Aside0.mk (CL.out wr A0 c0 _ HB.out hC hf)
      have wi := wr_inc i (by have := HL.out; omega)
      have HIc := Aside0.mk c
      clear hC hf hle
      generalize hX : X.getD i [] = p at *
      have HX := Aside0.mk hX
      clear hX
      cases hr : matchB p s with
      | true =>
        rw [hr] at C1
        have HRr := Aside0.mk hr
        clear hr
        go_wp2_with (go_at_call 35; refine C1.out.mono ?_; rintro e w1 ⟨rfl, hb1⟩; have HB1 := Aside0.mk hb1; clear hb1)
        go_ret
        exact ⟨(i : Int), rfl, by rw [any_hit HIc.out (by rw [HX.out]; exact HRr.out)]; exact decide_eq_true (by omega), below_step HB.out HB1.out⟩
      | false =>
        rw [hr] at C1
        have HRr := Aside0.mk hr
        clear hr
        go_wp2_with (go_at_call 35; refine C1.out.mono ?_; rintro e w1 ⟨rfl, hb1⟩; have HB1 := Aside0.mk hb1; clear hb1)
        go_roundw
        case rel =>
          refine ⟨i + 1, by go_num, HIc.out, fun j hj => ?_, below_step HB.out HB1.out⟩
          by_cases e : j = i
          · subst e; rw [HX.out]; exact HRr.out
          · exact HA.out j (by omega)
        case measure => have := HIc.out; simp [intOf]; omega
    · have q1 : decide ((i : Int) < (X.length : Int)) = false := decide_eq_false (by omega)
      have HIc := Aside0.mk c
      go_wp2
      go_ret
      exact ⟨-1, rfl, by rw [any_miss (fun j hj => HA.out j (by have := HI.out; have := HIc.out; omega))]; decide, HB.out⟩
set_option maxHeartbeats 8000000 in
theorem contains_any (A : Option Addr) (c : Nat) (X : List (List Int)) (A1 : Option Addr) (c1 : Nat) (s : List Int) (b : Nat) (w : World) (h0 : RowAt w A X) (hl : X.length < 1000000000) (h1 : Kd.C (Kd.int .u8) w A1 s.length s)
    (hb : w.cell? ⟨b, 0, none⟩ = some (.slice A1 s.length c1)) (f0 : ∀ p ∈ X, Fine p) (f1 : Fine s) :
    Calls Tryd.prog 34 #[.slice A X.length c, .func (.func 35) #[] #[.pointer (some ⟨b, 0, none⟩)]] w fun e w' => e = .returned (.bool (anyB X s)) ∧ Below w.heap.size w w' := by
  have M := Aside0.mk (index_any A c X A1 c1 s b w h0 hl h1 hb f0 f1)
  clear h0 hl h1 hb f0 f1
  go_enter Tryd.func34, Tryd.ntmps34
  go_wp2_with (go_at_call 37; refine M.out.mono ?_; rintro e w1 ⟨z, rfl, hz, hb1⟩; have HZ := Aside0.mk hz; have HB1 := Aside0.mk hb1; clear hb1 hz)
  go_ret
  exact ⟨by show Ending.returned (.bool (decide (0 ≤ z))) = _; rw [HZ.out], HB1.out⟩
set_option maxHeartbeats 8000000 in
theorem anyof_any (A : Option Addr) (c : Nat) (X : List (List Int)) (A1 : Option Addr) (c1 : Nat) (s : List Int) (w : World) (h0 : RowAt w A X) (hl : X.length < 1000000000) (h1 : Kd.C (Kd.int .u8) w A1 s.length s)
    (f0 : ∀ p ∈ X, Fine p) (f1 : Fine s) :
    Calls Tryd.prog 31 #[.slice A X.length c, .slice A1 s.length c1] w fun e w' => e = .returned (.bool (anyB X s)) ∧ Below w.heap.size w w' := by
  have M : Aside0 (∀ w' : World, Below w.heap.size w w' → w'.cell? ⟨w.heap.size, 0, none⟩ = some (.slice A1 s.length c1) → Calls Tryd.prog 34 #[.slice A X.length c, .func (.func 35) #[] #[.pointer (some ⟨w.heap.size, 0, none⟩)]] w' fun e w'' => e = .returned (.bool (anyB X s)) ∧ Below w.heap.size w w'') :=
    ⟨fun w' hB hc => (contains_any A c X A1 c1 s w.heap.size w' (h0.below hB) hl (Kd.C_below h1 hB) hc f0 f1).mono fun e w'' ⟨he, hb⟩ => ⟨he, below_step hB hb⟩⟩
  clear h0 hl h1 f0 f1
  go_enter Tryd.func31, Tryd.ntmps31
  go_wp2_with (go_at_call 34; refine (M.out _ (below_alloc (Below.refl _ _) _) ?cell).mono ?_; (case cell => (rw [cell_of_row _ _ 0 _ _ _ (heap_alloc_new w _)]; rfl)); rintro e w1 ⟨rfl, hb1⟩; have HB1 := Aside0.mk hb1; clear hb1)
  go_ret
  exact ⟨rfl, HB1.out⟩
def chooseB (X Y : List (List Int)) (s : List Int) : Bool := (decide (X.length = 0) || anyB X s) && !anyB Y s
def CPost (w : World) (r : Bool) (e : Ending) (w' : World) : Prop := e = .returned (.bool r) ∧ Below w.heap.size w w'
set_option maxHeartbeats 8000000 in
theorem choose0 (v2 : Value) (A : Option Addr) (n c : Nat) (A2 : Option Addr) (n2 c2 : Nat) (y : Bool) (w : World) (hn : n = 0)
    (f1 : ∀ W, Below w.heap.size w W → Calls Tryd.prog 31 #[.slice A2 n2 c2, v2] W (CPost W y)) :
    Calls Tryd.prog 22 #[.slice A n c, .slice A2 n2 c2, v2] w (CPost w (!y)) := by
  have q1 : (((n : Nat) : Int) == 0) = true := beq_iff_eq.mpr (by omega)
  have F1 := Aside0.mk f1
  clear f1 hn
  go_enter Tryd.func22, Tryd.ntmps22
  go_wp2_with (go_at_call 31; (with_reducible refine (F1.out _ (Below.refl _ _)).mono ?_); rintro e w1 ⟨rfl, hb1⟩; have HB1 := Aside0.mk hb1; clear hb1)
  go_ret
  exact ⟨rfl, HB1.out⟩
set_option maxHeartbeats 8000000 in
theorem choose1 (v2 : Value) (A : Option Addr) (n c : Nat) (A2 : Option Addr) (n2 c2 : Nat) (y : Bool) (w : World) (hn : n ≠ 0)
    (f0 : Calls Tryd.prog 31 #[.slice A n c, v2] w (CPost w true))
    (f1 : ∀ W, Below w.heap.size w W → Calls Tryd.prog 31 #[.slice A2 n2 c2, v2] W (CPost W y)) :
    Calls Tryd.prog 22 #[.slice A n c, .slice A2 n2 c2, v2] w (CPost w (!y)) := by
  have q1 : (((n : Nat) : Int) == 0) = false := beq_eq_false_iff_ne.mpr (by omega)
  have F0 := Aside0.mk f0
  have F1 := Aside0.mk f1
  clear f0 f1 hn
  go_enter Tryd.func22, Tryd.ntmps22
  go_wp2_with (first
    | (go_at_call 31; (with_reducible refine (F0.out).mono ?_); rintro e w1 ⟨rfl, hb1⟩; have HB1 := Aside0.mk hb1; clear hb1 F0)
    | (go_at_call 31; (with_reducible refine (F1.out _ HB1.out).mono ?_); rintro e w2 ⟨rfl, hb2⟩; have HB2 := Aside0.mk (below_step HB1.out hb2); clear hb2))
  go_ret
  exact ⟨rfl, HB2.out⟩
set_option maxHeartbeats 8000000 in
theorem choose2 (v2 : Value) (A : Option Addr) (n c : Nat) (A2 : Option Addr) (n2 c2 : Nat) (w : World) (hn : n ≠ 0)
    (f0 : Calls Tryd.prog 31 #[.slice A n c, v2] w (CPost w false)) :
    Calls Tryd.prog 22 #[.slice A n c, .slice A2 n2 c2, v2] w (CPost w false) := by
  have q1 : (((n : Nat) : Int) == 0) = false := beq_eq_false_iff_ne.mpr (by omega)
  have F0 := Aside0.mk f0
  clear f0 hn
  go_enter Tryd.func22, Tryd.ntmps22
  go_wp2_with (go_at_call 31; (with_reducible refine (F0.out).mono ?_); rintro e w1 ⟨rfl, hb1⟩; have HB1 := Aside0.mk hb1; clear hb1)
  go_ret
  exact ⟨rfl, HB1.out⟩
theorem choose_any (A : Option Addr) (c : Nat) (X : List (List Int)) (A2 : Option Addr) (c2 : Nat) (Y : List (List Int)) (A1 : Option Addr) (c1 : Nat) (s : List Int) (w : World) (h0 : RowAt w A X) (h2 : RowAt w A2 Y) (h1 : Kd.C (Kd.int .u8) w A1 s.length s)
    (hl : X.length < 1000000000) (hl2 : Y.length < 1000000000) (f0 : ∀ p ∈ X, Fine p) (f2 : ∀ p ∈ Y, Fine p) (f1 : Fine s) :
    Calls Tryd.prog 22 #[.slice A X.length c, .slice A2 Y.length c2, .slice A1 s.length c1] w fun e w' => e = .returned (.bool (chooseB X Y s)) ∧ Below w.heap.size w w' := by
  have g0 := anyof_any A c X A1 c1 s w h0 hl h1 f0 f1
  have g1 := fun W (hb : Below w.heap.size w W) => anyof_any A2 c2 Y A1 c1 s W (h2.below hb) hl2 (Kd.C_below h1 hb) f2 f1
  unfold chooseB
  by_cases hn : X.length = 0
  · rw [decide_eq_true hn, Bool.true_or, Bool.true_and]
    exact choose0 _ A _ c A2 _ c2 (anyB Y s) w hn g1
  · rw [decide_eq_false hn, Bool.false_or]
    cases hr : anyB X s with
    | true => rw [hr] at g0; rw [Bool.true_and]; exact choose1 _ A _ c A2 _ c2 (anyB Y s) w hn g0 g1
    | false => rw [hr] at g0; rw [Bool.false_and]; exact choose2 _ A _ c A2 _ c2 w hn g0
end Go.Proofs.YtegfcemedkajkaaDoor.Wd
