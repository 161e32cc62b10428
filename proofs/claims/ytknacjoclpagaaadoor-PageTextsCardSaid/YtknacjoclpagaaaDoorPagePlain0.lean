/- page.Plain, walked. -/
import Derived.Test.YtknacjoclpagaaaDoorPageBytes0
namespace Go.Proofs.YtknacjoclpagaaaDoor.Pg
open Go.RowKit Go.Proofs.YtknacjoclpagaaaDoorW.PrintWords Go.Proofs.YtknacjoclpagaaaDoorW.PrintLast Go.Proofs.YtknacjoclpagaaaDoorW.PrintMore
open Go.Proofs.YtknacjoclpagaaaDoor.MyCut
set_option linter.unusedVariables false
set_option linter.unusedSimpArgs false
theorem clos_any (x : Int) (W : World) : Calls Tryd.prog 24 #[.int .u8 x] W fun e w' => e = .returned (.bool (decide (128 ≤ x))) ∧ Below W.heap.size W w' := by
  have e : decide (x ≥ 128) = decide (128 ≤ x) := rfl
  obtain ⟨b, hb⟩ : ∃ b, decide (128 ≤ x) = b := ⟨_, rfl⟩
  rw [hb] at e ⊢
  go_enter Tryd.func24, Tryd.ntmps24
  go_wp2
  go_ret
  exact ⟨rfl, Below.refl _ _⟩
def high (L : List Int) : Bool := L.any fun x => decide (128 ≤ x)
def IXPost (L : List Int) (w : World) (e : Ending) (w' : World) : Prop :=
  ∃ z : Int, e = .returned (.int .i64 z) ∧ Below w.heap.size w w' ∧ decide (z ≥ 0) = high L
set_option maxHeartbeats 4000000 in
theorem indexf_any (A : Option Addr) (c : Nat) (L : List Int) (w : World) (h : Kd.C (Kd.int .u8) w A L.length L) (hl : L.length ≤ 1000000) :
    Calls Tryd.prog 31 #[.slice A L.length c, .func (.func 24) #[] #[]] w (IXPost L w) := by
  have HC := Aside0.mk h
  have HL := Aside0.mk hl
  have CL := Aside0.mk clos_any
  clear h hl
  go_enter Tryd.func31, Tryd.ntmps31
  go_wp2_with fail
  go_loopw [8] (fun v8 wr => ∃ i : Nat, v8 = .int .i64 i ∧ i ≤ L.length ∧ (∀ j, j < i → ¬ 128 ≤ L.getD j 0) ∧ Below w.heap.size w wr) (fun v8 _ => L.length - (intOf v8).toNat)
  case atStart => exact ⟨0, rfl, Nat.zero_le _, fun j hj => by omega, Below.refl _ _⟩
  case round =>
    rename World => wr
    obtain ⟨i, rfl, hi, hnon, hbel⟩ := hrel
    have HB := Aside0.mk hbel
    have HN := Aside0.mk hnon
    clear hbel hnon
    by_cases hlt : i < L.length
    · have d3 : decide ((i : Int) < (L.length : Int)) = true := decide_eq_true (by omega)
      have q3 : (i : Int) < (L.length : Int) := by omega
      obtain ⟨ad, rfl, hcs⟩ := (Kd.reads_of_C (d := (0 : Int)) (Kd.C_below HC.out HB.out)).2.2 (by omega)
      have hcell := hcs i hlt
      obtain ⟨x, hx⟩ : ∃ x : Int, L.getD i 0 = x := ⟨_, rfl⟩
      rw [hx] at hcell
      have HX := Aside0.mk hx
      have CX := Aside0.mk (CL.out x)
      have LT := Aside0.mk hlt
      clear hcs hx
      by_cases hc : 128 ≤ x
      · rw [decide_eq_true hc] at CX
        have HCX := Aside0.mk hc
        clear hc
        go_wp2_with (go_at_call 24; (with_reducible refine (CX.out _).mono ?_); rintro e w2 ⟨rfl, hb⟩; have B2 := Aside0.mk (below_step HB.out hb); clear hb)
        go_ret
        refine ⟨_, rfl, B2.out, ?_⟩
        rw [decide_eq_true (by omega)]
        refine (List.any_eq_true.2 ⟨x, ?_, decide_eq_true HCX.out⟩).symm
        rw [← HX.out, List.getD_eq_getElem?_getD, List.getElem?_eq_getElem LT.out]
        exact List.getElem_mem LT.out
      · rw [decide_eq_false hc] at CX
        have HCX := Aside0.mk hc
        have hwk : wrap64 ((i : Int) + 1) = ((i + 1 : Nat) : Int) := by unfold wrap64; have := HL.out; omega
        clear hc
        go_wp2_with (go_at_call 24; (with_reducible refine (CX.out _).mono ?_); rintro e w2 ⟨rfl, hb⟩; have B2 := Aside0.mk (below_step HB.out hb); clear hb)
        go_roundw
        case rel =>
          refine ⟨i + 1, (by first | rfl | rw [hwk] | go_num), by have := LT.out; omega, fun j hj => ?_, B2.out⟩
          by_cases hji : j = i
          · subst hji; rw [HX.out]; have := HCX.out; omega
          · have := HN.out j (by omega); omega
        case measure => have := LT.out; (try rw [hwk]); simp [intOf]; omega
    · obtain rfl : i = L.length := by omega
      have dd2 : decide ((L.length : Int) < (L.length : Int)) = false := decide_eq_false (by omega)
      clear hlt hi
      go_wp2_with fail
      go_ret
      refine ⟨_, rfl, HB.out, ?_⟩
      rw [show decide ((-1 : Int) ≥ 0) = false from rfl]
      refine (List.any_eq_false.2 fun x hx => ?_).symm
      obtain ⟨j, hj, rfl⟩ := List.mem_iff_getElem.1 hx
      have := HN.out j hj
      rw [List.getD_eq_getElem?_getD, List.getElem?_eq_getElem hj] at this
      simpa using this
set_option maxHeartbeats 4000000 in
theorem plain_any (A : Option Addr) (c : Nat) (L : List Int) (w : World) (h : Kd.C (Kd.int .u8) w A L.length L) (hl : L.length ≤ 1000000) :
    Calls Tryd.prog 14 #[.slice A L.length c] w fun e w' => e = .returned (.bool (!high L)) ∧ Below w.heap.size w w' := by
  have HI := Aside0.mk (fun c' W (hb : Below w.heap.size w W) => indexf_any A c' L W (Kd.C_below h hb) hl)
  have HQ : Aside0 (∀ c' W, Below w.heap.size w W → Calls Tryd.prog 23 #[.slice A L.length c', .func (.func 24) #[] #[]] W fun e w' => e = .returned (.bool (high L)) ∧ Below W.heap.size W w') := ⟨by
    intro c' W hb
    have HI2 := Aside0.mk (HI.out c' W hb)
    clear HI hb h hl
    go_enter Tryd.func23, Tryd.ntmps23
    go_wp2_with (go_at_call 31; (with_reducible refine HI2.out.mono ?_); rintro e w2 ⟨z, rfl, hb, hz⟩; have B2 := Aside0.mk hb; have hz' : decide (0 ≤ z) = high L := hz; clear hb)
    go_ret
    exact ⟨rfl, B2.out⟩⟩
  clear HI h hl
  obtain ⟨b, hb⟩ : ∃ b, high L = b := ⟨_, rfl⟩
  rw [hb] at HQ ⊢
  clear hb
  go_enter Tryd.func14, Tryd.ntmps14
  go_wp2_with (go_at_call 23; (with_reducible refine (HQ.out _ _ (Below.refl _ _)).mono ?_); rintro e w2 ⟨rfl, hb⟩; have B2 := Aside0.mk hb; clear hb)
  go_ret
  exact ⟨rfl, B2.out⟩
end Go.Proofs.YtknacjoclpagaaaDoor.Pg
