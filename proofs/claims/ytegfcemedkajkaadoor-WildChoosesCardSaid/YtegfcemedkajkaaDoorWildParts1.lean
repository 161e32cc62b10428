/- wild.parts, walked: the parts of a name, folded. -/
import Derived.Test.YtegfcemedkajkaaDoorWildParts0
import Derived.Great.BuildSlice
namespace Go.Proofs.YtegfcemedkajkaaDoor.Wd
open Go.RowKit Go.Proofs.YtegfcemedkajkaaDoorW.PrintWords Go.Proofs.YtegfcemedkajkaaDoorW.PrintLast Go.Proofs.YtegfcemedkajkaaDoorW.PrintMore
set_option linter.unusedVariables false
set_option linter.unusedSimpArgs false
theorem own_C {w : World} {base : Nat} {A : Option Addr} {n c : Nat} {L : List Int} (h : w.ownsRow base 5 1 (.slice A n c) n (nums .u8 L)) : n = L.length ∧ Kd.C (Kd.int .u8) w A L.length L ∧ n ≤ c ∧ c ≤ 9223372036854775807 := by
  have hl : n = L.length := by have := h.1; simp [nums] at this; omega
  refine ⟨hl, ?_, own_cap h, ?_⟩
  · rw [← hl]
    exact Kd.C_of_reads (d := (0 : Int)) (h1 := fun _ => rfl) (own_reads' h)
  · rcases h.2 with ⟨h1, h2⟩ | ⟨g, cap, cur, h1, _, _, _, h2, _⟩
    · injection h1 with _ h3 h4; omega
    · injection h1 with _ h3 h4; simp [maxLen] at h2; omega
theorem split_own (B : Option Addr) (cB : Nat) (F : List Int) (base b2 : Nat) (w : World) (ho : w.ownsRow base 5 1 (.slice B F.length cB) F.length (nums .u8 F)) (hs : F.length ≤ 1000000000)
    (hr : ∀ x ∈ F, 0 ≤ x ∧ x < 256) (hsep : w.cell? ⟨b2, 0, none⟩ = some (.int .u8 47)) :
    Calls Tryd.prog 32 #[.slice B F.length cB, .slice (some ⟨b2, 0, none⟩) 1 1] w fun e w' => ∃ v, e = .returned v ∧ PartsAt w' v (splitL F) ∧ Below w.heap.size w w' := by
  obtain ⟨_, hC, hc, h63⟩ := own_C ho
  cases B with
  | some a1 => exact split_some a1 cB F b2 w hC hc hs h63 hr hsep
  | none =>
    rcases ho.2 with ⟨h1, h2⟩ | ⟨g, cap, cur, h1, _⟩
    · injection h1 with _ h3 h4
      obtain rfl : F = [] := List.eq_nil_of_length_eq_zero h2
      subst h4
      exact split_nil b2 w hsep
    · injection h1 with h1; cases h1
def partsL (L : List Int) : List (List Int) := splitL (cutEnd (L.map fold1))
theorem fold_range (L : List Int) (hr : ∀ x ∈ L, 0 ≤ x ∧ x ≤ 255) : ∀ x ∈ L.map fold1, 0 ≤ x ∧ x < 256 := by
  intro x hx
  obtain ⟨y, hy, rfl⟩ := List.mem_map.1 hx
  have := hr y hy
  have h := (fold_eq y this.1 this.2).2
  omega
def PPost (w : World) (X : List (List Int)) (e : Ending) (w' : World) : Prop := ∃ v, e = .returned v ∧ PartsAt w' v X ∧ Below w.heap.size w w'
theorem cell_sep (w : World) : (w.alloc (.cells ([47].map (Value.int .u8)).toArray 5)).cell? ⟨w.heap.size, 0, none⟩ = some (.int .u8 47) := by
  rw [cell_of_row _ _ 0 _ _ _ (heap_alloc_new w _)]; rfl
set_option maxHeartbeats 8000000 in
set_option maxRecDepth 100000 in
theorem parts_nil (A : Option Addr) (c : Nat) (w : World) (hb : Kd.C (Kd.int .u8) w A 0 []) : Calls Tryd.prog 24 #[.slice A 0 c] w (PPost w (partsL [])) := by
  have FA := Aside0.mk (fun W h => foldall_any A c [] W h (by simp) (by simp))
  have HC := Aside0.mk hb
  clear hb
  go_enter Tryd.func24, Tryd.ntmps24
  go_wp2_with (first
    | (go_at_call 20; refine (FA.out _ HC.out).mono ?_; rintro e w1 ⟨v, rfl, ho, hb1⟩; obtain ⟨B, cB, rfl⟩ := own_slice ho; have HB1 := Aside0.mk hb1; have HO := Aside0.mk ho; clear ho hb1; simp only [List.map_nil, List.length_nil] at HO ⊢)
    | (refine wpList_buildFlat rfl 22 5 1 _ rfl .u8 [47] Tryd.underlying22 (by kernel_rfl) (by kernel_rfl) (by decide) (by decide) (by decide) (by kernel_rfl) ?_)
    | (go_at_call 32; refine (split_own B cB [] w.heap.size w1.heap.size _ (own_alloc HO.out _) (by simp) (by simp) (cell_sep w1)).mono ?_; rintro e w2 ⟨v2, rfl, hp2, hb2⟩; have HP2 := Aside0.mk hp2; have HB2 := Aside0.mk (below_step (below_alloc HB1.out _) hb2); clear hp2 hb2))
  go_ret
  exact ⟨_, rfl, HP2.out, HB2.out⟩
/-- FoldAll of a list that is not empty: its new memory, its last byte. -/
def FPost (w : World) (F : List Int) (m : Nat) (e : Ending) (w' : World) : Prop :=
  ∃ g cB, e = .returned (.slice (some ⟨g, 0, none⟩) (m + 1) cB) ∧ w'.cell? ⟨g, m, none⟩ = some (.int .u8 (F.getD m 0)) ∧ m + 1 ≤ cB ∧ cB ≤ 9223372036854775807 ∧ w'.ownsRow w.heap.size 5 1 (.slice (some ⟨g, 0, none⟩) F.length cB) F.length (nums .u8 F) ∧ Below w.heap.size w w'
theorem foldall_last (A : Option Addr) (c m : Nat) (L : List Int) (w : World) (hb : Kd.C (Kd.int .u8) w A L.length L) (hm : L.length = m + 1) (hl : L.length ≤ 1000000000) (hr : ∀ x ∈ L, 0 ≤ x ∧ x ≤ 255) :
    Calls Tryd.prog 20 #[.slice A (m + 1) c] w (FPost w (L.map fold1) m) := by
  have h := foldall_any A c L w hb hl hr
  rw [hm] at h
  refine h.mono ?_
  rintro e w1 ⟨v, rfl, ho, hb1⟩
  obtain ⟨B, cB, rfl⟩ := own_slice ho
  have hlen : (L.map fold1).length = m + 1 := by rw [List.length_map, hm]
  obtain ⟨g, rfl⟩ := zero_len ho (by omega)
  have hat := own_at ho (m : Int) (by omega) (by omega)
  obtain ⟨_, _, h1, h2⟩ := own_C ho
  refine ⟨g, cB, by rw [hlen], ?_, by omega, h2, ho, hb1⟩
  have := hat.1
  rw [Int.toNat_natCast] at this
  rw [this]; unfold rd; rw [Int.toNat_natCast]
theorem slice_less (A : Option Addr) (c m : Nat) (F : List Int) (hF : F.length = m + 1) (hc : m + 1 ≤ c) : (∀ W : World, (Instr.slice 22 (.slice A (m + 1) c) none (some (.int .i64 (m : Int))) none).run Tryd.prog W = .ok (.slice A m c) W) ∧
    (∀ w : World, Kd.C (Kd.int .u8) w A F.length F → Kd.C (Kd.int .u8) w A (F.take m).length (F.take m)) := by
  obtain ⟨ys, hy, h1, h2, _⟩ := MyWords.take_letter (P := Tryd.prog) .u8 22 5 .i64 Tryd.underlying22 (by kernel_rfl) A c F (m : Int) (by omega) (by omega) (by omega)
  have e : ys = F.take m := by have h : ys = F.take (m : Int).toNat := hy; rwa [Int.toNat_natCast] at h
  have el : ys.length = m := by rw [e, List.length_take]; omega
  rw [hF, el] at h1
  refine ⟨h1, fun w h => ?_⟩
  have := h2.out w h
  rwa [e] at this
theorem parts_facts (m : Nat) (h : m < 1000000000) : IntKind.i64.wrap (((m + 1 : Nat) : Int) - 1) = (m : Int) ∧ decide (((m + 1 : Nat) : Int) > 0) = true ∧ decide ((0 : Int) < ((m + 1 : Nat) : Int)) = true ∧ decide ((m : Int) < ((m + 1 : Nat) : Int)) = true ∧ wrap64 (m : Int) = (m : Int) ∧ IntKind.i64.wrap (m : Int) = (m : Int) := by
  refine ⟨by rw [IntKind.wrap_i64]; omega, decide_eq_true (by omega), decide_eq_true (by omega), decide_eq_true (by omega), by unfold wrap64; omega, by rw [IntKind.wrap_i64]; omega⟩
set_option maxHeartbeats 8000000 in
set_option maxRecDepth 100000 in
theorem parts_cut (A : Option Addr) (c m : Nat) (F : List Int) (w : World) (hF : F.length = m + 1) (hm : m < 1000000000) (hlast : F.getD m 0 = 47) (hr : ∀ x ∈ F, 0 ≤ x ∧ x < 256)
    (hf : Calls Tryd.prog 20 #[.slice A (m + 1) c] w (FPost w F m)) : Calls Tryd.prog 24 #[.slice A (m + 1) c] w (PPost w (splitL (F.take m))) := by
  obtain ⟨f1, f2, f3, f4, f5, f6⟩ := parts_facts m hm
  have hml : (F.take m).length = m := by rw [List.length_take]; omega
  have FA := Aside0.mk hf
  have SL := Aside0.mk (fun A' c' h => slice_less A' c' m F hF h)
  have SP : Aside0 (∀ (a1 : Addr) (c1 b2 : Nat) (W : World), Kd.C (Kd.int .u8) W (some a1) (F.take m).length (F.take m) → m ≤ c1 → c1 ≤ 9223372036854775807 → W.cell? ⟨b2, 0, none⟩ = some (.int .u8 47) →
      Calls Tryd.prog 32 #[.slice (some a1) m c1, .slice (some ⟨b2, 0, none⟩) 1 1] W fun e w' => ∃ v, e = .returned v ∧ PartsAt w' v (splitL (F.take m)) ∧ Below W.heap.size W w') := ⟨fun a1 c1 b2 W h1 h2 h3 h4 => by
    have h := split_some a1 c1 (F.take m) b2 W h1 (by omega) (by omega) h3 (fun x hx => hr x (List.mem_of_mem_take hx)) h4
    rwa [hml] at h⟩
  have HL := Aside0.mk hlast
  have HM := Aside0.mk hml
  clear hf hr hm hml hlast
  go_enter Tryd.func24, Tryd.ntmps24
  go_wp2_with (first
    | (go_at_call 20; refine (FA.out).mono ?_; rintro e w1 ⟨g, cB, rfl, hcell, hle, h63, ho, hb1⟩; rw [HL.out] at hcell; obtain ⟨s1, s2⟩ := SL.out (some ⟨g, 0, none⟩) cB hle; have HLE := Aside0.mk hle; have H63 := Aside0.mk h63; have CT := Aside0.mk (s2 _ (own_C ho).2.1); have HB1 := Aside0.mk hb1; clear ho hb1 hle h63 s2)
    | (refine wpList_buildFlat rfl 22 5 1 _ rfl .u8 [47] Tryd.underlying22 (by kernel_rfl) (by kernel_rfl) (by decide) (by decide) (by decide) (by kernel_rfl) ?_)
    | (go_at_call 32; refine (SP.out ⟨g, 0, none⟩ cB w1.heap.size _ (Kd.C_alloc CT.out _) (by have := HLE.out; omega) H63.out (cell_sep w1)).mono ?_; rintro e w2 ⟨v2, rfl, hp2, hb2⟩; have HP2 := Aside0.mk hp2; have HB2 := Aside0.mk (below_step (below_alloc HB1.out _) hb2); clear hp2 hb2))
  go_ret
  exact ⟨_, rfl, HP2.out, HB2.out⟩
set_option maxHeartbeats 8000000 in
set_option maxRecDepth 100000 in
theorem parts_keep (A : Option Addr) (c m : Nat) (F : List Int) (w : World) (hF : F.length = m + 1) (hm : m < 1000000000) (hlast : F.getD m 0 ≠ 47) (hr : ∀ x ∈ F, 0 ≤ x ∧ x < 256)
    (hf : Calls Tryd.prog 20 #[.slice A (m + 1) c] w (FPost w F m)) : Calls Tryd.prog 24 #[.slice A (m + 1) c] w (PPost w (splitL F)) := by
  obtain ⟨f1, f2, f3, f4, f5, f6⟩ := parts_facts m hm
  have FA := Aside0.mk hf
  have SP := Aside0.mk (fun B cB base b2 W h1 h2 => hF ▸ split_own B cB F base b2 W (hF.symm ▸ h1) (by omega) hr h2)
  have HF := Aside0.mk hF
  have hx : (F.getD m 0 == 47) = false := beq_eq_false_iff_ne.mpr hlast
  have FAx : Aside0 (∀ e w', FPost w F m e w' → FPost w F m e w') := ⟨fun _ _ h => h⟩
  generalize hz : F.getD m 0 = z at *
  have HZ := Aside0.mk hz
  clear hf hr hm hlast hF hz
  go_enter Tryd.func24, Tryd.ntmps24
  go_wp2_with (first
    | (go_at_call 20; refine (FA.out).mono ?_; rintro e w1 ⟨g, cB, rfl, hcell, hle, h63, ho, hb1⟩; rw [HZ.out] at hcell; have HO := Aside0.mk ho; have HB1 := Aside0.mk hb1; clear ho hb1 hle h63)
    | (refine wpList_buildFlat rfl 22 5 1 _ rfl .u8 [47] Tryd.underlying22 (by kernel_rfl) (by kernel_rfl) (by decide) (by decide) (by decide) (by kernel_rfl) ?_)
    | (go_at_call 32; refine (SP.out (some ⟨g, 0, none⟩) cB w.heap.size w1.heap.size _ (HF.out ▸ own_alloc HO.out _) (cell_sep w1)).mono ?_; rintro e w2 ⟨v2, rfl, hp2, hb2⟩; have HP2 := Aside0.mk hp2; have HB2 := Aside0.mk (below_step (below_alloc HB1.out _) hb2); clear hp2 hb2))
  go_ret
  exact ⟨_, rfl, HP2.out, HB2.out⟩
theorem parts_any (A : Option Addr) (c : Nat) (L : List Int) (w : World) (hb : Kd.C (Kd.int .u8) w A L.length L) (hl : L.length ≤ 1000000000) (hr : ∀ x ∈ L, 0 ≤ x ∧ x ≤ 255) :
    Calls Tryd.prog 24 #[.slice A L.length c] w (PPost w (partsL L)) := by
  rcases Nat.eq_zero_or_pos L.length with h | h
  · obtain rfl : L = [] := List.eq_nil_of_length_eq_zero h
    exact parts_nil A c w hb
  · obtain ⟨m, hm⟩ : ∃ m, L.length = m + 1 := ⟨L.length - 1, by omega⟩
    have hF : (L.map fold1).length = m + 1 := by rw [List.length_map, hm]
    have hf := foldall_last A c m L w hb hm hl hr
    have hfr := fold_range L hr
    unfold partsL cutEnd
    rw [hF, hm]
    by_cases e : (L.map fold1).getD m 0 = 47
    · rw [if_pos ⟨by omega, e⟩]
      exact parts_cut A c m _ w hF (by omega) e hfr hf
    · rw [if_neg (fun h => e h.2)]
      exact parts_keep A c m _ w hF (by omega) e hfr hf
end Go.Proofs.YtegfcemedkajkaaDoor.Wd
