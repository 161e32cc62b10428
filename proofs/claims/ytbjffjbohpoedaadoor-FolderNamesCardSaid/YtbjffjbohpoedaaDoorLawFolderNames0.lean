/- FolderNames, walked. -/
import Derived.Test.YtbjffjbohpoedaaDoorFoldNam0
import Derived.Test.YtbjffjbohpoedaaDoorFoldLaw0
namespace Go.Proofs.YtbjffjbohpoedaaDoor.Fd
open Go.Proofs.YtbjffjbohpoedaaDoor.Wd
open Go.RowKit Go.Proofs.YtbjffjbohpoedaaDoorW.PrintWords Go.Proofs.YtbjffjbohpoedaaDoorW.PrintLast Go.Proofs.YtbjffjbohpoedaaDoorW.PrintMore
set_option linter.unusedVariables false
set_option linter.unusedSimpArgs false
theorem R_arg {w w' : World} {v : Value} {l : List Int} (h : Kd.R (Kd.int .u8) 5 w' w.heap.size (fun _ => True) v l) (hr : ∀ x ∈ l, 0 ≤ x ∧ x ≤ 255) (hl : l.length ≤ 100000) (hb : Below w.heap.size w w') : ∃ A c, v = .slice A l.length c ∧ Arg w' A c l := by
  obtain ⟨A, c, e, h1, _⟩ := own_post (Kd.own_of_R h) hr hl hb rfl
  injection e with e
  exact ⟨A, c, e, h1⟩
theorem clean_facts (b : List Int) (hb : b.length ≤ 80) (hr : ∀ x ∈ b, 0 ≤ x ∧ x ≤ 255) : (∀ x ∈ (cleanR b).1, 0 ≤ x ∧ x ≤ 255) ∧ (cleanR b).1.length ≤ 200 ∧ ((cleanR b).2 = 0 ∨ (cleanR b).2 = 16) := by
  unfold cleanR
  by_cases h : isB (cleanL b) = true
  · rw [if_pos h]
    refine ⟨fun x hx => ?_, by have := clean_len b; simp only; omega, .inl rfl⟩
    simp only at hx
    unfold cleanL at hx
    have hBr : ∀ x ∈ stripC (replL b), 0 ≤ x ∧ x ≤ 255 := by
      unfold stripC; split
      · exact fun x hx => repl_rng hr x (List.mem_of_mem_drop hx)
      · exact repl_rng hr
    generalize stripC (replL b) = B at *
    have hf := outC_facts (splitL B) [] (fun p => ∀ x ∈ p, 0 ≤ x ∧ x ≤ 255) (fun p hp => by cases hp) (fun p hp x hx => hBr x (splitL_mem B p hp x hx))
    have hj : ∀ x ∈ joinL (outC B), 0 ≤ x ∧ x ≤ 255 := by
      intro x hx
      rcases joinL_mem _ x hx with rfl | ⟨p, hp, hx⟩
      · omega
      · exact (hf.2 p hp).1 x hx
    unfold bodyC at hx
    split at hx
    · rcases List.mem_append.1 hx with hx | hx
      · exact hj x hx
      · rw [List.mem_singleton.1 hx]; omega
    · exact hj x hx
  · rw [if_neg h]; exact ⟨by simp, by simp, .inr rfl⟩
set_option maxHeartbeats 16000000 in
set_option maxRecDepth 100000 in
theorem names_any (A0 : Option Addr) (c0 : Nat) (l0 : List Int) (w : World) (m0 : l0.length ≤ c0) (h0 : Arg w A0 c0 (l0.take 80)) :
    Calls Tryd.prog 5 #[.slice A0 l0.length c0] w fun e w' => e = .returned (.bool true) ∧ Below w.heap.size w w' := by
  have CUT0 := Aside0.mk (fun W => MyCut.cut_u8.calls A0 c0 l0 80 (l0.take 80) W m0 (MyCut.cut_u8.nat l0 80))
  have n0 : (l0.take 80).length ≤ 80 := by rw [List.length_take]; omega
  obtain ⟨b, hb⟩ : ∃ b, l0.take 80 = b := ⟨_, rfl⟩
  rw [hb] at CUT0 h0 n0
  clear hb m0
  have hcf := clean_facts b n0 h0.rng
  obtain ⟨cl, hcl⟩ : ∃ cl, (cleanR b).1 = cl := ⟨_, rfl⟩
  obtain ⟨z, hz⟩ : ∃ z, (cleanR b).2 = z := ⟨_, rfl⟩
  have hcr : cleanR b = (cl, z) := by rw [← hcl, ← hz]
  rw [hcl, hz] at hcf
  have hpl := parent_len b
  have hpr := parent_rng b (by omega) h0.rng
  have hpf := parts_facts b (by omega) h0.rng
  have LIV := Aside0.mk lives_any
  have HB := Aside0.mk (Below.refl w.heap.size w)
  have CPY : Aside0 (∀ W, Below w.heap.size w W → Calls Tryd.prog 16 #[.slice A0 b.length c0] W fun e w' => ∃ A c, e = .returned (.slice A b.length c) ∧ Arg w' A c b ∧ Below W.heap.size W w') := ⟨fun W hb => by
    have hcp : FR.duffelref01_Copy.f b = some b := by
      unfold FR.duffelref01_Copy.f
      exact (if_pos (by simp; omega)).trans (by simp)
    refine (FR.duffelref01_Copy.calls A0 c0 b b W (h0.below hb).C h0.le hcp).mono ?_
    rintro e w' ⟨v, rfl, hR, hbl⟩
    obtain ⟨A, c, rfl, h1⟩ := R_arg hR h0.rng (by omega) hbl
    exact ⟨A, c, rfl, h1, hbl⟩⟩
  have CLM : Aside0 (∀ W A c, Arg W A c b → Calls Tryd.prog 14 #[.slice A b.length c] W fun e w' => ∃ A' c', e = .returned (.tuple #[.slice A' cl.length c', .int .i64 z]) ∧ Arg w' A' c' cl ∧ Below W.heap.size W w') := ⟨fun W A c h => by
    refine (clean_any A c b W h (by omega)).mono ?_
    rintro e w' ⟨A', c', l', z', rfl, h1, h2, h3⟩
    rw [hcr] at h3
    obtain ⟨rfl, rfl⟩ := Prod.mk.inj h3
    exact ⟨A', c', rfl, h1, h2⟩⟩
  have RCL : Aside0 (∀ W, Below w.heap.size w W → Calls Tryd.prog 17 #[.slice A0 b.length c0] W fun e w' => ∃ A' c', e = .returned (.tuple #[.slice A' cl.length c', .int .i64 z]) ∧ Arg w' A' c' cl ∧ Below W.heap.size W w') := ⟨fun W hb => by
    obtain ⟨K, hK⟩ := (rclean_ev b (by omega) h0.rng).rounds
    refine (FR.duffelref30_Clean.calls K A0 c0 b cl z W (h0.below hb).C h0.le (hK.trans (congrArg some hcr))).mono ?_
    rintro e w' ⟨v, rfl, hR, hbl⟩
    obtain ⟨A, c, rfl, h1⟩ := R_arg hR hcf.1 (by have := hcf.2.1; omega) hbl
    exact ⟨A, c, rfl, h1, hbl⟩⟩
  have CKM : Aside0 (∀ W A c, Arg W A c b → Calls Tryd.prog 15 #[.slice A b.length c] W fun e w' => e = .returned (.int .i64 (errZ (isB b))) ∧ Below W.heap.size W w') := ⟨fun W A c h => check_any A c b W h⟩
  have RIS : Aside0 (∀ W, Below w.heap.size w W → Calls Tryd.prog 18 #[.slice A0 b.length c0] W fun e w' => e = .returned (.bool (isB b)) ∧ Below W.heap.size W w') := ⟨fun W hb => by
    obtain ⟨K, hK⟩ := (is0_ev b (by omega) h0.rng).rounds
    exact FR.duffelref30_Is.calls K A0 c0 b _ W (h0.below hb).C h0.le hK⟩
  have SCD : Aside0 (∀ W A c A' c', Arg W A c cl → Arg W A' c' cl → Calls Tryd.prog 11 #[.slice A cl.length c, .slice A' cl.length c'] W fun e w' => e = .returned (.bool true) ∧ Below W.heap.size W w') := ⟨fun W A c A' c' h h' => same_any A c A' c' cl cl W rfl h h'⟩
  have RPA : Aside0 (∀ W, Below w.heap.size w W → Calls Tryd.prog 19 #[.slice A0 b.length c0] W (RowsPost W (partsF b))) := ⟨fun W hb => by
    obtain ⟨K, hK⟩ := (rparts_ev b (by omega) h0.rng).rounds
    refine (FR.duffelref30_Parts.calls K A0 c0 b _ W (h0.below hb).C h0.le hK).mono ?_
    rintro e w' ⟨v, rfl, hS, hbl⟩
    obtain ⟨A, c, rfl, hl, hC⟩ := Kd.R_reads (Kd.S_R hS)
    exact ⟨A, c, rfl, hl, hC, hbl⟩⟩
  have PAM : Aside0 (∀ W A c, Arg W A c b → Calls Tryd.prog 21 #[.slice A b.length c] W (RowsPost W (partsF b))) := ⟨fun W A c h => by
    refine (parts_any A c b W h).mono ?_
    rintro e w' ⟨v, rfl, hR, hbl⟩
    obtain ⟨A', c', rfl, hl, hC⟩ := Kd.R_reads hR
    exact ⟨A', c', rfl, hl, hC, hbl⟩⟩
  have SNM : Aside0 (∀ W A c A' c', Kd.C (Kd.slice 5 (Kd.int .u8)) W A (partsF b).length (partsF b) → Kd.C (Kd.slice 5 (Kd.int .u8)) W A' (partsF b).length (partsF b) → (partsF b).length ≤ c → (partsF b).length ≤ c' →
      Calls Tryd.prog 20 #[.slice A (partsF b).length c, .slice A' (partsF b).length c'] W fun e w' => e = .returned (.bool true) ∧ Below W.heap.size W w') := ⟨fun W A c A' c' h1 h2 h3 h4 => by
    obtain ⟨K, hK⟩ := (samen0_ev (partsF b) (by omega) (fun p hp => by have := hpf.2.2.1 p hp; omega)).rounds
    exact (FR.duffelref30_SameNames.calls K A c _ A' c' _ true W h1 h3 h2 h4 hK).mono fun e w' ⟨h5, h6⟩ => ⟨h5, Drawn0.below h6⟩⟩
  have DEP : Aside0 (∀ W A c, Arg W A c b → Calls Tryd.prog 22 #[.slice A b.length c] W fun e w' => e = .returned (.int .i64 ((partsF b).length : Int)) ∧ Below W.heap.size W w') := ⟨fun W A c h => depth_any A c b W h⟩
  have PRM : Aside0 (∀ W A c, Arg W A c b → Calls Tryd.prog 12 #[.slice A b.length c] W (RPost W (parentL b))) := ⟨fun W A c h => parent_any A c b W h (by omega)⟩
  have RPR : Aside0 (∀ W, Below w.heap.size w W → Calls Tryd.prog 23 #[.slice A0 b.length c0] W (RPost W (parentL b))) := ⟨fun W hb => by
    obtain ⟨K, hK⟩ := (rparent_ev b (by omega) h0.rng).rounds
    refine (FR.duffelref30_Parent.calls K A0 c0 b _ W (h0.below hb).C h0.le hK).mono ?_
    rintro e w' ⟨v, rfl, hR, hbl⟩
    obtain ⟨A, c, rfl, h1⟩ := R_arg hR hpr (by omega) hbl
    exact ⟨A, c, rfl, h1, hbl⟩⟩
  have SPP : Aside0 (∀ W A c A' c', Arg W A c (parentL b) → Arg W A' c' (parentL b) → Calls Tryd.prog 11 #[.slice A (parentL b).length c, .slice A' (parentL b).length c'] W fun e w' => e = .returned (.bool true) ∧ Below W.heap.size W w') := ⟨fun W A c A' c' h h' => same_any A c A' c' _ _ W rfl h h'⟩
  have ISF : Aside0 (∀ W A c, Arg W A c b → Calls Tryd.prog 24 #[.slice A b.length c] W fun e w' => e = .returned (.bool (isFB b)) ∧ Below W.heap.size W w') := ⟨fun W A c h => isFolder_any A c b W h⟩
  have SMB : Aside0 (∀ W A c, Arg W A c b → Below w.heap.size w W → Calls Tryd.prog 11 #[.slice A b.length c, .slice A0 b.length c0] W fun e w' => e = .returned (.bool true) ∧ Below W.heap.size W w') := ⟨fun W A c h hb => same_any A c A0 c0 b b W rfl h (h0.below hb)⟩
  have hez : (errZ (isB b) == 0) = isB b := by cases isB b <;> rfl
  have hz1 : IntKind.i64.wrap z = z := by rw [IntKind.wrap_i64]; rcases hcf.2.2 with h | h <;> omega
  have hz2 : wrap64 z = z := by unfold wrap64; rcases hcf.2.2 with h | h <;> omega
  have FBD : Aside0 (isFB b = decide (0 < b.length ∧ b.getD (b.length - 1) 0 = 47)) := ⟨rfl⟩
  have H0 := Aside0.mk h0
  have N0 := Aside0.mk n0
  clear hcl hz hcr hcf hpl hpr hpf h0
  generalize isB b = q at *
  generalize errZ q = ez at *
  generalize partsF b = X at *
  generalize parentL b = p at *
  obtain ⟨f, hf⟩ : ∃ f, isFB b = f := ⟨_, rfl⟩
  rw [hf] at ISF FBD
  clear hf n0
  by_cases hbl : b.length = 0
  · have f0 : f = false := by rw [FBD.out]; exact decide_eq_false (fun h => by omega)
    subst f0
    have d1 : decide ((b.length : Int) > 0) = false := decide_eq_false (by omega)
    have d2 : decide ((0 : Int) < (b.length : Int)) = false := decide_eq_false (by omega)
    have d3 : decide (0 < b.length) = false := decide_eq_false (by omega)
    clear hbl
    go_enter Tryd.func5, Tryd.ntmps5
    go_wp2_with (first
        | (go_at_call 8; (with_reducible refine (CUT0.out _).mono ?_); rintro e w1 ⟨rfl, rfl⟩)
        | (go_at_call 16; (with_reducible refine (CPY.out _ HB.out).mono ?_); rintro e w1 ⟨A1, c1, rfl, h1, hb⟩; (try have H1 := Aside0.mk (H1.out.below hb)); (try have H2 := Aside0.mk (H2.out.below hb)); (try have H3 := Aside0.mk (H3.out.below hb)); (try have R8 := Aside0.mk (Kd.C_below R8.out hb)); (try have R9 := Aside0.mk (Kd.C_below R9.out hb)); (try have P4 := Aside0.mk (P4.out.below hb)); (try have P5 := Aside0.mk (P5.out.below hb)); have HB := Aside0.mk (below_step HB.out hb); have H1 := Aside0.mk h1; clear h1 hb)
        | (go_at_call 14; (with_reducible refine (CLM.out _ _ _ H1.out).mono ?_); rintro e w1 ⟨A2, c2, rfl, h2, hb⟩; (try have H1 := Aside0.mk (H1.out.below hb)); (try have H2 := Aside0.mk (H2.out.below hb)); (try have H3 := Aside0.mk (H3.out.below hb)); (try have R8 := Aside0.mk (Kd.C_below R8.out hb)); (try have R9 := Aside0.mk (Kd.C_below R9.out hb)); (try have P4 := Aside0.mk (P4.out.below hb)); (try have P5 := Aside0.mk (P5.out.below hb)); have HB := Aside0.mk (below_step HB.out hb); have H2 := Aside0.mk h2; clear h2 hb)
        | (go_at_call 17; (with_reducible refine (RCL.out _ HB.out).mono ?_); rintro e w1 ⟨A3, c3, rfl, h3, hb⟩; (try have H1 := Aside0.mk (H1.out.below hb)); (try have H2 := Aside0.mk (H2.out.below hb)); (try have H3 := Aside0.mk (H3.out.below hb)); (try have R8 := Aside0.mk (Kd.C_below R8.out hb)); (try have R9 := Aside0.mk (Kd.C_below R9.out hb)); (try have P4 := Aside0.mk (P4.out.below hb)); (try have P5 := Aside0.mk (P5.out.below hb)); have HB := Aside0.mk (below_step HB.out hb); have H3 := Aside0.mk h3; clear h3 hb)
        | (go_at_call 15; (with_reducible refine (CKM.out _ _ _ H1.out).mono ?_); rintro e w1 ⟨rfl, hb⟩; (try have H1 := Aside0.mk (H1.out.below hb)); (try have H2 := Aside0.mk (H2.out.below hb)); (try have H3 := Aside0.mk (H3.out.below hb)); (try have R8 := Aside0.mk (Kd.C_below R8.out hb)); (try have R9 := Aside0.mk (Kd.C_below R9.out hb)); (try have P4 := Aside0.mk (P4.out.below hb)); (try have P5 := Aside0.mk (P5.out.below hb)); have HB := Aside0.mk (below_step HB.out hb); clear hb)
        | (go_at_call 18; (with_reducible refine (RIS.out _ HB.out).mono ?_); rintro e w1 ⟨rfl, hb⟩; (try have H1 := Aside0.mk (H1.out.below hb)); (try have H2 := Aside0.mk (H2.out.below hb)); (try have H3 := Aside0.mk (H3.out.below hb)); (try have R8 := Aside0.mk (Kd.C_below R8.out hb)); (try have R9 := Aside0.mk (Kd.C_below R9.out hb)); (try have P4 := Aside0.mk (P4.out.below hb)); (try have P5 := Aside0.mk (P5.out.below hb)); have HB := Aside0.mk (below_step HB.out hb); clear hb)
        | (go_at_call 19; (with_reducible refine (RPA.out _ HB.out).mono ?_); rintro e w1 ⟨A8, c8, rfl, hl8, hC8, hb⟩; (try have H1 := Aside0.mk (H1.out.below hb)); (try have H2 := Aside0.mk (H2.out.below hb)); (try have H3 := Aside0.mk (H3.out.below hb)); (try have R8 := Aside0.mk (Kd.C_below R8.out hb)); (try have R9 := Aside0.mk (Kd.C_below R9.out hb)); (try have P4 := Aside0.mk (P4.out.below hb)); (try have P5 := Aside0.mk (P5.out.below hb)); have HB := Aside0.mk (below_step HB.out hb); have R8 := Aside0.mk hC8; have L8 := Aside0.mk hl8; clear hl8 hC8 hb)
        | (go_at_call 21; (with_reducible refine (PAM.out _ _ _ H1.out).mono ?_); rintro e w1 ⟨A9, c9, rfl, hl9, hC9, hb⟩; (try have H1 := Aside0.mk (H1.out.below hb)); (try have H2 := Aside0.mk (H2.out.below hb)); (try have H3 := Aside0.mk (H3.out.below hb)); (try have R8 := Aside0.mk (Kd.C_below R8.out hb)); (try have R9 := Aside0.mk (Kd.C_below R9.out hb)); (try have P4 := Aside0.mk (P4.out.below hb)); (try have P5 := Aside0.mk (P5.out.below hb)); have HB := Aside0.mk (below_step HB.out hb); have R9 := Aside0.mk hC9; have L9 := Aside0.mk hl9; clear hl9 hC9 hb)
        | (go_at_call 20; (with_reducible refine (SNM.out _ _ _ _ _ R9.out R8.out L9.out L8.out).mono ?_); rintro e w1 ⟨rfl, hb⟩; (try have H1 := Aside0.mk (H1.out.below hb)); (try have H2 := Aside0.mk (H2.out.below hb)); (try have H3 := Aside0.mk (H3.out.below hb)); (try have R8 := Aside0.mk (Kd.C_below R8.out hb)); (try have R9 := Aside0.mk (Kd.C_below R9.out hb)); (try have P4 := Aside0.mk (P4.out.below hb)); (try have P5 := Aside0.mk (P5.out.below hb)); have HB := Aside0.mk (below_step HB.out hb); clear hb)
        | (go_at_call 22; (with_reducible refine (DEP.out _ _ _ H1.out).mono ?_); rintro e w1 ⟨rfl, hb⟩; (try have H1 := Aside0.mk (H1.out.below hb)); (try have H2 := Aside0.mk (H2.out.below hb)); (try have H3 := Aside0.mk (H3.out.below hb)); (try have R8 := Aside0.mk (Kd.C_below R8.out hb)); (try have R9 := Aside0.mk (Kd.C_below R9.out hb)); (try have P4 := Aside0.mk (P4.out.below hb)); (try have P5 := Aside0.mk (P5.out.below hb)); have HB := Aside0.mk (below_step HB.out hb); clear hb)
        | (go_at_call 12; (with_reducible refine (PRM.out _ _ _ H1.out).mono ?_); rintro e w1 ⟨A4, c4, rfl, h4, hb⟩; (try have H1 := Aside0.mk (H1.out.below hb)); (try have H2 := Aside0.mk (H2.out.below hb)); (try have H3 := Aside0.mk (H3.out.below hb)); (try have R8 := Aside0.mk (Kd.C_below R8.out hb)); (try have R9 := Aside0.mk (Kd.C_below R9.out hb)); (try have P4 := Aside0.mk (P4.out.below hb)); (try have P5 := Aside0.mk (P5.out.below hb)); have HB := Aside0.mk (below_step HB.out hb); have P4 := Aside0.mk h4; clear h4 hb)
        | (go_at_call 23; (with_reducible refine (RPR.out _ HB.out).mono ?_); rintro e w1 ⟨A5, c5, rfl, h5, hb⟩; (try have H1 := Aside0.mk (H1.out.below hb)); (try have H2 := Aside0.mk (H2.out.below hb)); (try have H3 := Aside0.mk (H3.out.below hb)); (try have R8 := Aside0.mk (Kd.C_below R8.out hb)); (try have R9 := Aside0.mk (Kd.C_below R9.out hb)); (try have P4 := Aside0.mk (P4.out.below hb)); (try have P5 := Aside0.mk (P5.out.below hb)); have HB := Aside0.mk (below_step HB.out hb); have P5 := Aside0.mk h5; clear h5 hb)
        | (go_at_call 24; (with_reducible refine (ISF.out _ _ _ H1.out).mono ?_); rintro e w1 ⟨rfl, hb⟩; (try have H1 := Aside0.mk (H1.out.below hb)); (try have H2 := Aside0.mk (H2.out.below hb)); (try have H3 := Aside0.mk (H3.out.below hb)); (try have R8 := Aside0.mk (Kd.C_below R8.out hb)); (try have R9 := Aside0.mk (Kd.C_below R9.out hb)); (try have P4 := Aside0.mk (P4.out.below hb)); (try have P5 := Aside0.mk (P5.out.below hb)); have HB := Aside0.mk (below_step HB.out hb); (try have hcx := CX.out _ HB.out); clear hb)
        | (go_at_call 11; (with_reducible refine (SCD.out _ _ _ _ _ H2.out H3.out).mono ?_); rintro e w1 ⟨rfl, hb⟩; (try have H1 := Aside0.mk (H1.out.below hb)); (try have H2 := Aside0.mk (H2.out.below hb)); (try have H3 := Aside0.mk (H3.out.below hb)); (try have R8 := Aside0.mk (Kd.C_below R8.out hb)); (try have R9 := Aside0.mk (Kd.C_below R9.out hb)); (try have P4 := Aside0.mk (P4.out.below hb)); (try have P5 := Aside0.mk (P5.out.below hb)); have HB := Aside0.mk (below_step HB.out hb); clear hb)
        | (go_at_call 11; (with_reducible refine (SPP.out _ _ _ _ _ P4.out P5.out).mono ?_); rintro e w1 ⟨rfl, hb⟩; (try have H1 := Aside0.mk (H1.out.below hb)); (try have H2 := Aside0.mk (H2.out.below hb)); (try have H3 := Aside0.mk (H3.out.below hb)); (try have R8 := Aside0.mk (Kd.C_below R8.out hb)); (try have R9 := Aside0.mk (Kd.C_below R9.out hb)); (try have P4 := Aside0.mk (P4.out.below hb)); (try have P5 := Aside0.mk (P5.out.below hb)); have HB := Aside0.mk (below_step HB.out hb); clear hb)
        | (go_at_call 11; (with_reducible refine (SMB.out _ _ _ H1.out HB.out).mono ?_); rintro e w1 ⟨rfl, hb⟩; (try have H1 := Aside0.mk (H1.out.below hb)); (try have H2 := Aside0.mk (H2.out.below hb)); (try have H3 := Aside0.mk (H3.out.below hb)); (try have R8 := Aside0.mk (Kd.C_below R8.out hb)); (try have R9 := Aside0.mk (Kd.C_below R9.out hb)); (try have P4 := Aside0.mk (P4.out.below hb)); (try have P5 := Aside0.mk (P5.out.below hb)); have HB := Aside0.mk (below_step HB.out hb); clear hb)
        | (go_at_call 13; (with_reducible refine (LIV.out _).mono ?_); rintro e w1 ⟨rfl, hb⟩; (try have H1 := Aside0.mk (H1.out.below hb)); (try have H2 := Aside0.mk (H2.out.below hb)); (try have H3 := Aside0.mk (H3.out.below hb)); (try have R8 := Aside0.mk (Kd.C_below R8.out hb)); (try have R9 := Aside0.mk (Kd.C_below R9.out hb)); (try have P4 := Aside0.mk (P4.out.below hb)); (try have P5 := Aside0.mk (P5.out.below hb)); have HB := Aside0.mk (below_step HB.out hb); clear hb))
    go_ret
    exact ⟨rfl, HB.out⟩
  · have d1 : decide ((b.length : Int) > 0) = true := decide_eq_true (by omega)
    have d2 : decide ((0 : Int) < (b.length : Int)) = true := decide_eq_true (by omega)
    have d3 : decide (0 < b.length) = true := decide_eq_true (by omega)
    obtain ⟨n, hn⟩ : ∃ n, b.length - 1 = n := ⟨_, rfl⟩
    have e1 : IntKind.i64.wrap ((b.length : Int) - 1) = (n : Int) := by rw [IntKind.wrap_i64]; have := N0.out; omega
    have e2 : wrap64 ((b.length : Int) - 1) = (n : Int) := by unfold wrap64; have := N0.out; omega
    have e3 : (n : Int) < (b.length : Int) := by omega
    have e3n : n < b.length := by omega
    obtain ⟨ad, ea, hcs⟩ := (Kd.reads_of_C (d := (0 : Int)) H0.out.C).2.2 (by omega)
    subst ea
    obtain ⟨x, hx⟩ : ∃ x, b.getD n 0 = x := ⟨_, rfl⟩
    have CX : Aside0 (∀ W, Below w.heap.size w W → W.cell? (ad.add n) = some (.int .u8 x)) := ⟨fun W hb => by
      have h1 := hcs n e3n
      have hlt : (ad.add n).block < w.heap.size := block_lt_of_cell h1
      rw [(hb.cell (p := ad.add n) hlt).trans h1, hx]⟩
    have ef : (x == 47) = f := by
      rw [FBD.out, hn, hx]
      by_cases e : x = 47
      · rw [beq_iff_eq.mpr e, decide_eq_true ⟨by omega, e⟩]
      · rw [beq_eq_false_iff_ne.mpr e, decide_eq_false (fun h => e h.2)]
    clear hbl hn hcs hx
    go_enter Tryd.func5, Tryd.ntmps5
    go_wp2_with (first
        | (go_at_call 8; (with_reducible refine (CUT0.out _).mono ?_); rintro e w1 ⟨rfl, rfl⟩)
        | (go_at_call 16; (with_reducible refine (CPY.out _ HB.out).mono ?_); rintro e w1 ⟨A1, c1, rfl, h1, hb⟩; (try have H1 := Aside0.mk (H1.out.below hb)); (try have H2 := Aside0.mk (H2.out.below hb)); (try have H3 := Aside0.mk (H3.out.below hb)); (try have R8 := Aside0.mk (Kd.C_below R8.out hb)); (try have R9 := Aside0.mk (Kd.C_below R9.out hb)); (try have P4 := Aside0.mk (P4.out.below hb)); (try have P5 := Aside0.mk (P5.out.below hb)); have HB := Aside0.mk (below_step HB.out hb); have H1 := Aside0.mk h1; clear h1 hb)
        | (go_at_call 14; (with_reducible refine (CLM.out _ _ _ H1.out).mono ?_); rintro e w1 ⟨A2, c2, rfl, h2, hb⟩; (try have H1 := Aside0.mk (H1.out.below hb)); (try have H2 := Aside0.mk (H2.out.below hb)); (try have H3 := Aside0.mk (H3.out.below hb)); (try have R8 := Aside0.mk (Kd.C_below R8.out hb)); (try have R9 := Aside0.mk (Kd.C_below R9.out hb)); (try have P4 := Aside0.mk (P4.out.below hb)); (try have P5 := Aside0.mk (P5.out.below hb)); have HB := Aside0.mk (below_step HB.out hb); have H2 := Aside0.mk h2; clear h2 hb)
        | (go_at_call 17; (with_reducible refine (RCL.out _ HB.out).mono ?_); rintro e w1 ⟨A3, c3, rfl, h3, hb⟩; (try have H1 := Aside0.mk (H1.out.below hb)); (try have H2 := Aside0.mk (H2.out.below hb)); (try have H3 := Aside0.mk (H3.out.below hb)); (try have R8 := Aside0.mk (Kd.C_below R8.out hb)); (try have R9 := Aside0.mk (Kd.C_below R9.out hb)); (try have P4 := Aside0.mk (P4.out.below hb)); (try have P5 := Aside0.mk (P5.out.below hb)); have HB := Aside0.mk (below_step HB.out hb); have H3 := Aside0.mk h3; clear h3 hb)
        | (go_at_call 15; (with_reducible refine (CKM.out _ _ _ H1.out).mono ?_); rintro e w1 ⟨rfl, hb⟩; (try have H1 := Aside0.mk (H1.out.below hb)); (try have H2 := Aside0.mk (H2.out.below hb)); (try have H3 := Aside0.mk (H3.out.below hb)); (try have R8 := Aside0.mk (Kd.C_below R8.out hb)); (try have R9 := Aside0.mk (Kd.C_below R9.out hb)); (try have P4 := Aside0.mk (P4.out.below hb)); (try have P5 := Aside0.mk (P5.out.below hb)); have HB := Aside0.mk (below_step HB.out hb); clear hb)
        | (go_at_call 18; (with_reducible refine (RIS.out _ HB.out).mono ?_); rintro e w1 ⟨rfl, hb⟩; (try have H1 := Aside0.mk (H1.out.below hb)); (try have H2 := Aside0.mk (H2.out.below hb)); (try have H3 := Aside0.mk (H3.out.below hb)); (try have R8 := Aside0.mk (Kd.C_below R8.out hb)); (try have R9 := Aside0.mk (Kd.C_below R9.out hb)); (try have P4 := Aside0.mk (P4.out.below hb)); (try have P5 := Aside0.mk (P5.out.below hb)); have HB := Aside0.mk (below_step HB.out hb); clear hb)
        | (go_at_call 19; (with_reducible refine (RPA.out _ HB.out).mono ?_); rintro e w1 ⟨A8, c8, rfl, hl8, hC8, hb⟩; (try have H1 := Aside0.mk (H1.out.below hb)); (try have H2 := Aside0.mk (H2.out.below hb)); (try have H3 := Aside0.mk (H3.out.below hb)); (try have R8 := Aside0.mk (Kd.C_below R8.out hb)); (try have R9 := Aside0.mk (Kd.C_below R9.out hb)); (try have P4 := Aside0.mk (P4.out.below hb)); (try have P5 := Aside0.mk (P5.out.below hb)); have HB := Aside0.mk (below_step HB.out hb); have R8 := Aside0.mk hC8; have L8 := Aside0.mk hl8; clear hl8 hC8 hb)
        | (go_at_call 21; (with_reducible refine (PAM.out _ _ _ H1.out).mono ?_); rintro e w1 ⟨A9, c9, rfl, hl9, hC9, hb⟩; (try have H1 := Aside0.mk (H1.out.below hb)); (try have H2 := Aside0.mk (H2.out.below hb)); (try have H3 := Aside0.mk (H3.out.below hb)); (try have R8 := Aside0.mk (Kd.C_below R8.out hb)); (try have R9 := Aside0.mk (Kd.C_below R9.out hb)); (try have P4 := Aside0.mk (P4.out.below hb)); (try have P5 := Aside0.mk (P5.out.below hb)); have HB := Aside0.mk (below_step HB.out hb); have R9 := Aside0.mk hC9; have L9 := Aside0.mk hl9; clear hl9 hC9 hb)
        | (go_at_call 20; (with_reducible refine (SNM.out _ _ _ _ _ R9.out R8.out L9.out L8.out).mono ?_); rintro e w1 ⟨rfl, hb⟩; (try have H1 := Aside0.mk (H1.out.below hb)); (try have H2 := Aside0.mk (H2.out.below hb)); (try have H3 := Aside0.mk (H3.out.below hb)); (try have R8 := Aside0.mk (Kd.C_below R8.out hb)); (try have R9 := Aside0.mk (Kd.C_below R9.out hb)); (try have P4 := Aside0.mk (P4.out.below hb)); (try have P5 := Aside0.mk (P5.out.below hb)); have HB := Aside0.mk (below_step HB.out hb); clear hb)
        | (go_at_call 22; (with_reducible refine (DEP.out _ _ _ H1.out).mono ?_); rintro e w1 ⟨rfl, hb⟩; (try have H1 := Aside0.mk (H1.out.below hb)); (try have H2 := Aside0.mk (H2.out.below hb)); (try have H3 := Aside0.mk (H3.out.below hb)); (try have R8 := Aside0.mk (Kd.C_below R8.out hb)); (try have R9 := Aside0.mk (Kd.C_below R9.out hb)); (try have P4 := Aside0.mk (P4.out.below hb)); (try have P5 := Aside0.mk (P5.out.below hb)); have HB := Aside0.mk (below_step HB.out hb); clear hb)
        | (go_at_call 12; (with_reducible refine (PRM.out _ _ _ H1.out).mono ?_); rintro e w1 ⟨A4, c4, rfl, h4, hb⟩; (try have H1 := Aside0.mk (H1.out.below hb)); (try have H2 := Aside0.mk (H2.out.below hb)); (try have H3 := Aside0.mk (H3.out.below hb)); (try have R8 := Aside0.mk (Kd.C_below R8.out hb)); (try have R9 := Aside0.mk (Kd.C_below R9.out hb)); (try have P4 := Aside0.mk (P4.out.below hb)); (try have P5 := Aside0.mk (P5.out.below hb)); have HB := Aside0.mk (below_step HB.out hb); have P4 := Aside0.mk h4; clear h4 hb)
        | (go_at_call 23; (with_reducible refine (RPR.out _ HB.out).mono ?_); rintro e w1 ⟨A5, c5, rfl, h5, hb⟩; (try have H1 := Aside0.mk (H1.out.below hb)); (try have H2 := Aside0.mk (H2.out.below hb)); (try have H3 := Aside0.mk (H3.out.below hb)); (try have R8 := Aside0.mk (Kd.C_below R8.out hb)); (try have R9 := Aside0.mk (Kd.C_below R9.out hb)); (try have P4 := Aside0.mk (P4.out.below hb)); (try have P5 := Aside0.mk (P5.out.below hb)); have HB := Aside0.mk (below_step HB.out hb); have P5 := Aside0.mk h5; clear h5 hb)
        | (go_at_call 24; (with_reducible refine (ISF.out _ _ _ H1.out).mono ?_); rintro e w1 ⟨rfl, hb⟩; (try have H1 := Aside0.mk (H1.out.below hb)); (try have H2 := Aside0.mk (H2.out.below hb)); (try have H3 := Aside0.mk (H3.out.below hb)); (try have R8 := Aside0.mk (Kd.C_below R8.out hb)); (try have R9 := Aside0.mk (Kd.C_below R9.out hb)); (try have P4 := Aside0.mk (P4.out.below hb)); (try have P5 := Aside0.mk (P5.out.below hb)); have HB := Aside0.mk (below_step HB.out hb); (try have hcx := CX.out _ HB.out); clear hb)
        | (go_at_call 11; (with_reducible refine (SCD.out _ _ _ _ _ H2.out H3.out).mono ?_); rintro e w1 ⟨rfl, hb⟩; (try have H1 := Aside0.mk (H1.out.below hb)); (try have H2 := Aside0.mk (H2.out.below hb)); (try have H3 := Aside0.mk (H3.out.below hb)); (try have R8 := Aside0.mk (Kd.C_below R8.out hb)); (try have R9 := Aside0.mk (Kd.C_below R9.out hb)); (try have P4 := Aside0.mk (P4.out.below hb)); (try have P5 := Aside0.mk (P5.out.below hb)); have HB := Aside0.mk (below_step HB.out hb); clear hb)
        | (go_at_call 11; (with_reducible refine (SPP.out _ _ _ _ _ P4.out P5.out).mono ?_); rintro e w1 ⟨rfl, hb⟩; (try have H1 := Aside0.mk (H1.out.below hb)); (try have H2 := Aside0.mk (H2.out.below hb)); (try have H3 := Aside0.mk (H3.out.below hb)); (try have R8 := Aside0.mk (Kd.C_below R8.out hb)); (try have R9 := Aside0.mk (Kd.C_below R9.out hb)); (try have P4 := Aside0.mk (P4.out.below hb)); (try have P5 := Aside0.mk (P5.out.below hb)); have HB := Aside0.mk (below_step HB.out hb); clear hb)
        | (go_at_call 11; (with_reducible refine (SMB.out _ _ _ H1.out HB.out).mono ?_); rintro e w1 ⟨rfl, hb⟩; (try have H1 := Aside0.mk (H1.out.below hb)); (try have H2 := Aside0.mk (H2.out.below hb)); (try have H3 := Aside0.mk (H3.out.below hb)); (try have R8 := Aside0.mk (Kd.C_below R8.out hb)); (try have R9 := Aside0.mk (Kd.C_below R9.out hb)); (try have P4 := Aside0.mk (P4.out.below hb)); (try have P5 := Aside0.mk (P5.out.below hb)); have HB := Aside0.mk (below_step HB.out hb); clear hb)
        | (go_at_call 13; (with_reducible refine (LIV.out _).mono ?_); rintro e w1 ⟨rfl, hb⟩; (try have H1 := Aside0.mk (H1.out.below hb)); (try have H2 := Aside0.mk (H2.out.below hb)); (try have H3 := Aside0.mk (H3.out.below hb)); (try have R8 := Aside0.mk (Kd.C_below R8.out hb)); (try have R9 := Aside0.mk (Kd.C_below R9.out hb)); (try have P4 := Aside0.mk (P4.out.below hb)); (try have P5 := Aside0.mk (P5.out.below hb)); have HB := Aside0.mk (below_step HB.out hb); clear hb))
    go_ret
    exact ⟨rfl, HB.out⟩
end Go.Proofs.YtbjffjbohpoedaaDoor.Fd
