/- The law FieldFinds, walked: where four bytes stand last. -/
import Derived.Test.YtedboieaefdbdaaFFFind
import Derived.Test.YtedboieaefdbdaaFFPut
import Derived.Test.YtedboieaefdbdaaFieldLives
import Derived.Laws.CopyOwn
import Derived.Deep.RegionLaw
namespace Go.Proofs.Ytedboieaefdbdaa.Fld
open Go.RowKit Go.Proofs.YtedboieaefdbdaaW.PrintWords Go.Proofs.YtedboieaefdbdaaW.PrintLast Go.Proofs.YtedboieaefdbdaaW.PrintMore Go.Proofs.Ytedboieaefdbdaa.FF Go.Proofs.Ytedboieaefdbdaa.FFR
set_option linter.unusedVariables false
set_option linter.unusedSimpArgs false
theorem own_of_R {w : World} {base : Nat} {ok : Nat → Prop} {v : Value} {L : List Int} (h : Kd.R (Kd.int .u8) 5 w base ok v L) : w.ownsRow base 5 1 v L.length (nums .u8 L) := by
  obtain ⟨_, inner, ho, hr⟩ := h
  have e : inner = nums .u8 L := Kd.reps_encs hr
  rw [← e]; exact ho
/-- what both searches answer, and what is known of it -/
theorem find_both (L : List Int) (hb : Byt8 L) (hl : L.length ≤ 1000) (s f : Int) : ∃ r : Int, field_Find.f 5000 L s f = some r ∧ duffelref02_Find.f 5000 L s f = some r ∧
    (r < 0 ∨ ∃ t : Nat, r = (t : Int) ∧ t + 4 ≤ L.length ∧ (t : Int) ≤ f ∧ num ((L.drop t).take 4) = s) := by
  refine ⟨_, find_run L hb hl s f 5000 (by omega), ?_, ?_⟩
  · rw [rfind_run L hb hl s f 5000 (by omega)]
    congr 2
    unfold mn
    split <;> omega
  · have hm : (mn f ((L.length : Int) - 4) + 1).toNat ≤ (f + 1).toNat := by unfold mn; split <;> omega
    generalize (mn f ((L.length : Int) - 4) + 1).toNat = n at *
    by_cases h : lastB (P4 L s) n < 0
    · exact .inl h
    · obtain ⟨t, ht⟩ : ∃ t : Nat, lastB (P4 L s) n = (t : Int) := Int.eq_ofNat_of_zero_le (by omega)
      obtain ⟨h1, h2, _⟩ := lastB_at ht
      have h3 := of_decide_eq_true h2
      exact .inr ⟨t, ht, h3.1, by omega, h3.2⟩
theorem sliced2 (A : Option Addr) (c n t : Nat) (hc : n ≤ c) (h : t + 4 ≤ n) :
    ∃ (A' : Option Addr) (c' : Nat), (∀ W : World, (Instr.slice 22 (.slice A n c) (some (.int .i64 (t : Int))) (some (.int .i64 ((t + 4 : Nat) : Int))) none).run Try.prog W = .ok (.slice A' 4 c') W) ∧ Aside0 (4 ≤ c') ∧
      Aside0 (∀ (W : World) (L : List Int), L.length = n → Kd.C (Kd.int .u8) W A L.length L → Kd.C (Kd.int .u8) W A' 4 ((L.drop t).take 4)) := by
  refine ⟨if c = t then A else A.map (·.add t), c - t, fun W => ?_, ⟨by omega⟩, ⟨fun W L hL hb => ?_⟩⟩
  · obtain ⟨i0, hi, _, hs, _⟩ := info_parts infoE
    have hel : Try.prog.elem 22 = 5 := by kernel_rfl
    have hu : Try.prog.underlying 22 = some (.slice (Try.prog.elem 22)) := by rw [hel]; exact Try.underlying22
    have hsz : (sizeOf (Try.prog.elem 22)).run Try.prog W = .ok 1 W := by rw [hel]; simp [sizeOf, typeInfo, hi, hs]
    have h2 := run_slice_lh (P := Try.prog) (t := 22) (w := W) (a := A) (len := n) (cap := c) hu .i64 .i64 (t : Int) ((t + 4 : Nat) : Int) (by omega) (by omega) (by omega)
    rw [h2, hsz]
    simp only [Result.andThen_ok, sliced, Int.toNat_natCast, Nat.mul_one, show t + 4 - t = 4 by omega]
  · subst hL
    have hr := Kd.reads_of_C (d := (0 : Int)) hb
    have h1 := ReadsOf.drop_ hr t (by omega) hc
    have h2 := ReadsOf.take_ h1 4 (by omega)
    exact Kd.C_of_reads (h1 := fun _ => rfl) h2
set_option maxHeartbeats 4000000 in
set_option maxRecDepth 100000 in
theorem finds_no (A0 : Option Addr) (c0 : Nat) (l0 : List Int) (s f a : Int) (w : World) (h0 : Kd.C (Kd.int .u8) w A0 l0.length l0) (hc0 : l0.length ≤ c0) (hb : ∀ x ∈ l0, 0 ≤ x ∧ x ≤ 255)
    (b1 b2 b3 : Bool) (e1 : decide (0 ≤ a) = b1) (e2 : decide (a < 1000) = b2) (a4 : Int) (ea : b1 = true → b2 = true → IntKind.i64.wrap (a + 4) = a4) (e3 : b1 = true → b2 = true → decide (a4 ≤ ((l0.take 150).length : Int)) = b3) (hno : (b1 && b2 && b3) = false) :
    Calls Try.prog 3 #[.slice A0 l0.length c0, .int .u32 s, .int .i64 f, .int .i64 a] w fun e w' => e = .returned (.bool true) ∧ Below w.heap.size w w' := by
  have hcut := MyCut.cut_u8.nat l0 150
  have hC := Aside0.mk (MyCut.C_cut_u8 h0 hcut)
  have hcc := Aside0.mk (MyCut.le_cut_u8 hc0 hcut)
  have HCUT := Aside0.mk hcut
  have HC0 := Aside0.mk hc0
  have hn : (l0.take 150).length ≤ 150 := by rw [List.length_take]; omega
  have hby : Byt8 (l0.take 150) := fun x hx => hb x (List.mem_of_mem_take hx)
  clear hcut h0 hc0 hb
  generalize l0.take 150 = l at *
  have hcp : duffelref01_Copy.f l = some l := by
    unfold duffelref01_Copy.f
    exact (if_pos (by simp; omega)).trans (by simp)
  have HCP := Aside0.mk hcp
  clear hcp
  obtain ⟨r, f1, f2, hr⟩ := find_both l hby (by omega) s f
  cases b1 with
  | false =>
    clear hno ea e3
    rcases hr with hr | ⟨t, rfl, h1, h3, h4⟩
    · have F1 := Aside0.mk f1
      have F2 := Aside0.mk f2
      have d1 : decide (r < 0) = true := decide_eq_true hr
      clear f1 f2 hn hby
      go_enter Try.func3, Try.ntmps3
      go_wp2_with (first
        | (go_at_call 9; refine (MyCut.cut_u8.calls A0 c0 l0 150 l _ HC0.out HCUT.out).mono ?_; rintro e w' ⟨rfl, hs_⟩; subst hs_)
        | (go_at_call 8; refine (duffelref01_Copy.calls A0 c0 l l _ hC.out hcc.out HCP.out).mono ?_; rintro e w1 ⟨v, rfl, hR, hb⟩; obtain ⟨A, c, rfl⟩ := own_slice (own_of_R hR); have HO := Aside0.mk (own_C (own_of_R hR)); have HB := Aside0.mk hb; clear hR hb)
        | (go_at_call 11; refine (field_Find.calls 5000 A c l s f r _ HO.out.2.1 HO.out.2.2.1 F1.out).mono ?_; rintro e w2 ⟨rfl, hb⟩; have HC2 := Aside0.mk (Kd.C_below HO.out.2.1 hb); have HB2 := Aside0.mk (below_step HB.out hb); clear hb)
        | (go_at_call 12; refine (duffelref02_Find.calls 5000 A c l s f r _ HC2.out HO.out.2.2.1 F2.out).mono ?_; rintro e w3 ⟨rfl, ⟨nd, hnd⟩⟩; have HC3 := Aside0.mk (hnd ▸ Kd.C_drewN HC2.out nd); have HB3 := Aside0.mk (hnd ▸ pw_below_drewN HB2.out nd); clear hnd)
        | (go_at_call 14; refine (field_lives _).mono ?_; rintro e w5 ⟨rfl, hb⟩; have HB5 := Aside0.mk (below_step HB3.out hb); clear hb))
      go_ret
      exact ⟨rfl, HB5.out⟩
    · have F1 := Aside0.mk f1
      have F2 := Aside0.mk f2
      obtain ⟨q, hq⟩ : ∃ q : Nat, t + 4 = q := ⟨_, rfl⟩
      have hw : IntKind.i64.wrap ((t : Int) + 4) = (q : Int) := by rw [i64_w, IntWalk.wrap64_in _ ⟨by omega, by omega⟩]; omega
      have Q := Aside0.mk hq
      have d1 : decide ((t : Int) < 0) = false := decide_eq_false (by omega)
      have d2 : decide ((t : Int) ≤ f) = true := decide_eq_true h3
      obtain ⟨y, hy⟩ : ∃ y, (l.drop t).take 4 = y := ⟨_, rfl⟩
      have hy4 : y.length = 4 := by rw [← hy, List.length_take, List.length_drop]; omega
      have f3 : duffelref02_Num.f 10 y = some s := by
        rw [num_run y (hy ▸ (hby.drop t).take 4) (by omega) 10 (by omega), ← hy, h4]
      have Y := Aside0.mk hy
      have Y4 := Aside0.mk hy4
      have F3 := Aside0.mk f3
      have T4 := Aside0.mk h1
      clear hy hy4 f3 h4 h3 hq
      clear f1 f2 hn hby h1
      go_enter Try.func3, Try.ntmps3
      go_wp2_with (first
        | (go_at_call 9; refine (MyCut.cut_u8.calls A0 c0 l0 150 l _ HC0.out HCUT.out).mono ?_; rintro e w' ⟨rfl, hs_⟩; subst hs_)
        | (go_at_call 8; refine (duffelref01_Copy.calls A0 c0 l l _ hC.out hcc.out HCP.out).mono ?_; rintro e w1 ⟨v, rfl, hR, hb⟩; obtain ⟨A, c, rfl⟩ := own_slice (own_of_R hR); have HO := Aside0.mk (own_C (own_of_R hR)); have HB := Aside0.mk hb; obtain ⟨A', c', hsl, h4c, hCC0⟩ := sliced2 A c l.length t HO.out.2.2.1 T4.out; rw [Q.out] at hsl; have hCC : Aside0 (∀ W : World, Kd.C (Kd.int .u8) W A l.length l → Kd.C (Kd.int .u8) W A' 4 y) := ⟨fun W h => Y.out ▸ hCC0.out W l rfl h⟩; clear hCC0; clear hR hb)
        | (go_at_call 11; refine (field_Find.calls 5000 A c l s f (t : Int) _ HO.out.2.1 HO.out.2.2.1 F1.out).mono ?_; rintro e w2 ⟨rfl, hb⟩; have HC2 := Aside0.mk (Kd.C_below HO.out.2.1 hb); have HB2 := Aside0.mk (below_step HB.out hb); clear hb)
        | (go_at_call 12; refine (duffelref02_Find.calls 5000 A c l s f (t : Int) _ HC2.out HO.out.2.2.1 F2.out).mono ?_; rintro e w3 ⟨rfl, ⟨nd, hnd⟩⟩; have HC3 := Aside0.mk (hnd ▸ Kd.C_drewN HC2.out nd); have HB3 := Aside0.mk (hnd ▸ pw_below_drewN HB2.out nd); clear hnd)
        | (go_at_call 13; refine (calls_of_args (by rw [Y4.out]) (duffelref02_Num.calls 10 A' c' y s _ (by rw [Y4.out]; exact hCC.out _ HC3.out) (by rw [Y4.out]; exact h4c.out) F3.out)).mono ?_; rintro e w4 ⟨rfl, ⟨nd, hnd⟩⟩; have HB4 := Aside0.mk (hnd ▸ pw_below_drewN HB3.out nd); clear hnd)
        | (go_at_call 14; refine (field_lives _).mono ?_; rintro e w5 ⟨rfl, hb⟩; have HB5 := Aside0.mk (below_step HB4.out hb); clear hb))
      go_ret
      exact ⟨rfl, HB5.out⟩
  | true =>
    cases b2 with
    | false =>
      clear hno ea e3
      rcases hr with hr | ⟨t, rfl, h1, h3, h4⟩
      · have F1 := Aside0.mk f1
        have F2 := Aside0.mk f2
        have d1 : decide (r < 0) = true := decide_eq_true hr
        clear f1 f2 hn hby
        go_enter Try.func3, Try.ntmps3
        go_wp2_with (first
          | (go_at_call 9; refine (MyCut.cut_u8.calls A0 c0 l0 150 l _ HC0.out HCUT.out).mono ?_; rintro e w' ⟨rfl, hs_⟩; subst hs_)
          | (go_at_call 8; refine (duffelref01_Copy.calls A0 c0 l l _ hC.out hcc.out HCP.out).mono ?_; rintro e w1 ⟨v, rfl, hR, hb⟩; obtain ⟨A, c, rfl⟩ := own_slice (own_of_R hR); have HO := Aside0.mk (own_C (own_of_R hR)); have HB := Aside0.mk hb; clear hR hb)
          | (go_at_call 11; refine (field_Find.calls 5000 A c l s f r _ HO.out.2.1 HO.out.2.2.1 F1.out).mono ?_; rintro e w2 ⟨rfl, hb⟩; have HC2 := Aside0.mk (Kd.C_below HO.out.2.1 hb); have HB2 := Aside0.mk (below_step HB.out hb); clear hb)
          | (go_at_call 12; refine (duffelref02_Find.calls 5000 A c l s f r _ HC2.out HO.out.2.2.1 F2.out).mono ?_; rintro e w3 ⟨rfl, ⟨nd, hnd⟩⟩; have HC3 := Aside0.mk (hnd ▸ Kd.C_drewN HC2.out nd); have HB3 := Aside0.mk (hnd ▸ pw_below_drewN HB2.out nd); clear hnd)
          | (go_at_call 14; refine (field_lives _).mono ?_; rintro e w5 ⟨rfl, hb⟩; have HB5 := Aside0.mk (below_step HB3.out hb); clear hb))
        go_ret
        exact ⟨rfl, HB5.out⟩
      · have F1 := Aside0.mk f1
        have F2 := Aside0.mk f2
        obtain ⟨q, hq⟩ : ∃ q : Nat, t + 4 = q := ⟨_, rfl⟩
        have hw : IntKind.i64.wrap ((t : Int) + 4) = (q : Int) := by rw [i64_w, IntWalk.wrap64_in _ ⟨by omega, by omega⟩]; omega
        have Q := Aside0.mk hq
        have d1 : decide ((t : Int) < 0) = false := decide_eq_false (by omega)
        have d2 : decide ((t : Int) ≤ f) = true := decide_eq_true h3
        obtain ⟨y, hy⟩ : ∃ y, (l.drop t).take 4 = y := ⟨_, rfl⟩
        have hy4 : y.length = 4 := by rw [← hy, List.length_take, List.length_drop]; omega
        have f3 : duffelref02_Num.f 10 y = some s := by
          rw [num_run y (hy ▸ (hby.drop t).take 4) (by omega) 10 (by omega), ← hy, h4]
        have Y := Aside0.mk hy
        have Y4 := Aside0.mk hy4
        have F3 := Aside0.mk f3
        have T4 := Aside0.mk h1
        clear hy hy4 f3 h4 h3 hq
        clear f1 f2 hn hby h1
        go_enter Try.func3, Try.ntmps3
        go_wp2_with (first
          | (go_at_call 9; refine (MyCut.cut_u8.calls A0 c0 l0 150 l _ HC0.out HCUT.out).mono ?_; rintro e w' ⟨rfl, hs_⟩; subst hs_)
          | (go_at_call 8; refine (duffelref01_Copy.calls A0 c0 l l _ hC.out hcc.out HCP.out).mono ?_; rintro e w1 ⟨v, rfl, hR, hb⟩; obtain ⟨A, c, rfl⟩ := own_slice (own_of_R hR); have HO := Aside0.mk (own_C (own_of_R hR)); have HB := Aside0.mk hb; obtain ⟨A', c', hsl, h4c, hCC0⟩ := sliced2 A c l.length t HO.out.2.2.1 T4.out; rw [Q.out] at hsl; have hCC : Aside0 (∀ W : World, Kd.C (Kd.int .u8) W A l.length l → Kd.C (Kd.int .u8) W A' 4 y) := ⟨fun W h => Y.out ▸ hCC0.out W l rfl h⟩; clear hCC0; clear hR hb)
          | (go_at_call 11; refine (field_Find.calls 5000 A c l s f (t : Int) _ HO.out.2.1 HO.out.2.2.1 F1.out).mono ?_; rintro e w2 ⟨rfl, hb⟩; have HC2 := Aside0.mk (Kd.C_below HO.out.2.1 hb); have HB2 := Aside0.mk (below_step HB.out hb); clear hb)
          | (go_at_call 12; refine (duffelref02_Find.calls 5000 A c l s f (t : Int) _ HC2.out HO.out.2.2.1 F2.out).mono ?_; rintro e w3 ⟨rfl, ⟨nd, hnd⟩⟩; have HC3 := Aside0.mk (hnd ▸ Kd.C_drewN HC2.out nd); have HB3 := Aside0.mk (hnd ▸ pw_below_drewN HB2.out nd); clear hnd)
          | (go_at_call 13; refine (calls_of_args (by rw [Y4.out]) (duffelref02_Num.calls 10 A' c' y s _ (by rw [Y4.out]; exact hCC.out _ HC3.out) (by rw [Y4.out]; exact h4c.out) F3.out)).mono ?_; rintro e w4 ⟨rfl, ⟨nd, hnd⟩⟩; have HB4 := Aside0.mk (hnd ▸ pw_below_drewN HB3.out nd); clear hnd)
          | (go_at_call 14; refine (field_lives _).mono ?_; rintro e w5 ⟨rfl, hb⟩; have HB5 := Aside0.mk (below_step HB4.out hb); clear hb))
        go_ret
        exact ⟨rfl, HB5.out⟩
    | true =>
      cases b3 with
      | true => cases hno
      | false =>
        replace ea := ea rfl rfl
        replace e3 := e3 rfl rfl
        rcases hr with hr | ⟨t, rfl, h1, h3, h4⟩
        · have F1 := Aside0.mk f1
          have F2 := Aside0.mk f2
          have d1 : decide (r < 0) = true := decide_eq_true hr
          clear f1 f2 hn hby
          go_enter Try.func3, Try.ntmps3
          go_wp2_with (first
            | (go_at_call 9; refine (MyCut.cut_u8.calls A0 c0 l0 150 l _ HC0.out HCUT.out).mono ?_; rintro e w' ⟨rfl, hs_⟩; subst hs_)
            | (go_at_call 8; refine (duffelref01_Copy.calls A0 c0 l l _ hC.out hcc.out HCP.out).mono ?_; rintro e w1 ⟨v, rfl, hR, hb⟩; obtain ⟨A, c, rfl⟩ := own_slice (own_of_R hR); have HO := Aside0.mk (own_C (own_of_R hR)); have HB := Aside0.mk hb; clear hR hb)
            | (go_at_call 11; refine (field_Find.calls 5000 A c l s f r _ HO.out.2.1 HO.out.2.2.1 F1.out).mono ?_; rintro e w2 ⟨rfl, hb⟩; have HC2 := Aside0.mk (Kd.C_below HO.out.2.1 hb); have HB2 := Aside0.mk (below_step HB.out hb); clear hb)
            | (go_at_call 12; refine (duffelref02_Find.calls 5000 A c l s f r _ HC2.out HO.out.2.2.1 F2.out).mono ?_; rintro e w3 ⟨rfl, ⟨nd, hnd⟩⟩; have HC3 := Aside0.mk (hnd ▸ Kd.C_drewN HC2.out nd); have HB3 := Aside0.mk (hnd ▸ pw_below_drewN HB2.out nd); clear hnd)
            | (go_at_call 14; refine (field_lives _).mono ?_; rintro e w5 ⟨rfl, hb⟩; have HB5 := Aside0.mk (below_step HB3.out hb); clear hb))
          go_ret
          exact ⟨rfl, HB5.out⟩
        · have F1 := Aside0.mk f1
          have F2 := Aside0.mk f2
          obtain ⟨q, hq⟩ : ∃ q : Nat, t + 4 = q := ⟨_, rfl⟩
          have hw : IntKind.i64.wrap ((t : Int) + 4) = (q : Int) := by rw [i64_w, IntWalk.wrap64_in _ ⟨by omega, by omega⟩]; omega
          have Q := Aside0.mk hq
          have d1 : decide ((t : Int) < 0) = false := decide_eq_false (by omega)
          have d2 : decide ((t : Int) ≤ f) = true := decide_eq_true h3
          obtain ⟨y, hy⟩ : ∃ y, (l.drop t).take 4 = y := ⟨_, rfl⟩
          have hy4 : y.length = 4 := by rw [← hy, List.length_take, List.length_drop]; omega
          have f3 : duffelref02_Num.f 10 y = some s := by
            rw [num_run y (hy ▸ (hby.drop t).take 4) (by omega) 10 (by omega), ← hy, h4]
          have Y := Aside0.mk hy
          have Y4 := Aside0.mk hy4
          have F3 := Aside0.mk f3
          have T4 := Aside0.mk h1
          clear hy hy4 f3 h4 h3 hq
          clear f1 f2 hn hby h1
          go_enter Try.func3, Try.ntmps3
          go_wp2_with (first
            | (go_at_call 9; refine (MyCut.cut_u8.calls A0 c0 l0 150 l _ HC0.out HCUT.out).mono ?_; rintro e w' ⟨rfl, hs_⟩; subst hs_)
            | (go_at_call 8; refine (duffelref01_Copy.calls A0 c0 l l _ hC.out hcc.out HCP.out).mono ?_; rintro e w1 ⟨v, rfl, hR, hb⟩; obtain ⟨A, c, rfl⟩ := own_slice (own_of_R hR); have HO := Aside0.mk (own_C (own_of_R hR)); have HB := Aside0.mk hb; obtain ⟨A', c', hsl, h4c, hCC0⟩ := sliced2 A c l.length t HO.out.2.2.1 T4.out; rw [Q.out] at hsl; have hCC : Aside0 (∀ W : World, Kd.C (Kd.int .u8) W A l.length l → Kd.C (Kd.int .u8) W A' 4 y) := ⟨fun W h => Y.out ▸ hCC0.out W l rfl h⟩; clear hCC0; clear hR hb)
            | (go_at_call 11; refine (field_Find.calls 5000 A c l s f (t : Int) _ HO.out.2.1 HO.out.2.2.1 F1.out).mono ?_; rintro e w2 ⟨rfl, hb⟩; have HC2 := Aside0.mk (Kd.C_below HO.out.2.1 hb); have HB2 := Aside0.mk (below_step HB.out hb); clear hb)
            | (go_at_call 12; refine (duffelref02_Find.calls 5000 A c l s f (t : Int) _ HC2.out HO.out.2.2.1 F2.out).mono ?_; rintro e w3 ⟨rfl, ⟨nd, hnd⟩⟩; have HC3 := Aside0.mk (hnd ▸ Kd.C_drewN HC2.out nd); have HB3 := Aside0.mk (hnd ▸ pw_below_drewN HB2.out nd); clear hnd)
            | (go_at_call 13; refine (calls_of_args (by rw [Y4.out]) (duffelref02_Num.calls 10 A' c' y s _ (by rw [Y4.out]; exact hCC.out _ HC3.out) (by rw [Y4.out]; exact h4c.out) F3.out)).mono ?_; rintro e w4 ⟨rfl, ⟨nd, hnd⟩⟩; have HB4 := Aside0.mk (hnd ▸ pw_below_drewN HB3.out nd); clear hnd)
            | (go_at_call 14; refine (field_lives _).mono ?_; rintro e w5 ⟨rfl, hb⟩; have HB5 := Aside0.mk (below_step HB4.out hb); clear hb))
          go_ret
          exact ⟨rfl, HB5.out⟩
theorem own_block {w : World} {base n : Nat} {v : Value} {xs : List Value} (h : w.ownsRow base 5 1 v n xs) {i : Nat} (hi : i + 4 ≤ n) :
    ∃ g cap cur, v = .slice (some ⟨g, 0, none⟩) n cap ∧ base ≤ g ∧ w.heap[g]? = some (.cells cur 5 (0, 0)) ∧ n ≤ cap ∧ cap ≤ maxLen ∧ cur.size = cap ∧ cur.toList.take n = xs := by
  rcases h.2 with ⟨_, h0⟩ | ⟨g, cap, cur, h1, h2, h3, h4, h5, h6, h7⟩
  · omega
  · exact ⟨g, cap, cur, h1, h2, h3, h4, h5, by simpa using h6, by simpa using h7⟩
theorem dropped (g n c i : Nat) (hi : i < n) (hc : n ≤ c) (W : World) : (Instr.slice 22 (.slice (some ⟨g, 0, none⟩) n c) (some (.int .i64 (i : Int))) none none).run Try.prog W = .ok (.slice (some ⟨g, i, none⟩) (n - i) (c - i)) W := by
  obtain ⟨i0, hi0, _, hs, _⟩ := info_parts infoE
  have hel : Try.prog.elem 22 = 5 := by kernel_rfl
  have hu : Try.prog.underlying 22 = some (.slice (Try.prog.elem 22)) := by rw [hel]; exact Try.underlying22
  have hsz : (sizeOf (Try.prog.elem 22)).run Try.prog W = .ok 1 W := by rw [hel]; simp [sizeOf, typeInfo, hi0, hs]
  have h2 := run_slice_l (P := Try.prog) (t := 22) (w := W) (a := some ⟨g, 0, none⟩) (len := n) (cap := c) hu .i64 (i : Int) (by omega) (by omega)
  rw [h2, hsz]
  simp only [Result.andThen_ok, sliced, Int.toNat_natCast, Nat.mul_one]
  rw [if_neg (by omega)]
  simp [add_plain]
theorem src_cells {w : World} {A : Option Addr} {s : Int} (h : Kd.C (Kd.int .u8) w A (le s 4).length (le s 4)) : ∃ ad, A = some ad ∧ ∀ j v, (nums .u8 (le s 4))[j]? = some v → w.cell? (ad.add j) = some v := by
  have hr := Kd.reads_of_C (d := (0 : Int)) h
  obtain ⟨ad, hA, hc⟩ := hr.2.2 (by rw [le_length]; decide)
  refine ⟨ad, hA, fun j v hv => ?_⟩
  have hj : j < (le s 4).length := by
    have := (List.getElem?_eq_some_iff.1 hv).1
    simpa [nums] using this
  have := hc j hj
  simp [nums, List.getElem?_eq_getElem hj] at hv
  subst hv
  rw [this]
  simp [List.getD_eq_getElem?_getD, List.getElem?_eq_getElem hj]
theorem nums_one {s : Int} : ∀ v ∈ nums .u8 (le s 4), v.oneCell' = true := by
  intro v hv
  simp only [nums, List.mem_map] at hv
  obtain ⟨x, _, rfl⟩ := hv
  rfl
def spl (l : List Int) (i : Nat) (s : Int) : List Int := splice l i (le s 4)
theorem spl_length {l : List Int} {i : Nat} {s : Int} (h : i + 4 ≤ l.length) : (spl l i s).length = l.length := length_splice l i (le s 4) (by rw [le_length]; exact h)
theorem spl_bytes {l : List Int} {i : Nat} {s : Int} (h : Byt8 l) : Byt8 (spl l i s) := by
  intro x hx
  unfold spl splice at hx
  simp only [List.mem_append] at hx
  rcases hx with h1 | h1 | h1
  · exact h x (List.mem_of_mem_take h1)
  · unfold le at h1
    obtain ⟨j, _, rfl⟩ := List.mem_map.mp h1
    unfold byteAt; omega
  · exact h x (List.mem_of_mem_drop h1)
theorem take_splice {α : Type} (L cs : List α) (off n : Nat) (h : off + cs.length ≤ n) (hn : n ≤ L.length) : (splice L off cs).take n = splice (L.take n) off cs := by
  unfold splice
  rw [List.take_append, List.take_append, List.take_take, List.length_take, List.take_take, List.drop_take]
  rw [Nat.min_eq_left (show off ≤ n by omega), Nat.min_eq_left (show off ≤ L.length by omega), Nat.min_eq_right (show off ≤ n by omega)]
  rw [List.take_of_length_le (show cs.length ≤ n - off by omega), Nat.sub_sub]
theorem nums_splice (l cs : List Int) (off : Nat) : splice (nums .u8 l) off (nums .u8 cs) = nums .u8 (splice l off cs) := by
  simp [splice, nums, List.map_take, List.map_drop]
theorem own_splice {w : World} {base g cap : Nat} {cur : Array Value} {l : List Int} {i : Nat} {s : Int} (hg : w.heap[g]? = some (.cells (splice cur.toList i (nums .u8 (le s 4))).toArray 5 (0, 0))) (hb : base ≤ g) (hnc : l.length ≤ cap) (hcm : cap ≤ maxLen)
    (hcs : cur.size = cap) (htk : cur.toList.take l.length = nums .u8 l) (hi : i + 4 ≤ l.length) : w.ownsRow base 5 1 (.slice (some ⟨g, 0, none⟩) l.length cap) (spl l i s).length (nums .u8 (spl l i s)) := by
  have hk : (nums .u8 (le s 4)).length = 4 := by rw [nums_length, le_length]
  have hlen : (splice cur.toList i (nums .u8 (le s 4))).length = cap := by rw [length_splice _ _ _ (by rw [hk, Array.length_toList, hcs]; omega), Array.length_toList, hcs]
  rw [spl_length hi]
  refine ⟨by rw [nums_length, spl_length hi]; omega, .inr ⟨g, cap, _, rfl, hb, hg, hnc, hcm, by rw [List.size_toArray, hlen]; omega, ?_⟩⟩
  have hcl : l.length ≤ cur.toList.length := by
    have e : cur.toList.length = cap := Array.length_toList.trans hcs
    omega
  rw [Nat.mul_one]
  show (splice cur.toList i (nums .u8 (le s 4))).take l.length = _
  rw [take_splice _ _ _ _ (by rw [hk]; exact hi) hcl, htk, nums_splice]
  rfl
set_option maxHeartbeats 4000000 in
set_option maxRecDepth 100000 in
theorem finds_yes (A0 : Option Addr) (c0 : Nat) (l0 : List Int) (s f : Int) (i : Nat) (w : World) (h0 : Kd.C (Kd.int .u8) w A0 l0.length l0) (hc0 : l0.length ≤ c0) (hb : ∀ x ∈ l0, 0 ≤ x ∧ x ≤ 255) (hs : 0 ≤ s ∧ s < 4294967296) (hi : i < 1000) (hi4 : i + 4 ≤ (l0.take 150).length) :
    Calls Try.prog 3 #[.slice A0 l0.length c0, .int .u32 s, .int .i64 f, .int .i64 i] w fun e w' => e = .returned (.bool true) ∧ Below w.heap.size w w' := by
  have hcut := MyCut.cut_u8.nat l0 150
  have hC := Aside0.mk (MyCut.C_cut_u8 h0 hcut)
  have hcc := Aside0.mk (MyCut.le_cut_u8 hc0 hcut)
  have HCUT := Aside0.mk hcut
  have HC0 := Aside0.mk hc0
  have hn : (l0.take 150).length ≤ 150 := by rw [List.length_take]; omega
  have hby : Byt8 (l0.take 150) := fun x hx => hb x (List.mem_of_mem_take hx)
  clear hcut h0 hc0 hb
  generalize l0.take 150 = l at *
  have hcp : duffelref01_Copy.f l = some l := by
    unfold duffelref01_Copy.f
    exact (if_pos (by simp; omega)).trans (by simp)
  have hP := put_run s hs 4 (by decide) 10 (by decide)
  have HP := Aside0.mk hP
  clear hP
  have HCP := Aside0.mk hcp
  clear hcp
  obtain ⟨L2, hL2⟩ : ∃ L2, spl l i s = L2 := ⟨_, rfl⟩
  have hll : L2.length = l.length := hL2 ▸ spl_length hi4
  have hby2 : Byt8 L2 := hL2 ▸ spl_bytes hby
  have L2E := Aside0.mk hL2
  have LL := Aside0.mk hll
  have I4 := Aside0.mk hi4
  clear hby
  obtain ⟨r, f1, f2, hr⟩ := find_both L2 hby2 (by omega) s f
  have e1 : decide ((0 : Int) ≤ (i : Int)) = true := decide_eq_true (by omega)
  have e2 : decide ((i : Int) < 1000) = true := decide_eq_true (by omega)
  have e2' : decide (i < 1000) = true := decide_eq_true hi
  obtain ⟨j, hj⟩ : ∃ j : Nat, i + 4 = j := ⟨_, rfl⟩
  have ea : IntKind.i64.wrap ((i : Int) + 4) = (j : Int) := by rw [i64_w, IntWalk.wrap64_in _ ⟨by omega, by omega⟩]; omega
  have e3 : decide (j ≤ l.length) = true := decide_eq_true (by omega)
  have e3' : decide ((j : Int) ≤ (l.length : Int)) = true := decide_eq_true (by omega)
  clear hj hi hi4 hll hL2
  rcases hr with hr | ⟨t, rfl, h1, h3, h4⟩
  · have F1 := Aside0.mk f1
    have F2 := Aside0.mk f2
    have d1 : decide (r < 0) = true := decide_eq_true hr
    clear f1 f2 hn hby2
    go_enter Try.func3, Try.ntmps3
    go_wp2_with (first
      | (go_at_call 9; refine (MyCut.cut_u8.calls A0 c0 l0 150 l _ HC0.out HCUT.out).mono ?_; rintro e w' ⟨rfl, hs_⟩; subst hs_)
      | (go_at_call 8; refine (duffelref01_Copy.calls A0 c0 l l _ hC.out hcc.out HCP.out).mono ?_; rintro e w1 ⟨v, rfl, hR, hb⟩; obtain ⟨g, cap, cur, rfl, hg, hh, hnc, hcm, hcs, htk⟩ := own_block (own_of_R hR) I4.out; have GL := Aside0.mk (blk_lt hh); have HH := Aside0.mk hh; have HG := Aside0.mk hg; have HNC := Aside0.mk hnc; have HCM := Aside0.mk hcm; have HCS := Aside0.mk hcs; have HTK := Aside0.mk htk; have HB := Aside0.mk hb; have hsl0 := dropped g l.length cap i (by have := I4.out; omega) hnc; clear hR hb hh hg hnc hcm hcs htk))
    go_region_law (first
      | (go_simp; go_at_call 10; refine (duffelref02_Put.calls 10 s 4 (le s 4) _ HP.out).mono ?_; rintro e w2 ⟨v2, rfl, hR, hb⟩; obtain ⟨A2, c2, rfl⟩ := own_slice (own_of_R hR); have HO2 := Aside0.mk (own_C (own_of_R hR)); have HB2 := Aside0.mk (below_step (below_drew HB.out) hb); have HH2 := Aside0.mk ((hb.block g GL.out).trans HH.out); clear hR hb)
      | (refine step_copy_splice rfl (.tmp 28) (.tmp 30) 22 22 rfl 5 Try.underlying22 (by kernel_rfl) (some ⟨g, i, none⟩) A2 (l.length - i) (cap - i) 4 c2 rfl rfl g i cur.toList 5 (by simpa using HH2.out) (nums .u8 (le s 4)) (by rw [nums_length, le_length]; exact (Nat.min_eq_left (by have := I4.out; omega)).symm) (fun _ => ⟨rfl, src_cells HO2.out.2.1⟩) (by rw [nums_length, le_length, Array.length_toList, HCS.out]; have := I4.out; have := HNC.out; omega) nums_one w.heap.size w HB2.out HG.out ?_; intro w3 hg3 hb3; have HO : Aside0 (_ ∧ _ ∧ _ ∧ _) := ⟨own_C (own_splice (s := s) hg3.out HG.out HNC.out HCM.out HCS.out HTK.out I4.out)⟩; have HB := Aside0.mk hb3; clear hg3 hb3))
    all_goals
      rw [L2E.out] at HO
      go_wp2_with (first
        | (go_at_call 11; refine (calls_of_args (by rw [LL.out]) (field_Find.calls 5000 (some ⟨g, 0, none⟩) cap L2 s f r _ HO.out.2.1 (by rw [LL.out]; exact HO.out.2.2.1) F1.out)).mono ?_; rintro e w2 ⟨rfl, hb⟩; have HC2 := Aside0.mk (Kd.C_below HO.out.2.1 hb); have HB2 := Aside0.mk (below_step HB.out hb); clear hb)
        | (go_at_call 12; refine (calls_of_args (by rw [LL.out]) (duffelref02_Find.calls 5000 (some ⟨g, 0, none⟩) cap L2 s f r _ HC2.out (by rw [LL.out]; exact HO.out.2.2.1) F2.out)).mono ?_; rintro e w3 ⟨rfl, ⟨nd, hnd⟩⟩; have HC3 := Aside0.mk (hnd ▸ Kd.C_drewN HC2.out nd); have HB3 := Aside0.mk (hnd ▸ pw_below_drewN HB2.out nd); clear hnd)
        | (go_at_call 14; refine (field_lives _).mono ?_; rintro e w5 ⟨rfl, hb⟩; have HB5 := Aside0.mk (below_step HB3.out hb); clear hb))
      go_ret
      exact ⟨rfl, HB5.out⟩
  · have hl2 : L2.length ≤ 150 := by have := LL.out; omega
    have F1 := Aside0.mk f1
    have F2 := Aside0.mk f2
    obtain ⟨q, hq⟩ : ∃ q : Nat, t + 4 = q := ⟨_, rfl⟩
    have hw : IntKind.i64.wrap ((t : Int) + 4) = (q : Int) := by rw [i64_w, IntWalk.wrap64_in _ ⟨by omega, by omega⟩]; omega
    have Q := Aside0.mk hq
    have d1 : decide ((t : Int) < 0) = false := decide_eq_false (by omega)
    have d2 : decide ((t : Int) ≤ f) = true := decide_eq_true h3
    obtain ⟨y, hy⟩ : ∃ y, (L2.drop t).take 4 = y := ⟨_, rfl⟩
    have hy4 : y.length = 4 := by rw [← hy, List.length_take, List.length_drop]; omega
    have f3 : duffelref02_Num.f 10 y = some s := by
      rw [num_run y (hy ▸ (hby2.drop t).take 4) (by omega) 10 (by omega), ← hy, h4]
    have Y := Aside0.mk hy
    have Y4 := Aside0.mk hy4
    have F3 := Aside0.mk f3
    have T4 : Aside0 (t + 4 ≤ l.length) := ⟨by have := LL.out; omega⟩
    clear hy hy4 f3 h4 h3 hq
    clear f1 f2 hn hby2 h1
    go_enter Try.func3, Try.ntmps3
    go_wp2_with (first
      | (go_at_call 9; refine (MyCut.cut_u8.calls A0 c0 l0 150 l _ HC0.out HCUT.out).mono ?_; rintro e w' ⟨rfl, hs_⟩; subst hs_)
      | (go_at_call 8; refine (duffelref01_Copy.calls A0 c0 l l _ hC.out hcc.out HCP.out).mono ?_; rintro e w1 ⟨v, rfl, hR, hb⟩; obtain ⟨g, cap, cur, rfl, hg, hh, hnc, hcm, hcs, htk⟩ := own_block (own_of_R hR) I4.out; have GL := Aside0.mk (blk_lt hh); have HH := Aside0.mk hh; have HG := Aside0.mk hg; have HNC := Aside0.mk hnc; have HCM := Aside0.mk hcm; have HCS := Aside0.mk hcs; have HTK := Aside0.mk htk; have HB := Aside0.mk hb; have hsl0 := dropped g l.length cap i (by have := I4.out; omega) hnc; clear hR hb hh hg hnc hcm hcs htk); obtain ⟨A', c', hsl, h4c, hCC0⟩ := sliced2 (some ⟨g, 0, none⟩) cap l.length t HNC.out T4.out; rw [Q.out] at hsl; have hCC : Aside0 (∀ W : World, Kd.C (Kd.int .u8) W (some ⟨g, 0, none⟩) L2.length L2 → Kd.C (Kd.int .u8) W A' 4 y) := ⟨fun W h => Y.out ▸ hCC0.out W L2 LL.out h⟩; clear hCC0)
    go_region_law (first
      | (go_simp; go_at_call 10; refine (duffelref02_Put.calls 10 s 4 (le s 4) _ HP.out).mono ?_; rintro e w2 ⟨v2, rfl, hR, hb⟩; obtain ⟨A2, c2, rfl⟩ := own_slice (own_of_R hR); have HO2 := Aside0.mk (own_C (own_of_R hR)); have HB2 := Aside0.mk (below_step (below_drew HB.out) hb); have HH2 := Aside0.mk ((hb.block g GL.out).trans HH.out); clear hR hb)
      | (refine step_copy_splice rfl (.tmp 28) (.tmp 30) 22 22 rfl 5 Try.underlying22 (by kernel_rfl) (some ⟨g, i, none⟩) A2 (l.length - i) (cap - i) 4 c2 rfl rfl g i cur.toList 5 (by simpa using HH2.out) (nums .u8 (le s 4)) (by rw [nums_length, le_length]; exact (Nat.min_eq_left (by have := I4.out; omega)).symm) (fun _ => ⟨rfl, src_cells HO2.out.2.1⟩) (by rw [nums_length, le_length, Array.length_toList, HCS.out]; have := I4.out; have := HNC.out; omega) nums_one w.heap.size w HB2.out HG.out ?_; intro w3 hg3 hb3; have HO : Aside0 (_ ∧ _ ∧ _ ∧ _) := ⟨own_C (own_splice (s := s) hg3.out HG.out HNC.out HCM.out HCS.out HTK.out I4.out)⟩; have HB := Aside0.mk hb3; clear hg3 hb3))
    all_goals
      rw [L2E.out] at HO
      go_wp2_with (first
        | (go_at_call 11; refine (calls_of_args (by rw [LL.out]) (field_Find.calls 5000 (some ⟨g, 0, none⟩) cap L2 s f (t : Int) _ HO.out.2.1 (by rw [LL.out]; exact HO.out.2.2.1) F1.out)).mono ?_; rintro e w2 ⟨rfl, hb⟩; have HC2 := Aside0.mk (Kd.C_below HO.out.2.1 hb); have HB2 := Aside0.mk (below_step HB.out hb); clear hb)
        | (go_at_call 12; refine (calls_of_args (by rw [LL.out]) (duffelref02_Find.calls 5000 (some ⟨g, 0, none⟩) cap L2 s f (t : Int) _ HC2.out (by rw [LL.out]; exact HO.out.2.2.1) F2.out)).mono ?_; rintro e w3 ⟨rfl, ⟨nd, hnd⟩⟩; have HC3 := Aside0.mk (hnd ▸ Kd.C_drewN HC2.out nd); have HB3 := Aside0.mk (hnd ▸ pw_below_drewN HB2.out nd); clear hnd)
        | (go_at_call 13; refine (calls_of_args (by rw [Y4.out]) (duffelref02_Num.calls 10 A' c' y s _ (by rw [Y4.out]; exact hCC.out _ HC3.out) (by rw [Y4.out]; exact h4c.out) F3.out)).mono ?_; rintro e w4 ⟨rfl, ⟨nd, hnd⟩⟩; have HB4 := Aside0.mk (hnd ▸ pw_below_drewN HB3.out nd); clear hnd)
        | (go_at_call 14; refine (field_lives _).mono ?_; rintro e w5 ⟨rfl, hb⟩; have HB5 := Aside0.mk (below_step HB4.out hb); clear hb))
      go_ret
      exact ⟨rfl, HB5.out⟩
theorem finds_any (A0 : Option Addr) (c0 : Nat) (l0 : List Int) (s f a : Int) (w : World) (h0 : Kd.C (Kd.int .u8) w A0 l0.length l0) (hc0 : l0.length ≤ c0) (hb : ∀ x ∈ l0, 0 ≤ x ∧ x ≤ 255) (hs : 0 ≤ s ∧ s < 4294967296) :
    Calls Try.prog 3 #[.slice A0 l0.length c0, .int .u32 s, .int .i64 f, .int .i64 a] w fun e w' => e = .returned (.bool true) ∧ Below w.heap.size w w' := by
  by_cases h1 : 0 ≤ a
  · by_cases h2 : a < 1000
    · obtain ⟨i, rfl⟩ := Int.eq_ofNat_of_zero_le h1
      have ea : IntKind.i64.wrap ((i : Int) + 4) = (i : Int) + 4 := by rw [i64_w, IntWalk.wrap64_in _ ⟨by omega, by omega⟩]
      by_cases h3 : i + 4 ≤ (l0.take 150).length
      · exact finds_yes A0 c0 l0 s f i w h0 hc0 hb hs (by omega) h3
      · exact finds_no A0 c0 l0 s f i w h0 hc0 hb true true false (decide_eq_true h1) (decide_eq_true h2) ((i : Int) + 4) (fun _ _ => ea) (fun _ _ => decide_eq_false (by clear ea; omega)) rfl
    · exact finds_no A0 c0 l0 s f a w h0 hc0 hb true false false (decide_eq_true h1) (decide_eq_false h2) 0 (fun _ h => by cases h) (fun _ h => by cases h) rfl
  · exact finds_no A0 c0 l0 s f a w h0 hc0 hb false (decide (a < 1000)) false (decide_eq_false h1) rfl 0 (fun h => by cases h) (fun h => by cases h) (by simp)
end Go.Proofs.Ytedboieaefdbdaa.Fld
