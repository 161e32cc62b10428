/- text.step, text.Untab, walked. -/
import Derived.Test.YtlliomkjnhbbbaaDoorTextRep0
import Derived.Test.YtlliomkjnhbbbaaDoorWildClone0
namespace Go.Proofs.YtlliomkjnhbbbaaDoor.Tx
open Go.RowKit Go.Proofs.YtlliomkjnhbbbaaDoorW.PrintWords Go.Proofs.YtlliomkjnhbbbaaDoorW.PrintLast Go.Proofs.YtlliomkjnhbbbaaDoorW.PrintMore
open Go.Proofs.YtlliomkjnhbbbaaDoor.MyCut
attribute [local go_sem] max2_int min2_int max_two min_two max_three min_three max_four min_four
set_option linter.unusedVariables false
set_option linter.unusedSimpArgs false
/-- how wide behind a byte -/
def stepZ (w c : Int) : Int := if c = 9 then (w / 8 + 1) * 8 else if c = 8 then (if w ≤ 0 then 0 else w - 1) else if c = 7 ∨ c = 27 then w else w + 1
theorem stepZ_bd (w c : Int) (h0 : 0 ≤ w) : 0 ≤ stepZ w c ∧ stepZ w c ≤ w + 8 := by
  unfold stepZ
  repeat' split
  all_goals omega
set_option maxHeartbeats 4000000 in
theorem step_any (wd c : Int) (w : World) (h0 : 0 ≤ wd) (h1 : wd ≤ 100000000) : Calls Tryd.prog 28 #[.int .i64 wd, .int .u8 c] w fun e w' => e = .returned (.int .i64 (stepZ wd c)) ∧ w = w' := by
  obtain ⟨z, hz⟩ : ∃ z, stepZ wd c = z := ⟨_, rfl⟩
  rw [hz]
  unfold stepZ at hz
  by_cases c9 : c = 9
  · rw [if_pos c9] at hz
    subst c9
    have e0 : Int.tdiv wd 8 = wd / 8 := Int.tdiv_eq_ediv_of_nonneg h0
    have b0 : 0 ≤ wd / 8 ∧ wd / 8 ≤ 100000000 := by omega
    obtain ⟨q, hq⟩ : ∃ q, wd / 8 = q := ⟨_, rfl⟩
    rw [hq] at e0 b0 hz
    have HZ := Aside0.mk hz
    clear hz hq
    go_enter Tryd.func28, Tryd.ntmps28
    go_wp2
    go_ret
    exact ⟨by rw [← HZ.out]; rfl, rfl⟩
  rw [if_neg c9] at hz
  have n9 : (c == 9) = false := beq_eq_false_iff_ne.2 c9
  clear c9
  by_cases c8 : c = 8
  · rw [if_pos c8] at hz
    subst c8
    by_cases hw : wd ≤ 0
    · rw [if_pos hw] at hz
      have e : wd = 0 := by omega
      subst e
      subst hz
      clear h0 h1 hw n9
      go_enter Tryd.func28, Tryd.ntmps28
      go_wp2
      go_ret
      exact ⟨rfl, rfl⟩
    · rw [if_neg hw] at hz
      have e1 : ¬ (wd - 1 < 0) := by omega
      have e2 : ¬ (0 < 1 - wd) := by omega
      have e3 : ¬ (wd < 1) := by omega
      have HZ := Aside0.mk hz
      clear hz
      go_enter Tryd.func28, Tryd.ntmps28
      go_wp2
      go_ret
      refine ⟨?_, rfl⟩
      rw [← HZ.out]
      first | rfl | (simp [mx]; omega) | (unfold mx; rw [if_neg (by omega)])
  rw [if_neg c8] at hz
  have n8 : (c == 8) = false := beq_eq_false_iff_ne.2 c8
  clear c8
  by_cases c7 : c = 7
  · rw [if_pos (.inl c7)] at hz
    subst c7
    subst hz
    go_enter Tryd.func28, Tryd.ntmps28
    go_wp2
    go_ret
    exact ⟨rfl, rfl⟩
  have n7 : (c == 7) = false := beq_eq_false_iff_ne.2 c7
  by_cases c27 : c = 27
  · rw [if_pos (.inr c27)] at hz
    subst c27
    subst hz
    clear c7
    go_enter Tryd.func28, Tryd.ntmps28
    go_wp2
    go_ret
    exact ⟨rfl, rfl⟩
  have n27 : (c == 27) = false := beq_eq_false_iff_ne.2 c27
  rw [if_neg (by omega)] at hz
  have HZ := Aside0.mk hz
  clear c7 c27 hz
  go_enter Tryd.func28, Tryd.ntmps28
  go_wp2
  go_ret
  exact ⟨by rw [← HZ.out]; rfl, rfl⟩
/-- a line without tabs, from a place on -/
def untabFrom : Int → List Int → List Int
  | _, [] => []
  | w, c :: l => (if c = 9 then List.replicate (stepZ w 9 - w).toNat 32 else [c]) ++ untabFrom (stepZ w c) l
theorem untab_step (w : Int) (L : List Int) (i : Nat) (h : i < L.length) : untabFrom w (L.drop i) = (if L.getD i 0 = 9 then List.replicate (stepZ w 9 - w).toNat 32 else [L.getD i 0]) ++ untabFrom (stepZ w (L.getD i 0)) (L.drop (i + 1)) := by
  rw [List.drop_eq_getElem_cons h, untabFrom, List.getD_eq_getElem?_getD, List.getElem?_eq_getElem h]
  rfl
theorem own_bel {w w1 : World} {base : Nat} {e : TypeId} {size n : Nat} {v : Value} {xs : List Value} (h : w.ownsRow base e size v n xs) (hb : Below w.heap.size w w1) : w1.ownsRow base e size v n xs :=
  own_move h (fun k hk => hb.block k (own_lt h k hk))
theorem one_reads (W : World) (x : Int) : ReadsInt (W.alloc (.cells #[.int .u8 x] 5)) .u8 (some ⟨W.heap.size, 0, none⟩) 1 [x] :=
  own_reads' (own_lit W W.heap.size 5 .u8 [x] (Nat.le_refl _) (by simp))
theorem sp_C (W : World) : Kd.C (Kd.int .u8) (W.alloc (.cells #[.int .u8 32] 5)) (some ⟨W.heap.size, 0, none⟩) 1 [32] := MyWords.C_new .u8 W [32] 5 _ (by decide)
set_option maxHeartbeats 8000000 in
set_option maxRecDepth 100000 in
theorem untab_any (A : Option Addr) (c : Nat) (L : List Int) (w : World) (h : Kd.C (Kd.int .u8) w A L.length L) (hl : L.length ≤ 1000000) :
    Calls Tryd.prog 23 #[.slice A L.length c] w (Wd.Mine w (untabFrom 0 L)) := by
  have HC := Aside0.mk h
  have HL := Aside0.mk hl
  clear h hl
  go_enter Tryd.func23, Tryd.ntmps23
  go_wp2_with (fail)
  go_loopg [3, 4, 10] L.length (fun gk v3 v4 v10 w' => ∃ (i : Nat) (out : List Int) (B : Option Addr) (cB : Nat) (wd : Int), v3 = .slice B out.length cB ∧ v4 = .int .i64 wd ∧ v10 = .int .i64 (i : Int) ∧ i + gk = L.length ∧ Aside0 (0 ≤ wd ∧ wd ≤ 8 * i ∧ out.length ≤ 8 * i) ∧ Aside0 (w'.ownsRow w.heap.size 5 1 (.slice B out.length cB) out.length (nums .u8 out)) ∧ Aside0 (out ++ untabFrom wd (L.drop i) = untabFrom 0 L) ∧ Aside0 (Below w.heap.size w w'))
  case atStart => exact ⟨0, [], none, 0, 0, rfl, rfl, rfl, by omega, ⟨by simp⟩, ⟨own_nil _ _ _ _⟩, ⟨rfl⟩, ⟨Below.refl _ _⟩⟩
  case round =>
    obtain ⟨i, out, B, cB, wd, rfl, rfl, rfl, hig, HBD, HO, HU, HB⟩ := hrel
    cases gk with
    | zero =>
      obtain rfl : i = L.length := by omega
      have c1 : decide ((L.length : Int) < (L.length : Int)) = false := decide_eq_false (by omega)
      go_wp2
      go_ret
      have e : out = untabFrom 0 L := by
        have := HU.out
        rw [List.drop_length, untabFrom, List.append_nil] at this
        exact this
      refine ⟨_, rfl, ?_, HB.out⟩
      rw [← e]
      exact HO.out
    | succ g =>
      have hi : i < L.length := by omega
      have c1 : decide ((i : Int) < (L.length : Int)) = true := decide_eq_true (by omega)
      have q1 : (i : Int) < (L.length : Int) := by omega
      have HI := Aside0.mk hi
      obtain ⟨ad, rfl, hcs⟩ := (Kd.reads_of_C (d := (0 : Int)) (Kd.C_below HC.out HB.out)).2.2 (by omega)
      have hcell := hcs i hi
      obtain ⟨x, hx⟩ : ∃ x : Int, L.getD i 0 = x := ⟨_, rfl⟩
      rw [hx] at hcell
      have HX := Aside0.mk hx
      have hwi : IntKind.i64.wrap ((i : Int) + 1) = ((i + 1 : Nat) : Int) := by rw [IntKind.wrap_i64]; have := HL.out; omega
      have hst := stepZ_bd wd x HBD.out.1
      have HST := Aside0.mk hst
      have HSA := Aside0.mk (fun W => step_any wd x W HBD.out.1 (by have := HBD.out; have := HL.out; have := HI.out; omega))
      obtain ⟨z, hz⟩ : ∃ z, stepZ wd x = z := ⟨_, rfl⟩
      rw [hz] at HST HSA
      have HZ := Aside0.mk hz
      have HN := Aside0.mk hig
      have hstep := untab_step wd L i hi
      rw [hx, hz] at hstep
      have HSTEP := Aside0.mk hstep
      clear hcs hx hst hz hstep hi q1
      by_cases c9 : x = 9
      · subst c9
        obtain ⟨n, hn⟩ : ∃ n : Nat, (z - wd) = (n : Int) := ⟨(z - wd).toNat, by have := HST.out; have := HZ.out; simp only [stepZ, if_pos] at this; have := HBD.out.1; omega⟩
        have hn1 : 1 ≤ n ∧ n ≤ 8 := by have := HST.out; have h2 := HZ.out; rw [stepZ, if_pos rfl] at h2; have := HBD.out.1; omega
        have HN1 := Aside0.mk hn1
        have HNZ := Aside0.mk hn
        have hsub : IntKind.i64.wrap (z - wd) = (n : Int) := by rw [hn, IntKind.wrap_i64]; omega
        clear hn hn1
        go_wp2_with (first
          | (go_at_call 28; refine (HSA.out _).mono ?_; rintro e w1 ⟨rfl, rfl⟩)
          | (go_at_call 29; refine (repeat_any (some ⟨wr.heap.size, 0, none⟩) 1 n HN1.out.1 HN1.out.2 _ (sp_C wr)).mono ?_; rintro e w2 ⟨A', rfl, hR, hb⟩; have HR := Aside0.mk hR; have HB2 := Aside0.mk (below_step (below_alloc HB.out _) hb); have HO2 := Aside0.mk (own_bel (own_alloc HO.out (.cells #[.int .u8 32] 5)) hb); clear hR hb)
          | (at_builtin; refine print_append_row (w0 := w) w.heap.size rfl (.tmp 19) (.tmp 24) 22 5 .u8 1 rfl Tryd.underlying22 infoE (by decide) _ out (List.replicate n 32) A' n n rfl rfl HO2.out HR.out HB2.out (below_size HB2.out) (by have := HBD.out; have := HL.out; have := HI.out; have := HN1.out; omega) ?_; intro v3 w3 ho3 hb3 _ _; obtain ⟨B3, c3, rfl⟩ := own_slice ho3; have HO3 := Aside0.mk ho3; have HB3 := Aside0.mk hb3; clear ho3 hb3))
        go_roundg g
        case measure => omega
        case rel => exact ⟨i + 1, out ++ List.replicate n 32, B3, c3, z, (by rw [List.length_append, List.length_replicate]), rfl, by first | rfl | (simp; done) | (simp [*]; done), by have := HN.out; omega, ⟨by have := HBD.out; have := HST.out; have := HN1.out; have := HNZ.out; simp only [List.length_append, List.length_replicate]; omega⟩, HO3, ⟨by rw [← HU.out, HSTEP.out, if_pos (by trivial), show stepZ wd 9 = z from HZ.out, HNZ.out, Int.toNat_natCast, List.append_assoc]⟩, HB3⟩
      · have n9 : (x == 9) = false := beq_eq_false_iff_ne.2 c9
        have C9 := Aside0.mk c9
        clear c9
        go_wp2_with (first
          | (go_at_call 28; refine (HSA.out _).mono ?_; rintro e w1 ⟨rfl, rfl⟩)
          | (at_builtin; refine print_append_row (w0 := w) w.heap.size rfl (.tmp 26) (.tmp 28) 22 5 .u8 1 rfl Tryd.underlying22 infoE (by decide) _ out [x] (some ⟨wr.heap.size, 0, none⟩) 1 1 rfl rfl (own_alloc HO.out _) (one_reads wr x) (below_alloc HB.out _) (below_size (below_alloc HB.out _)) (by have := HBD.out; have := HL.out; have := HI.out; omega) ?_; intro v3 w3 ho3 hb3 _ _; obtain ⟨B3, c3, rfl⟩ := own_slice ho3; have HO3 := Aside0.mk ho3; have HB3 := Aside0.mk hb3; clear ho3 hb3))
        go_roundg g
        case measure => omega
        case rel => exact ⟨i + 1, out ++ [x], B3, c3, z, (by rw [List.length_append]; rfl), rfl, by first | rfl | (simp; done) | (simp [*]; done), by have := HN.out; omega, ⟨by have := HBD.out; have := HST.out; simp only [List.length_append, List.length_cons, List.length_nil]; omega⟩, HO3, ⟨by rw [← HU.out, HSTEP.out, if_neg C9.out, List.append_assoc]⟩, HB3⟩
theorem untab_R (A : Option Addr) (c : Nat) (L : List Int) (w : World) (h : Kd.C (Kd.int .u8) w A L.length L) (hl : L.length ≤ 1000000) :
    Calls Tryd.prog 23 #[.slice A L.length c] w fun e w' => ∃ v0_ : Value, e = .returned (v0_) ∧ Kd.R (Kd.int .u8) 5 w' w.heap.size (fun _ => True) v0_ (untabFrom 0 L) ∧ Below w.heap.size w w' :=
  (untab_any A c L w h hl).mono fun e w' ⟨v, he, ho, hbl⟩ => ⟨v, he, Wd.mine_R ho, hbl⟩
end Go.Proofs.YtlliomkjnhbbbaaDoor.Tx
