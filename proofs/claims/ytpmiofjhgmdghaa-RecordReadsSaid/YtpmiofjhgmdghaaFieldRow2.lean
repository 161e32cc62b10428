/- bytes.Clone; a row's Bytes, walked. -/
import Derived.Test.YtpmiofjhgmdghaaFieldRow1
import Derived.Laws.Cover3
namespace Go.Proofs.Ytpmiofjhgmdghaa.Fld
open Go.RowKit Go.Proofs.YtpmiofjhgmdghaaW.PrintWords Go.Proofs.YtpmiofjhgmdghaaW.PrintLast Go.Proofs.YtpmiofjhgmdghaaW.PrintMore
set_option linter.unusedVariables false
set_option linter.unusedSimpArgs false
/-- new bytes L -/
def Mine (w : World) (L : List Int) (r : Ending) (w' : World) : Prop :=
  ∃ v, r = .returned v ∧ w'.ownsRow w.heap.size 5 1 v L.length (nums .u8 L) ∧ Below w.heap.size w w'
theorem eql_slice_nil {P : Program} (w : World) (t e : TypeId) (a : Option Addr) (l c : Nat) (h : P.underlying t = some (.slice e)) : (binOp .eql t (.slice a l c) (.slice none 0 0)).run P w = .ok (.bool a.isNone) w := by
  simp only [binOp]
  simp [run_equal_slice_nil w t e a l c h]
set_option maxHeartbeats 4000000 in
theorem clone_nil (w : World) : Calls Try.prog 56 #[.slice none 0 0] w (Mine w []) := by
  have he := fun W : World => eql_slice_nil (P := Try.prog) W 22 5 none 0 0 Try.underlying22
  go_enter Try.func56, Try.ntmps56
  go_wp2
  go_ret
  exact ⟨_, rfl, own_nil _ _ _ _, Below.refl _ _⟩
set_option maxHeartbeats 4000000 in
theorem clone_some (w : World) (ad : Addr) (c : Nat) (b : List Int) (hb : Kd.C (Kd.int .u8) w (some ad) b.length b) (hl : b.length ≤ 1000000000) :
    Calls Try.prog 56 #[.slice (some ad) b.length c] w (Mine w b) := by
  have h1 : Aside0 (∀ o, ReadsInt (w.alloc o) .u8 (some ad) b.length b) := ⟨fun o => Kd.reads_of_C (Kd.C_alloc hb o)⟩
  have h2 := Aside0.mk hl
  have he : ∀ W : World, (binOp .eql 22 (.slice (some ad) b.length c) (.slice none 0 0)).run Try.prog W = .ok (.bool false) W := fun W => eql_slice_nil (P := Try.prog) W 22 5 (some ad) b.length c Try.underlying22
  clear hb hl
  go_enter Try.func56, Try.ntmps56
  go_wp2_with (at_builtin; refine print_append_row (w0 := w) w.heap.size rfl (.tmp 5) (.tmp 6) 22 5 .u8 1 rfl Try.underlying22 infoE (by decide) _ [] b (some ad) b.length c rfl rfl (own_lit w w.heap.size 5 .u8 [] (Nat.le_refl _) (by decide)) (h1.out _) (below_alloc (Below.refl _ _) _) (by simp) (by have := h2.out; simp; omega) ?_; intro v2 w1 hown hbel hgr hat; have OW := Aside0.mk hown; have BE := Aside0.mk hbel; clear hown hbel hgr hat)
  go_ret
  exact ⟨_, rfl, OW.out, BE.out⟩
theorem clone_any (w : World) (A : Option Addr) (c : Nat) (b : List Int) (hb : Kd.C (Kd.int .u8) w A b.length b) (hc : A = none → c = 0) (hl : b.length ≤ 1000000000) :
    Calls Try.prog 56 #[.slice A b.length c] w (Mine w b) := by
  cases A with
  | none =>
    obtain rfl := hc rfl
    have e : b = [] := by
      have h := Kd.reads_of_C (d := (0 : Int)) hb
      rcases Nat.eq_zero_or_pos b.length with h0 | h0
      · exact List.eq_nil_of_length_eq_zero h0
      · obtain ⟨ad, h, _⟩ := h.2.2 h0; cases h
    subst e
    exact clone_nil w
  | some ad => exact clone_some w ad c b hb hl
theorem own_C {w : World} {base : Nat} {A : Option Addr} {n c : Nat} {L : List Int} (h : w.ownsRow base 5 1 (.slice A n c) L.length (nums .u8 L)) : n = L.length ∧ Kd.C (Kd.int .u8) w A L.length L ∧ n ≤ c ∧ (A = none → c = 0) := by
  obtain ⟨A', c', e, hr⟩ := own_reads h
  obtain ⟨rfl, rfl, rfl⟩ : A = A' ∧ n = L.length ∧ c = c' := by injection e with e1 e2 e3; exact ⟨e1, e2, e3⟩
  refine ⟨rfl, Kd.C_of_reads (d := (0 : Int)) (h1 := fun _ => rfl) hr, own_le h, fun hA => ?_⟩
  rcases h.2 with ⟨hv, _⟩ | ⟨g, cap, cur, hv, _⟩
  · injection hv
  · injection hv with e1; rw [hA] at e1; cases e1
set_option maxHeartbeats 4000000 in
theorem row_bytes (w : World) (base g : Nat) (v : Value) (L : List Int) (h : RowAt w base g v L 0) (hL : L.length ≤ 1000000000) :
    Calls Try.prog 63 #[.pointer (some ⟨g, 0, none⟩)] w (Mine w L) := by
  obtain ⟨A, c, rfl⟩ := own_slice h.own
  have h0 := Aside0.mk h
  have h2 := Aside0.mk hL
  obtain ⟨_, hC, _, hn⟩ := own_C h.own
  have HC := Aside0.mk hC
  have HN := Aside0.mk hn
  have cc : w.cell? ⟨g, 0, none⟩ = some (.slice A L.length c) := (blk_cell h.blk 0).trans rfl
  clear h hL hC hn
  go_enter Try.func63, Try.ntmps63
  go_wp2_with (first
    | (go_at_call 62; refine (row_err _ base g _ L 0 h0.out).mono ?_; rintro e w' ⟨rfl, hs⟩; subst hs)
    | (go_at_call 56; refine (clone_any _ A c L HC.out HN.out h2.out).mono ?_; rintro e w' ⟨v', rfl, hr, hk⟩))
  go_ret
  exact ⟨_, rfl, hr, hk⟩
set_option maxHeartbeats 4000000 in
theorem row_bytes_bad (w : World) (base g : Nat) (v : Value) (L : List Int) (e : Int) (h : RowAt w base g v L e) (he : e ≠ 0) :
    Calls Try.prog 63 #[.pointer (some ⟨g, 0, none⟩)] w (Mine w []) := by
  have h0 := Aside0.mk h
  have c1 : decide (e = 0) = false := decide_eq_false he
  clear h
  go_enter Try.func63, Try.ntmps63
  go_wp2_with (go_at_call 62; refine (row_err _ base g _ L e h0.out).mono ?_; rintro e w' ⟨rfl, hs⟩; subst hs)
  go_ret
  exact ⟨_, rfl, own_nil _ _ _ _, Below.refl _ _⟩
end Go.Proofs.Ytpmiofjhgmdghaa.Fld
