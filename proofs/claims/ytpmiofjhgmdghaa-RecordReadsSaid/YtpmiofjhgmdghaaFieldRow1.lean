/- A row of package field: U16, U32, Put, Bytes, walked. -/
import Derived.Test.YtpmiofjhgmdghaaFieldRow0
namespace Go.Proofs.Ytpmiofjhgmdghaa.Fld
open Go.RowKit Go.Proofs.YtpmiofjhgmdghaaW.PrintWords Go.Proofs.YtpmiofjhgmdghaaW.PrintLast Go.Proofs.YtpmiofjhgmdghaaW.PrintMore
set_option linter.unusedVariables false
set_option linter.unusedSimpArgs false
/-- what a row is behind U16, U32, Put -/
def u16L (L : List Int) (e x : Int) : List Int := if e = 0 ∧ 0 ≤ x ∧ x ≤ 65535 then L ++ le x 2 else L
def u16E (e x : Int) : Int := if e = 0 ∧ ¬ (0 ≤ x ∧ x ≤ 65535) then 18 else e
def u32L (L : List Int) (e x : Int) : List Int := if e = 0 then L ++ le x 4 else L
def putL (L : List Int) (e : Int) (b : List Int) : List Int := if e = 0 then L ++ b else L
set_option maxHeartbeats 4000000 in
theorem row_number_bad (w : World) (base g : Nat) (v : Value) (L : List Int) (x e n : Int) (h : RowAt w base g v L e) (he : e ≠ 0) :
    Calls Try.prog 61 #[.pointer (some ⟨g, 0, none⟩), .int .u32 x, .int .i64 n] w (RPost w base g v L e) := by
  have h0 := Aside0.mk h
  have c1 : decide (e = 0) = false := decide_eq_false he
  clear h
  go_enter Try.func61, Try.ntmps61
  go_wp2_with (go_at_call 62; refine (row_err _ base g v L e h0.out).mono ?_; rintro e w' ⟨rfl, hs⟩; subst hs)
  go_ret
  exact ⟨v, rfl, h0.out, RowKept.refl _ _ _ _⟩
set_option maxHeartbeats 4000000 in
theorem row_u32 (w : World) (base g : Nat) (v : Value) (L : List Int) (x e : Int) (h : RowAt w base g v L e) (hx : 0 ≤ x) (hL : L.length ≤ 1000000000) :
    Calls Try.prog 43 #[.pointer (some ⟨g, 0, none⟩), .int .u32 x] w (RPost w base g v (u32L L e x) e) := by
  have h0 := Aside0.mk h
  have h1 := Aside0.mk hx
  have h2 := Aside0.mk hL
  clear h hx hL
  unfold u32L
  by_cases he : e = 0
  · subst he
    rw [if_pos rfl]
    go_enter Try.func43, Try.ntmps43
    go_wp2_with (go_at_call 61; refine (row_number _ base g v L x 4 h0.out (by omega) h1.out h2.out).mono ?_; rintro e w' ⟨v', rfl, hr, hk⟩)
    go_ret
    exact ⟨v', rfl, hr, hk⟩
  · rw [if_neg he]
    have h3 := Aside0.mk he
    clear he
    go_enter Try.func43, Try.ntmps43
    go_wp2_with (go_at_call 61; refine (row_number_bad _ base g v L x e 4 h0.out h3.out).mono ?_; rintro e w' ⟨v', rfl, hr, hk⟩)
    go_ret
    exact ⟨v', rfl, hr, hk⟩
theorem RowAt.seterr {W : World} {base g : Nat} {v : Value} {L : List Int} {e : Int} (h : RowAt W base g v L e) (e1 : Int) :
    RowAt (W.setCell ⟨g, 1, none⟩ (.int .i64 e1)) base g v L e1 :=
  ⟨blk_set h.blk 1 _, own_setCell h.own (own_ne h.own h.blk ne_types) _, h.ge⟩
theorem RowKept.seterr {W : World} {base g : Nat} {v : Value} {L : List Int} {e : Int} (h : RowAt W base g v L e) (u : Value) : RowKept W (W.setCell ⟨g, 1, none⟩ u) base g v v :=
  ⟨(Below.refl _ _).setCell h.ge u, (Kept.refl W _).setCell (.inl (.inl rfl)) u, .inl rfl⟩
set_option maxHeartbeats 4000000 in
theorem row_u16 (w : World) (base g : Nat) (v : Value) (L : List Int) (x e : Int) (h : RowAt w base g v L e) (hL : L.length ≤ 1000000000) :
    Calls Try.prog 44 #[.pointer (some ⟨g, 0, none⟩), .int .i64 x] w (RPost w base g v (u16L L e x) (u16E e x)) := by
  have h0 := Aside0.mk h
  have h2 := Aside0.mk hL
  clear h hL
  unfold u16L u16E
  by_cases he : e = 0
  · subst he
    by_cases hx : 0 ≤ x ∧ x ≤ 65535
    · rw [if_pos ⟨rfl, hx⟩, if_neg (fun h => h.2 hx)]
      obtain ⟨hx0, hx1⟩ := hx
      have c1 : decide (x < 0) = false := decide_eq_false (by omega)
      have c2 : decide (65535 < x) = false := decide_eq_false (by omega)
      have hw : IntKind.u32.wrap x = x := IntWalk.u32_in _ ⟨by omega, by omega⟩
      have h1 := Aside0.mk hx0
      clear hx0 hx1
      go_enter Try.func44, Try.ntmps44
      go_wp2_with (first
        | (go_at_call 62; refine (row_err _ base g v L 0 h0.out).mono ?_; rintro e w' ⟨rfl, hs⟩; subst hs)
        | (go_at_call 61; refine (row_number _ base g v L x 2 h0.out (by omega) h1.out h2.out).mono ?_; rintro e w' ⟨v', rfl, hr, hk⟩))
      go_ret
      exact ⟨v', rfl, hr, hk⟩
    · rw [if_neg (fun h => hx h.2), if_pos ⟨rfl, hx⟩]
      have hb := (h0.out.seterr 18)
      have hk0 := RowKept.seterr h0.out (.int .i64 18)
      have H1 := Aside0.mk hb
      have H2 := Aside0.mk hk0
      have cc : w.cell? ⟨g, 1, none⟩ = some (.int .i64 0) := (blk_cell h0.out.blk 1).trans rfl
      have ff := blk_frozen h0.out.blk 1
      clear hb hk0
      by_cases hx0 : x < 0
      · have c1 : decide (x < 0) = true := decide_eq_true hx0
        clear hx
        go_enter Try.func44, Try.ntmps44
        go_wp2_with (first
          | (go_at_call 62; refine (row_err _ base g v L 0 h0.out).mono ?_; rintro e w' ⟨rfl, hs⟩; subst hs)
          | (go_at_call 61; refine (row_number_bad _ base g v L _ 18 2 H1.out (by decide)).mono ?_; rintro e w' ⟨v', rfl, hr, hk⟩))
        go_ret
        exact ⟨v', rfl, hr, H2.out.trans hk⟩
      · have c1 : decide (x < 0) = false := decide_eq_false hx0
        have c2 : decide (65535 < x) = true := decide_eq_true (by omega)
        clear hx
        go_enter Try.func44, Try.ntmps44
        go_wp2_with (first
          | (go_at_call 62; refine (row_err _ base g v L 0 h0.out).mono ?_; rintro e w' ⟨rfl, hs⟩; subst hs)
          | (go_at_call 61; refine (row_number_bad _ base g v L _ 18 2 H1.out (by decide)).mono ?_; rintro e w' ⟨v', rfl, hr, hk⟩))
        go_ret
        exact ⟨v', rfl, hr, H2.out.trans hk⟩
  · rw [if_neg (fun h => he h.1), if_neg (fun h => he h.1)]
    have c1 : decide (e = 0) = false := decide_eq_false he
    have h3 := Aside0.mk he
    go_enter Try.func44, Try.ntmps44
    go_wp2_with (first
      | (go_at_call 62; refine (row_err _ base g v L e h0.out).mono ?_; rintro e w' ⟨rfl, hs⟩; subst hs)
      | (go_at_call 61; refine (row_number_bad _ base g v L _ e 2 h0.out h3.out).mono ?_; rintro e w' ⟨v', rfl, hr, hk⟩))
    go_ret
    exact ⟨v', rfl, hr, hk⟩
set_option maxHeartbeats 4000000 in
theorem row_put (w : World) (base g : Nat) (v : Value) (L : List Int) (e : Int) (A : Option Addr) (c : Nat) (b : List Int) (h : RowAt w base g v L e) (hb : Kd.C (Kd.int .u8) w A b.length b) (hL : L.length + b.length ≤ 1000000000) :
    Calls Try.prog 46 #[.pointer (some ⟨g, 0, none⟩), .slice A b.length c] w (RPost w base g v (putL L e b) e) := by
  have h0 := Aside0.mk h
  have h1 := Aside0.mk hb
  have h2 := Aside0.mk hL
  clear h hb hL
  unfold putL
  by_cases he : e = 0
  · subst he
    rw [if_pos rfl]
    have cc : w.cell? ⟨g, 0, none⟩ = some v := (blk_cell h0.out.blk 0).trans rfl
    have ff := blk_frozen h0.out.blk 0
    have HG : Aside0 (base ≤ w.heap.size) := ⟨Nat.le_of_lt (Nat.lt_of_le_of_lt h0.out.ge (blk_lt h0.out.blk))⟩
    have HR : Aside0 (ReadsInt w .u8 A b.length b) := ⟨Kd.reads_of_C h1.out⟩
    go_enter Try.func46, Try.ntmps46
    go_wp2_with (first
      | (go_at_call 62; refine (row_err _ base g v L 0 h0.out).mono ?_; rintro e w' ⟨rfl, hs⟩; subst hs)
      | (at_builtin; refine print_append_row (w0 := w) base rfl (.tmp 12) (.tmp 13) 22 5 .u8 1 rfl Try.underlying22 infoE (by decide) v L b A b.length c rfl rfl h0.out.own HR.out (Below.refl _ _) HG.out (by have := h2.out; omega) ?_; intro v2 w1 hown hbel hgr hat; obtain ⟨m, hm⟩ : ∃ m, (L ++ b).length = m := ⟨_, rfl⟩; rw [hm] at hown; obtain ⟨A2, c2, rfl⟩ := own_slice hown; have HM := Aside0.mk hm; clear hm; have cc1 : w1.cell? ⟨g, 0, none⟩ = some v := (blk_cell (blk_grown h0.out.blk hgr (own_ne h0.out.own h0.out.blk ne_types)) 0).trans rfl; have ff1 := blk_frozen (blk_grown h0.out.blk hgr (own_ne h0.out.own h0.out.blk ne_types)) 0; have OW := Aside0.mk hown; have BE := Aside0.mk hbel; have GR := Aside0.mk hgr; have AT := Aside0.mk hat; clear hown hbel hgr hat))
    go_ret
    exact ⟨_, rfl, h0.out.store (HM.out.symm ▸ OW.out) GR.out, RowKept.store BE.out GR.out AT.out h0.out.ge 0 _⟩
  · rw [if_neg he]
    have c1 : decide (e = 0) = false := decide_eq_false he
    go_enter Try.func46, Try.ntmps46
    go_wp2_with (go_at_call 62; refine (row_err _ base g v L e h0.out).mono ?_; rintro e w' ⟨rfl, hs⟩; subst hs)
    go_ret
    exact ⟨v, rfl, h0.out, RowKept.refl _ _ _ _⟩
end Go.Proofs.Ytpmiofjhgmdghaa.Fld
