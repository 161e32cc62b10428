/- record: sign, head, walked. -/
import Derived.Test.YtpmiofjhgmdghaaFieldCur1
import Derived.Deep.RegionHeld3
import Derived.Deep.MidRow
namespace Go.Proofs.Ytpmiofjhgmdghaa.Fld
open Go.RowKit Go.Proofs.YtpmiofjhgmdghaaW.PrintWords Go.Proofs.YtpmiofjhgmdghaaW.PrintLast Go.Proofs.YtpmiofjhgmdghaaW.PrintMore
set_option linter.unusedVariables false
set_option linter.unusedSimpArgs false
/-! a cursor's place and error in one piece -/
abbrev Sta := Nat × Int
def rA (b : List Int) (s : Sta) (n : Int) : Sta := (tkA b s.1 s.2 n, tkE b s.1 s.2 n)
def rL (b : List Int) (s : Sta) (n : Int) : List Int := tkL b s.1 s.2 n
def rV (b : List Int) (s : Sta) (n : Int) : Int := num (rL b s n)
def CS (w : World) (B g : Nat) (v : Value) (b : List Int) (s : Sta) : Prop := CurAt w B g v b s.1 s.2
/-- a cursor op: what it answers, the cursor's new state -/
def SPost (w : World) (B g : Nat) (v : Value) (b : List Int) (s : Sta) (u : Value) (r : Ending) (w' : World) : Prop :=
  r = .returned u ∧ CS w' B g v b s ∧ CKept w w' B g
section
variable {w w' : World} {B g : Nat} {v : Value} {b : List Int} {s : Sta}
theorem cs_u16 (h : CS w B g v b s) (hb : ∀ x ∈ b, 0 ≤ x ∧ x ≤ 255) : Calls Try.prog 54 #[.pointer (some ⟨g, 0, none⟩)] w (SPost w B g v b (rA b s 2) (.int .i64 (rV b s 2))) := cur_u16 w B g v b s.1 s.2 h hb
theorem cs_u32 (h : CS w B g v b s) (hb : ∀ x ∈ b, 0 ≤ x ∧ x ≤ 255) : Calls Try.prog 55 #[.pointer (some ⟨g, 0, none⟩)] w (SPost w B g v b (rA b s 4) (.int .u32 (rV b s 4))) := cur_u32 w B g v b s.1 s.2 h hb
theorem cs_err (h : CS w B g v b s) : Calls Try.prog 37 #[.pointer (some ⟨g, 0, none⟩)] w fun r w' => r = .returned (.int .i64 s.2) ∧ w = w' := cur_err w B g v b s.1 s.2 h
theorem cs_bytes (h : CS w B g v b s) (n : Int) : Calls Try.prog 31 #[.pointer (some ⟨g, 0, none⟩), .int .i64 n] w fun r w' => ∃ A c, r = .returned (.slice A (rL b s n).length c) ∧ w'.ownsRow w.heap.size 5 1 (.slice A (rL b s n).length c) (rL b s n).length (nums .u8 (rL b s n)) ∧ CS w' B g v b (rA b s n) ∧ CKept w w' B g :=
  (cur_bytes w B g v b s.1 s.2 n h).mono fun r w' ⟨v', hr, ho, hc, hk⟩ => by
    obtain ⟨A, c, rfl⟩ := own_slice ho
    exact ⟨A, c, hr, ho, hc, hk⟩
theorem CS.drew (h : CS w B g v b s) : CS w.drew B g v b s := ⟨h.blk, h.own, h.ge, h.le, h.len⟩
theorem CS.drewN (h : CS w B g v b s) (n : Nat) : CS (w.drewN n) B g v b s := CurAt.drewN h n
theorem CS.below (h : CS w B g v b s) (hb : Below w.heap.size w w') : CS w' B g v b s := CurAt.below h hb
/-- a box of another type beside the cursor -/
theorem box_cur {bx t : Nat} {cs : Array Value} (hb : w.heap[bx]? = some (.cells cs t (0, 0))) (h : CS w B g v b s) (hk : CKept w w' B g) (ht : t ≠ 56) : w'.heap[bx]? = some (.cells cs t (0, 0)) :=
  blk_kept hb hk.kept (blk_ne hb h.blk ht)
theorem CS.far {bx t : Nat} {cs : Array Value} (h : CS w B g v b s) (hb : w.heap[bx]? = some (.cells cs t (0, 0))) (ht : t ≠ 56) (ht2 : 5 ≠ t) (j : Nat) (u : Value) : CS (w.setCell ⟨bx, j, none⟩ u) B g v b s := by
  have h1 : g ≠ bx := (blk_ne hb h.blk ht).symm
  exact ⟨blk_far h.blk h1 u, own_setCell h.own (own_ne h.own hb ht2) u, h.ge, h.le, h.len⟩
theorem setRow_far {w : World} {g k : Nat} {cs : Array Value} (h : k ≠ g) : (w.setRow g cs).heap[k]? = w.heap[k]? := by
  simp only [World.setRow, Array.getElem?_modify]
  rw [if_neg (fun e => h e.symm)]
theorem CS.row {bx t : Nat} {cs cs' : Array Value} (h : CS w B g v b s) (hb : w.heap[bx]? = some (.cells cs t (0, 0))) (ht : t ≠ 56) (ht2 : 5 ≠ t) : CS (w.setRow bx cs') B g v b s := by
  have h1 : g ≠ bx := (blk_ne hb h.blk ht).symm
  refine ⟨(setRow_far h1).trans h.blk, own_move h.own (fun k hk => setRow_far (fun e => ?_)), h.ge, h.le, h.len⟩
  exact own_ne h.own hb ht2 (by rw [hk, e])
end
/-! sign -/
def sgE (b : List Int) (s : Sta) (want : Int) : Int := if (rA b s 4).2 ≠ 0 then (rA b s 4).2 else if rV b s 4 ≠ want then 13 else 0
set_option maxHeartbeats 4000000 in
theorem rec_sign (w : World) (B g : Nat) (v : Value) (b : List Int) (s : Sta) (want : Int) (h : CS w B g v b s) (hb : ∀ x ∈ b, 0 ≤ x ∧ x ≤ 255) :
    Calls Try.prog 52 #[.pointer (some ⟨g, 0, none⟩), .int .u32 want] w (SPost w B g v b (rA b s 4) (.int .i64 (sgE b s want))) := by
  have H := Aside0.mk h
  have HB := Aside0.mk hb
  unfold sgE
  obtain ⟨s', hs⟩ : ∃ s', rA b s 4 = s' := ⟨_, rfl⟩
  obtain ⟨z, hz⟩ : ∃ z, rV b s 4 = z := ⟨_, rfl⟩
  have HU : Aside0 (Calls Try.prog 55 #[.pointer (some ⟨g, 0, none⟩)] w (SPost w B g v b s' (.int .u32 z))) := ⟨hs ▸ hz ▸ cs_u32 h hb⟩
  rw [hs, hz]
  clear h hb hs hz
  obtain ⟨a', e'⟩ := s'
  show Calls Try.prog 52 #[.pointer (some ⟨g, 0, none⟩), .int .u32 want] w (SPost w B g v b (a', e') (.int .i64 (if e' ≠ 0 then e' else if z ≠ want then 13 else 0)))
  by_cases he : e' = 0
  · subst he
    rw [if_neg (fun h => h rfl)]
    by_cases hw : z = want
    · subst hw
      rw [if_neg (fun h => h rfl)]
      go_enter Try.func52, Try.ntmps52
      go_wp2_with (first
        | (go_at_call 55; (with_reducible refine HU.out.mono ?_); rintro r w9 ⟨rfl, hc, hk⟩; have HC := Aside0.mk hc; have HK := Aside0.mk hk; clear hc hk)
        | (go_at_call 37; refine (cs_err HC.out).mono ?_; rintro r w' ⟨rfl, hs_⟩; subst hs_))
      go_ret
      exact ⟨rfl, HC.out, HK.out⟩
    · rw [if_pos hw]
      have c1 : decide (z = want) = false := decide_eq_false hw
      have c2 : (z == want) = false := beq_eq_false_iff_ne.mpr hw
      have c3 : (z != want) = true := by simp [hw]
      clear hw
      go_enter Try.func52, Try.ntmps52
      go_wp2_with (first
        | (go_at_call 55; (with_reducible refine HU.out.mono ?_); rintro r w9 ⟨rfl, hc, hk⟩; have HC := Aside0.mk hc; have HK := Aside0.mk hk; clear hc hk)
        | (go_at_call 37; refine (cs_err HC.out).mono ?_; rintro r w' ⟨rfl, hs_⟩; subst hs_))
      go_ret
      exact ⟨rfl, HC.out, HK.out⟩
  · rw [if_pos he]
    have c1 : decide (e' = 0) = false := decide_eq_false he
    have c2 : (e' == 0) = false := beq_eq_false_iff_ne.mpr he
    have c3 : (e' != 0) = true := by simp [he]
    clear he
    go_enter Try.func52, Try.ntmps52
    go_wp2_with (first
      | (go_at_call 55; (with_reducible refine HU.out.mono ?_); rintro r w9 ⟨rfl, hc, hk⟩; have HC := Aside0.mk hc; have HK := Aside0.mk hk; clear hc hk)
      | (go_at_call 37; refine (cs_err HC.out).mono ?_; rintro r w' ⟨rfl, hs_⟩; subst hs_))
    go_ret
    exact ⟨rfl, HC.out, HK.out⟩
end Go.Proofs.Ytpmiofjhgmdghaa.Fld
