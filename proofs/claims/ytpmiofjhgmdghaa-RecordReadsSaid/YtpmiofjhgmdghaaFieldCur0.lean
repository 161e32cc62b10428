/- A cursor of package field: Err, take, walked. -/
import Derived.Test.YtpmiofjhgmdghaaFieldRow2
namespace Go.Proofs.Ytpmiofjhgmdghaa.Fld
open Go.RowKit Go.Proofs.YtpmiofjhgmdghaaW.PrintWords Go.Proofs.YtpmiofjhgmdghaaW.PrintLast Go.Proofs.YtpmiofjhgmdghaaW.PrintMore
set_option linter.unusedVariables false
set_option linter.unusedSimpArgs false
/-- A cursor in block g: its bytes b behind the slice v (a row of the call's own, from base on), how many were read, its error e. -/
structure CurAt (w : World) (base g : Nat) (v : Value) (b : List Int) (at_ : Nat) (e : Int) : Prop where
  blk : w.heap[g]? = some (.cells #[v, .int .i64 at_, .int .i64 e, .bool true] 56 (0, 0))
  own : w.ownsRow base 5 1 v b.length (nums .u8 b)
  ge : base ≤ g
  le : at_ ≤ b.length
  len : b.length ≤ 1000000000
theorem neC_types : 5 ≠ 56 := by decide
structure CKept (w w' : World) (base g : Nat) : Prop where
  below : Below base w w'
  kept : Kept w w' (fun k => k = g)
theorem CKept.refl (w : World) (base g : Nat) : CKept w w base g := ⟨Below.refl _ _, Kept.refl _ _⟩
theorem CKept.trans {w w1 w2 : World} {base g : Nat} (h : CKept w w1 base g) (k : CKept w1 w2 base g) : CKept w w2 base g :=
  ⟨h.below.trans k.below, h.kept.then_ k.kept (fun _ hk => .inl hk)⟩
theorem CKept.drewN (w : World) (base g n : Nat) : CKept w (w.drewN n) base g := ⟨pw_below_drewN (Below.refl _ _) n, (Kept.refl w _).drewN n⟩
theorem CurAt.drewN {w : World} {base g : Nat} {v : Value} {b : List Int} {a : Nat} {e : Int} (h : CurAt w base g v b a e) (n : Nat) : CurAt (w.drewN n) base g v b a e := ⟨h.blk, h.own, h.ge, h.le, h.len⟩
theorem CurAt.seterr {w : World} {base g : Nat} {v : Value} {b : List Int} {a : Nat} {e : Int} (h : CurAt w base g v b a e) (e1 : Int) : CurAt (w.setCell ⟨g, 2, none⟩ (.int .i64 e1)) base g v b a e1 :=
  ⟨blk_set h.blk 2 _, own_setCell h.own (own_ne h.own h.blk neC_types) _, h.ge, h.le, h.len⟩
theorem CurAt.setat {w : World} {base g : Nat} {v : Value} {b : List Int} {a : Nat} {e : Int} (h : CurAt w base g v b a e) (a1 : Nat) (h1 : a1 ≤ b.length) : CurAt (w.setCell ⟨g, 1, none⟩ (.int .i64 a1)) base g v b a1 e :=
  ⟨blk_set h.blk 1 _, own_setCell h.own (own_ne h.own h.blk neC_types) _, h.ge, h1, h.len⟩
theorem CKept.set {w : World} {base g : Nat} (hb : base ≤ g) (j : Nat) (u : Value) : CKept w (w.setCell ⟨g, j, none⟩ u) base g := ⟨(Below.refl _ _).setCell hb u, (Kept.refl w (fun k => k = g)).setCell (p := ⟨g, j, none⟩) (.inl rfl) u⟩
/-- what 'take' reads, how far the cursor is then, its error -/
def tkL (b : List Int) (a : Nat) (e n : Int) : List Int := if e = 0 ∧ 0 ≤ n ∧ n ≤ ((b.length - a : Nat) : Int) then (b.drop a).take n.toNat else []
def tkA (b : List Int) (a : Nat) (e n : Int) : Nat := if e = 0 ∧ 0 ≤ n ∧ n ≤ ((b.length - a : Nat) : Int) then a + n.toNat else a
def tkE (b : List Int) (a : Nat) (e n : Int) : Int := if e ≠ 0 then e else if n < 0 then 2 else if ((b.length - a : Nat) : Int) < n then 3 else 0
def TPost (w : World) (base g : Nat) (v : Value) (b R : List Int) (a' : Nat) (e' : Int) (r : Ending) (w' : World) : Prop :=
  ∃ A c, r = .returned (.slice A R.length c) ∧ (A = none → c = 0) ∧ Kd.C (Kd.int .u8) w' A R.length R ∧ R.length ≤ c ∧ CurAt w' base g v b a' e' ∧ CKept w w' base g
set_option maxHeartbeats 1000000 in
theorem cur_err (w : World) (base g : Nat) (v : Value) (b : List Int) (a : Nat) (e : Int) (h : CurAt w base g v b a e) :
    Calls Try.prog 37 #[.pointer (some ⟨g, 0, none⟩)] w fun r w' => r = .returned (.int .i64 e) ∧ w = w' := by
  have c2 : w.cell? ⟨g, 2, none⟩ = some (.int .i64 e) := (blk_cell h.blk 2).trans rfl
  have c3 : w.cell? ⟨g, 3, none⟩ = some (.bool true) := (blk_cell h.blk 3).trans rfl
  clear h
  go_enter Try.func37, Try.ntmps37
  go_wp2
  go_ret
  exact ⟨rfl, rfl⟩
theorem T_nil {w w' : World} {base g : Nat} {v : Value} {b : List Int} {a : Nat} {e : Int} (h : CurAt w' base g v b a e) (hk : CKept w w' base g) : TPost w base g v b [] a e (.returned (.slice none 0 0)) w' :=
  ⟨none, 0, rfl, fun _ => rfl, Kd.C_nil _ _, Nat.le_refl _, h, hk⟩
set_option maxHeartbeats 4000000 in
theorem take_bad (w : World) (base g : Nat) (v : Value) (b : List Int) (a : Nat) (e n : Int) (h : CurAt w base g v b a e) (he : e ≠ 0) :
    Calls Try.prog 57 #[.pointer (some ⟨g, 0, none⟩), .int .i64 n] w (TPost w base g v b [] a e) := by
  have h0 := Aside0.mk h
  have c1 : decide (e = 0) = false := decide_eq_false he
  clear h
  go_enter Try.func57, Try.ntmps57
  go_wp2_with (go_at_call 37; refine (cur_err _ base g v b a e h0.out).mono ?_; rintro e w' ⟨rfl, hs⟩; subst hs)
  go_ret
  exact T_nil h0.out (CKept.refl _ _ _)
set_option maxHeartbeats 4000000 in
theorem take_neg (w : World) (base g : Nat) (v : Value) (b : List Int) (a : Nat) (n : Int) (h : CurAt w base g v b a 0) (hn : n < 0) :
    Calls Try.prog 57 #[.pointer (some ⟨g, 0, none⟩), .int .i64 n] w (TPost w base g v b [] a 2) := by
  have h0 := Aside0.mk h
  have c1 : decide (n < 0) = true := decide_eq_true hn
  have cc : w.cell? ⟨g, 2, none⟩ = some (.int .i64 0) := (blk_cell h.blk 2).trans rfl
  have ff := blk_frozen h.blk 2
  clear h
  go_enter Try.func57, Try.ntmps57
  go_wp2_with (go_at_call 37; refine (cur_err _ base g v b a 0 h0.out).mono ?_; rintro e w' ⟨rfl, hs⟩; subst hs)
  go_ret
  exact T_nil (h0.out.seterr 2) (CKept.set h0.out.ge 2 _)
set_option maxHeartbeats 4000000 in
theorem take_short (w : World) (base g : Nat) (v : Value) (b : List Int) (a : Nat) (n : Int) (h : CurAt w base g v b a 0) (hn : 0 ≤ n) (hs : ((b.length - a : Nat) : Int) < n) :
    Calls Try.prog 57 #[.pointer (some ⟨g, 0, none⟩), .int .i64 n] w (TPost w base g v b [] a 3) := by
  obtain ⟨A, c, rfl⟩ := own_slice h.own
  have h0 := Aside0.mk h
  have hle := h.le
  have hlen := h.len
  have c1 : decide (n < 0) = false := decide_eq_false (by omega)
  obtain ⟨d, hd⟩ : ∃ d : Nat, b.length - a = d := ⟨_, rfl⟩
  rw [hd] at hs
  have hw : IntKind.i64.wrap ((b.length : Int) - (a : Int)) = (d : Int) := by rw [i64_w, IntWalk.wrap64_in _ ⟨by omega, by omega⟩]; omega
  have c2 : decide ((d : Int) < n) = true := decide_eq_true hs
  have c0 : w.cell? ⟨g, 0, none⟩ = some (.slice A b.length c) := (blk_cell h.blk 0).trans rfl
  have ca : w.cell? ⟨g, 1, none⟩ = some (.int .i64 a) := (blk_cell h.blk 1).trans rfl
  have ce : w.cell? ⟨g, 2, none⟩ = some (.int .i64 0) := (blk_cell h.blk 2).trans rfl
  have ff := blk_frozen h.blk 2
  clear h hd hle hlen
  go_enter Try.func57, Try.ntmps57
  go_wp2_with (go_at_call 37; refine (cur_err _ base g _ b a 0 h0.out).mono ?_; rintro e w' ⟨rfl, hs⟩; subst hs)
  go_quiet (fail)
  go_wp2
  go_ret
  exact T_nil ((h0.out.drewN _).seterr 3) ((CKept.drewN _ _ _ _).trans (CKept.set h0.out.ge 2 _))
theorem sliced3 (w : World) (A : Option Addr) (b : List Int) (a m c : Nat) (hb : Kd.C (Kd.int .u8) w A b.length b) (hn : A = none → c = 0) (hc : b.length ≤ c) (h : a + m ≤ b.length) :
    ∃ A' : Option Addr, (∀ W : World, (Instr.slice 22 (.slice A b.length c) (some (.int .i64 (a : Int))) (some (.int .i64 ((a + m : Nat) : Int))) (some (.int .i64 ((a + m : Nat) : Int)))).run Try.prog W = .ok (.slice A' m m) W) ∧
      Aside0 (A' = none → m = 0) ∧ Aside0 (∀ W : World, Kd.C (Kd.int .u8) W A b.length b → Kd.C (Kd.int .u8) W A' m ((b.drop a).take m)) := by
  refine ⟨if a + m = a then A else A.map (·.add a), fun W => ?_, ⟨?_⟩, ⟨fun W hb => ?_⟩⟩
  · obtain ⟨i0, hi, _, hs, _⟩ := info_parts infoE
    have hel : Try.prog.elem 22 = 5 := by kernel_rfl
    have hu : Try.prog.underlying 22 = some (.slice (Try.prog.elem 22)) := by rw [hel]; exact Try.underlying22
    have hsz : (sizeOf (Try.prog.elem 22)).run Try.prog W = .ok 1 W := by rw [hel]; simp [sizeOf, typeInfo, hi, hs]
    have h := run_slice_lhm (P := Try.prog) (t := 22) (w := W) (a := A) (len := b.length) (cap := c) hu .i64 .i64 .i64 (a : Int) ((a + m : Nat) : Int) ((a + m : Nat) : Int) (by omega) (by omega) (by omega) (by omega)
    rw [h, hsz]
    simp only [Result.andThen_ok, sliced, Int.toNat_natCast, Nat.mul_one, show a + m - a = m by omega]
  · intro hA
    by_cases e : a + m = a
    · omega
    · rw [if_neg e] at hA
      have := hn (Option.map_eq_none_iff.mp hA)
      omega
  · have hr := Kd.reads_of_C (d := (0 : Int)) hb
    by_cases e : a + m = a
    · obtain rfl : m = 0 := by omega
      rw [if_pos e]
      rw [show (b.drop a).take 0 = b.take 0 by simp]
      exact Kd.C_take hb (Nat.zero_le _)
    · rw [if_neg e]
      have h1 := ReadsOf.drop_ hr a (by omega) hc
      rw [if_neg (by omega)] at h1
      have h2 := ReadsOf.take_ h1 m (by omega)
      exact Kd.C_of_reads (h1 := fun _ => rfl) h2
set_option maxHeartbeats 4000000 in
theorem take_ok (w : World) (base g : Nat) (v : Value) (b : List Int) (a m : Nat) (h : CurAt w base g v b a 0) (hm : m ≤ b.length - a) :
    Calls Try.prog 57 #[.pointer (some ⟨g, 0, none⟩), .int .i64 m] w (TPost w base g v b ((b.drop a).take m) (a + m) 0) := by
  obtain ⟨A, c, rfl⟩ := own_slice h.own
  have h0 := Aside0.mk h
  have hle := h.le
  have hlen := h.len
  obtain ⟨_, hC, hc, hnn⟩ := own_C h.own
  obtain ⟨A', hsl, hA', hCC⟩ := sliced3 w A b a m c hC hnn hc (by omega)
  have c1 : decide ((m : Int) < 0) = false := decide_eq_false (by omega)
  obtain ⟨d, hd⟩ : ∃ d : Nat, b.length - a = d := ⟨_, rfl⟩
  rw [hd] at hm
  have hw : IntKind.i64.wrap ((b.length : Int) - (a : Int)) = (d : Int) := by rw [i64_w, IntWalk.wrap64_in _ ⟨by omega, by omega⟩]; omega
  obtain ⟨s, hs⟩ : ∃ s : Nat, a + m = s := ⟨_, rfl⟩
  rw [hs] at hsl
  have hw2 : IntKind.i64.wrap ((a : Int) + (m : Int)) = (s : Int) := by rw [i64_w, IntWalk.wrap64_in _ ⟨by omega, by omega⟩]; omega
  have hw3 : IntKind.i64.wrap ((s : Int) - (m : Int)) = (a : Int) := by rw [i64_w, IntWalk.wrap64_in _ ⟨by omega, by omega⟩]; omega
  have c2 : decide ((d : Int) < (m : Int)) = false := decide_eq_false (by omega)
  have c2' : decide (d < m) = false := decide_eq_false (by omega)
  have hsb : s ≤ b.length := by omega
  have c0 : w.cell? ⟨g, 0, none⟩ = some (.slice A b.length c) := (blk_cell h.blk 0).trans rfl
  have ca : w.cell? ⟨g, 1, none⟩ = some (.int .i64 a) := (blk_cell h.blk 1).trans rfl
  have fa := blk_frozen h.blk 1
  have H2 := Aside0.mk hs
  have H3 := Aside0.mk hsb
  have H4 := Aside0.mk hm
  have H5 := Aside0.mk hd
  clear h hd hle hlen hs hsb hm hC hc hnn
  go_enter Try.func57, Try.ntmps57
  go_wp2_with (go_at_call 37; refine (cur_err _ base g _ b a 0 h0.out).mono ?_; rintro e w' ⟨rfl, hs⟩; subst hs)
  go_quiet (fail)
  rename Nat => n1
  go_wp2
  go_quiet (fail)
  rename Nat => n2
  go_wp2
  go_ret
  have hcur := ((h0.out.drewN n1).setat s H3.out).drewN n2
  have hkept := ((CKept.drewN w base g n1).trans (CKept.set h0.out.ge 1 (.int .i64 (s : Int)))).trans (CKept.drewN _ base g n2)
  have e : ((b.drop a).take m).length = m := by rw [List.length_take, List.length_drop]; have := H4.out; have := H5.out; omega
  refine ⟨A', m, by rw [e]; rfl, hA'.out, by rw [e]; exact hCC.out _ (own_C hcur.own).2.1, Nat.le_of_eq e, ?_, hkept⟩
  rw [H2.out]; exact hcur
end Go.Proofs.Ytpmiofjhgmdghaa.Fld
