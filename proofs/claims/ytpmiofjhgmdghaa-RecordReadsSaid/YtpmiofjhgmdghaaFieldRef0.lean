/- The reference's cursor: Take, Left, End, walked. -/
import Derived.Test.YtpmiofjhgmdghaaFieldCur1
import Derived.Test.YtpmiofjhgmdghaaRCx1
namespace Go.Proofs.Ytpmiofjhgmdghaa.Fld
open Go.Proofs.Ytpmiofjhgmdghaa.RC
open Go.RowKit Go.Proofs.YtpmiofjhgmdghaaW.PrintWords Go.Proofs.YtpmiofjhgmdghaaW.PrintLast Go.Proofs.YtpmiofjhgmdghaaW.PrintMore
set_option linter.unusedVariables false
set_option linter.unusedSimpArgs false
/-- The reference's cursor in block g: bytes b that came in (w0), a place, an error. -/
structure RAt (w0 w : World) (g : Nat) (A : Option Addr) (c : Nat) (b : List Int) (a : Nat) (e : Int) : Prop where
  blk : w.heap[g]? = some (.cells #[.slice A b.length c, .int .i64 a, .int .i64 e] 67 (0, 0))
  ge : w0.heap.size ≤ g
  C : Kd.C (Kd.int .u8) w0 A b.length b
  cap : b.length ≤ c
  bel : Below w0.heap.size w0 w
  le : a ≤ b.length
  len : b.length ≤ 1000000000
theorem RAt.now {w0 w : World} {g : Nat} {A : Option Addr} {c : Nat} {b : List Int} {a : Nat} {e : Int} (h : RAt w0 w g A c b a e) : Kd.C (Kd.int .u8) w A b.length b := Kd.C_below h.C h.bel
theorem RAt.drewN {w0 w : World} {g : Nat} {A : Option Addr} {c : Nat} {b : List Int} {a : Nat} {e : Int} (h : RAt w0 w g A c b a e) (n : Nat) : RAt w0 (w.drewN n) g A c b a e := ⟨h.blk, h.ge, h.C, h.cap, pw_below_drewN h.bel n, h.le, h.len⟩
theorem RAt.seterr {w0 w : World} {g : Nat} {A : Option Addr} {c : Nat} {b : List Int} {a : Nat} {e : Int} (h : RAt w0 w g A c b a e) (e1 : Int) : RAt w0 (w.setCell ⟨g, 2, none⟩ (.int .i64 e1)) g A c b a e1 :=
  ⟨blk_set h.blk 2 _, h.ge, h.C, h.cap, h.bel.setCell h.ge _, h.le, h.len⟩
theorem RAt.setat {w0 w : World} {g : Nat} {A : Option Addr} {c : Nat} {b : List Int} {a : Nat} {e : Int} (h : RAt w0 w g A c b a e) (a1 : Nat) (h1 : a1 ≤ b.length) : RAt w0 (w.setCell ⟨g, 1, none⟩ (.int .i64 a1)) g A c b a1 e :=
  ⟨blk_set h.blk 1 _, h.ge, h.C, h.cap, h.bel.setCell h.ge _, h1, h.len⟩
theorem RAt.below {w0 w w' : World} {g : Nat} {A : Option Addr} {c : Nat} {b : List Int} {a : Nat} {e : Int} (h : RAt w0 w g A c b a e) (hb : Below w.heap.size w w') : RAt w0 w' g A c b a e :=
  ⟨blk_below h.blk hb, h.ge, h.C, h.cap, h.bel.trans (hb.mono h.bel.size), h.le, h.len⟩
/-- what a Take leaves: new bytes R, the cursor's state; all blocks but the cursor's are as they were -/
def RTPost (w0 w : World) (g : Nat) (A : Option Addr) (c : Nat) (b R : List Int) (a' : Nat) (e' : Int) (r : Ending) (w' : World) : Prop :=
  ∃ v, r = .returned v ∧ w'.ownsRow w.heap.size 5 1 v R.length (nums .u8 R) ∧ RAt w0 w' g A c b a' e' ∧ Kept w w' (fun k => k = g)
theorem RT_nil {w0 w w' : World} {g : Nat} {A : Option Addr} {c : Nat} {b : List Int} {a : Nat} {e : Int} (h : RAt w0 w' g A c b a e) (hk : Kept w w' (fun k => k = g)) : RTPost w0 w g A c b [] a e (.returned (.slice none 0 0)) w' :=
  ⟨_, rfl, own_nil _ _ _ _, h, hk⟩
set_option maxHeartbeats 4000000 in
theorem rtake_bad (w0 w : World) (g : Nat) (A : Option Addr) (c : Nat) (b : List Int) (a : Nat) (e n : Int) (h : RAt w0 w g A c b a e) (he : e ≠ 0) :
    Calls Try.prog 32 #[.pointer (some ⟨g, 0, none⟩), .int .i64 n] w (RTPost w0 w g A c b [] a e) := by
  have h0 := Aside0.mk h
  have c1 : (e != 0) = true := bne_iff_ne.mpr he
  have c2 : (e == 0) = false := beq_eq_false_iff_ne.mpr he
  have ce : w.cell? ⟨g, 2, none⟩ = some (.int .i64 e) := (blk_cell h.blk 2).trans rfl
  clear h he
  go_enter Try.func32, Try.ntmps32
  go_wp2
  go_ret
  exact RT_nil h0.out (Kept.refl _ _)
set_option maxHeartbeats 4000000 in
theorem rtake_neg (w0 w : World) (g : Nat) (A : Option Addr) (c : Nat) (b : List Int) (a : Nat) (n : Int) (h : RAt w0 w g A c b a 0) (hn : n < 0) :
    Calls Try.prog 32 #[.pointer (some ⟨g, 0, none⟩), .int .i64 n] w (RTPost w0 w g A c b [] a 2) := by
  have h0 := Aside0.mk h
  have c1 : decide (n < 0) = true := decide_eq_true hn
  have ce : w.cell? ⟨g, 2, none⟩ = some (.int .i64 0) := (blk_cell h.blk 2).trans rfl
  have ff := blk_frozen h.blk 2
  clear h hn
  go_enter Try.func32, Try.ntmps32
  go_wp2
  go_ret
  exact RT_nil (h0.out.seterr 2) ((Kept.refl w (fun k => k = g)).setCell (p := ⟨g, 2, none⟩) (.inl rfl) _)
set_option maxHeartbeats 4000000 in
theorem rtake_short (w0 w : World) (g : Nat) (A : Option Addr) (c : Nat) (b : List Int) (a : Nat) (n : Int) (h : RAt w0 w g A c b a 0) (hn : 0 ≤ n) (hs : ((b.length - a : Nat) : Int) < n) :
    Calls Try.prog 32 #[.pointer (some ⟨g, 0, none⟩), .int .i64 n] w (RTPost w0 w g A c b [] a 3) := by
  have h0 := Aside0.mk h
  have hle := h.le
  have hlen := h.len
  have c1 : decide (n < 0) = false := decide_eq_false (by omega)
  obtain ⟨d, hd⟩ : ∃ d : Nat, b.length - a = d := ⟨_, rfl⟩
  rw [hd] at hs
  have hw : IntKind.i64.wrap ((b.length : Int) - (a : Int)) = (d : Int) := by rw [i64_w, IntWalk.wrap64_in _ ⟨by omega, by omega⟩]; omega
  have c2 : decide ((d : Int) < n) = true := decide_eq_true hs
  have c0 : w.cell? ⟨g, 0, none⟩ = some (.slice A b.length c) := (blk_cell h.blk 0).trans rfl
  have ca : w.cell? ⟨g, 1, none⟩ = some (.int .i64 a) := (blk_cell h.blk 1).trans rfl
  have ce : w.cell? ⟨g, 2, none⟩ = some (.int .i64 0) := (blk_cell h.blk 2).trans rfl
  have ff := blk_frozen h.blk 2
  clear h hd hle hlen hn hs
  go_enter Try.func32, Try.ntmps32
  go_wp2
  go_quiet (fail)
  go_wp2
  go_ret
  exact RT_nil ((h0.out.drewN _).seterr 3) (((Kept.refl w (fun k => k = g)).drewN _).setCell (p := ⟨g, 2, none⟩) (.inl rfl) _)
theorem sliced2 (A : Option Addr) (b : List Int) (a m c : Nat) (hc : b.length ≤ c) (h : a + m ≤ b.length) :
    ∃ (A' : Option Addr) (c' : Nat), (∀ W : World, (Instr.slice 22 (.slice A b.length c) (some (.int .i64 (a : Int))) (some (.int .i64 ((a + m : Nat) : Int))) none).run Try.prog W = .ok (.slice A' m c') W) ∧
      Aside0 (m ≤ c') ∧ Aside0 (∀ W : World, Kd.C (Kd.int .u8) W A b.length b → Kd.C (Kd.int .u8) W A' m ((b.drop a).take m)) := by
  obtain ⟨i0, hi, _, hs, _⟩ := info_parts infoE
  have h1 := cut_mid (P := Try.prog) 22 5 .i64 .i64 Try.underlying22 hi 1 hs A b.length c (a : Int) ((a + m : Nat) : Int) (by omega) (by omega) (by omega) hc
  simp only [Int.toNat_natCast, Nat.mul_one, show a + m - a = m by omega] at h1
  refine ⟨_, _, h1, ⟨by omega⟩, ⟨fun W hb => ?_⟩⟩
  have h2 := Kd.C_mid (c := c) (lo := a) (hi := a + m) hb (by omega) h hc
  have e : (b.take (a + m)).drop a = (b.drop a).take m := by rw [List.drop_take, show a + m - a = m by omega]
  have e2 : ((b.drop a).take m).length = m := by rw [List.length_take, List.length_drop]; omega
  rw [e, e2] at h2
  have e3 : (Kd.int IntKind.u8).sz = 1 := rfl
  rw [e3, Nat.mul_one] at h2
  exact h2
set_option maxHeartbeats 4000000 in
theorem rtake_ok (w0 w : World) (g : Nat) (A : Option Addr) (c : Nat) (b : List Int) (a m : Nat) (h : RAt w0 w g A c b a 0) (hm : m ≤ b.length - a) :
    Calls Try.prog 32 #[.pointer (some ⟨g, 0, none⟩), .int .i64 m] w (RTPost w0 w g A c b ((b.drop a).take m) (a + m) 0) := by
  have h0 := Aside0.mk h
  have hle := h.le
  have hlen := h.len
  obtain ⟨A', c', hsl, hA', hCC⟩ := sliced2 A b a m c h.cap (by omega)
  have c1 : decide ((m : Int) < 0) = false := decide_eq_false (by omega)
  obtain ⟨d, hd⟩ : ∃ d : Nat, b.length - a = d := ⟨_, rfl⟩
  have hm' : m ≤ b.length - a := hm
  rw [hd] at hm
  have hw : IntKind.i64.wrap ((b.length : Int) - (a : Int)) = (d : Int) := by rw [i64_w, IntWalk.wrap64_in _ ⟨by omega, by omega⟩]; omega
  obtain ⟨s, hs⟩ : ∃ s : Nat, a + m = s := ⟨_, rfl⟩
  rw [hs] at hsl
  have hw2 : IntKind.i64.wrap ((a : Int) + (m : Int)) = (s : Int) := by rw [i64_w, IntWalk.wrap64_in _ ⟨by omega, by omega⟩]; omega
  have hw3 : IntKind.i64.wrap ((s : Int) - (m : Int)) = (a : Int) := by rw [i64_w, IntWalk.wrap64_in _ ⟨by omega, by omega⟩]; omega
  have c2 : decide ((d : Int) < (m : Int)) = false := decide_eq_false (by omega)
  have c2' : decide (d < m) = false := decide_eq_false (by omega)
  have hsb : s ≤ b.length := by omega
  have c0 : w.cell? ⟨g, 0, none⟩ = some (.slice A b.length c) := (blk_cell h.blk 0).trans rfl
  have ca : w.cell? ⟨g, 1, none⟩ = some (.int .i64 a) := (blk_cell h.blk 1).trans rfl
  have ce : w.cell? ⟨g, 2, none⟩ = some (.int .i64 0) := (blk_cell h.blk 2).trans rfl
  have fa := blk_frozen h.blk 1
  obtain ⟨R, hR⟩ : ∃ R, (b.drop a).take m = R := ⟨_, rfl⟩
  have hRl : R.length = m := by rw [← hR, List.length_take, List.length_drop]; omega
  rw [hR] at hCC ⊢
  subst hRl
  have H2 := Aside0.mk hs
  have H3 := Aside0.mk hsb
  have HM : Aside0 (duffelref01_Copy.f R = some R) := ⟨if_pos (by simp; omega)⟩
  clear h hd hle hlen hs hsb hm hm' hR
  go_enter Try.func32, Try.ntmps32
  go_wp2
  go_quiet (fail)
  rename Nat => n1
  go_wp2
  have HW : Aside0 (RAt w0 ((w.drewN n1).setCell ⟨g, 1, none⟩ (.int .i64 (s : Int))) g A c b s 0) := ⟨(h0.out.drewN n1).setat s H3.out⟩
  have HK : Aside0 (Kept w ((w.drewN n1).setCell ⟨g, 1, none⟩ (.int .i64 (s : Int))) (fun k => k = g)) := ⟨((Kept.refl w (fun k => k = g)).drewN n1).setCell (p := ⟨g, 1, none⟩) (.inl rfl) _⟩
  go_region_law (go_simp; go_at_call 15; refine (duffelref01_Copy.calls A' c' R R _ (hCC.out _ (Kd.C_drew HW.out.now)) hA'.out HM.out).mono ?_; rintro e w1 ⟨v, rfl, hR, hb⟩; have HO := Aside0.mk (Kd.own_of_R hR); have HB := Aside0.mk hb; clear hR hb)
  all_goals
    go_wp2
    go_ret
    refine ⟨v, rfl, own_weaken HO.out HK.out.1, ?_, ?_⟩
    · have e : a + R.length = s := H2.out
      rw [e]
      have hd : RAt w0 ((w.drewN n1).setCell ⟨g, 1, none⟩ (.int .i64 (s : Int))).drew g A c b s 0 := ⟨HW.out.blk, HW.out.ge, HW.out.C, HW.out.cap, HW.out.bel.drew, HW.out.le, HW.out.len⟩
      exact hd.below HB.out
    · have hd : Kept w ((w.drewN n1).setCell ⟨g, 1, none⟩ (.int .i64 (s : Int))).drew (fun k => k = g) := HK.out
      exact hd.below HB.out
theorem rtake_any (w0 w : World) (g : Nat) (A : Option Addr) (c : Nat) (b : List Int) (a : Nat) (e n : Int) (h : RAt w0 w g A c b a e) :
    Calls Try.prog 32 #[.pointer (some ⟨g, 0, none⟩), .int .i64 n] w (RTPost w0 w g A c b (tkL b a e n) (tkA b a e n) (tkE b a e n)) := by
  by_cases he : e = 0
  · subst he
    by_cases h1 : n < 0
    · have e1 : tkL b a 0 n = [] := if_neg (fun h => by omega)
      have e2 : tkA b a 0 n = a := if_neg (fun h => by omega)
      have e3 : tkE b a 0 n = 2 := by unfold tkE; rw [if_neg (by omega), if_pos h1]
      rw [e1, e2, e3]
      exact rtake_neg w0 w g A c b a n h h1
    · by_cases h2 : ((b.length - a : Nat) : Int) < n
      · have e1 : tkL b a 0 n = [] := if_neg (fun h => by omega)
        have e2 : tkA b a 0 n = a := if_neg (fun h => by omega)
        have e3 : tkE b a 0 n = 3 := by unfold tkE; rw [if_neg (by omega), if_neg h1, if_pos h2]
        rw [e1, e2, e3]
        exact rtake_short w0 w g A c b a n h (by omega) h2
      · obtain ⟨m, rfl⟩ : ∃ m : Nat, n = (m : Int) := ⟨n.toNat, by omega⟩
        have e1 : tkL b a 0 m = (b.drop a).take m := by unfold tkL; rw [if_pos ⟨rfl, by omega, by omega⟩, Int.toNat_natCast]
        have e2 : tkA b a 0 m = a + m := by unfold tkA; rw [if_pos ⟨rfl, by omega, by omega⟩, Int.toNat_natCast]
        have e3 : tkE b a 0 m = 0 := by unfold tkE; rw [if_neg (by omega), if_neg h1, if_neg h2]
        rw [e1, e2, e3]
        exact rtake_ok w0 w g A c b a m h (by omega)
  · have e1 : tkL b a e n = [] := if_neg (fun h => he h.1)
    have e2 : tkA b a e n = a := if_neg (fun h => he h.1)
    have e3 : tkE b a e n = e := if_pos he
    rw [e1, e2, e3]
    exact rtake_bad w0 w g A c b a e n h he
end Go.Proofs.Ytpmiofjhgmdghaa.Fld
