/- A cursor of package field: Open, number, U16, U32, Bytes, Left, At, End, walked. -/
import Derived.Test.YtpmiofjhgmdghaaFieldCur0
import Derived.Lib.EndianBits
namespace Go.Proofs.Ytpmiofjhgmdghaa.Fld
open Go.RowKit Go.Proofs.YtpmiofjhgmdghaaW.PrintWords Go.Proofs.YtpmiofjhgmdghaaW.PrintLast Go.Proofs.YtpmiofjhgmdghaaW.PrintMore
set_option linter.unusedVariables false
set_option linter.unusedSimpArgs false
theorem take_any (w : World) (base g : Nat) (v : Value) (b : List Int) (a : Nat) (e n : Int) (h : CurAt w base g v b a e) :
    Calls Try.prog 57 #[.pointer (some ⟨g, 0, none⟩), .int .i64 n] w (TPost w base g v b (tkL b a e n) (tkA b a e n) (tkE b a e n)) := by
  by_cases he : e = 0
  · subst he
    by_cases h1 : n < 0
    · have e1 : tkL b a 0 n = [] := if_neg (fun h => by omega)
      have e2 : tkA b a 0 n = a := if_neg (fun h => by omega)
      have e3 : tkE b a 0 n = 2 := by unfold tkE; rw [if_neg (by omega), if_pos h1]
      rw [e1, e2, e3]
      exact take_neg w base g v b a n h h1
    · by_cases h2 : ((b.length - a : Nat) : Int) < n
      · have e1 : tkL b a 0 n = [] := if_neg (fun h => by omega)
        have e2 : tkA b a 0 n = a := if_neg (fun h => by omega)
        have e3 : tkE b a 0 n = 3 := by unfold tkE; rw [if_neg (by omega), if_neg h1, if_pos h2]
        rw [e1, e2, e3]
        exact take_short w base g v b a n h (by omega) h2
      · obtain ⟨m, rfl⟩ : ∃ m : Nat, n = (m : Int) := ⟨n.toNat, by omega⟩
        have e1 : tkL b a 0 m = (b.drop a).take m := by unfold tkL; rw [if_pos ⟨rfl, by omega, by omega⟩, Int.toNat_natCast]
        have e2 : tkA b a 0 m = a + m := by unfold tkA; rw [if_pos ⟨rfl, by omega, by omega⟩, Int.toNat_natCast]
        have e3 : tkE b a 0 m = 0 := by unfold tkE; rw [if_neg (by omega), if_neg h1, if_neg h2]
        rw [e1, e2, e3]
        exact take_ok w base g v b a m h (by omega)
  · have e1 : tkL b a e n = [] := if_neg (fun h => he h.1)
    have e2 : tkA b a e n = a := if_neg (fun h => he h.1)
    have e3 : tkE b a e n = e := if_pos he
    rw [e1, e2, e3]
    exact take_bad w base g v b a e n h he
/-- the number of bytes, the lowest first -/
def num : List Int → Int
  | [] => 0
  | x :: xs => x + 256 * num xs
theorem num_snoc (l : List Int) (x : Int) : num (l ++ [x]) = num l + x * 256 ^ l.length := by
  induction l with
  | nil => simp [num]
  | cons y l ih =>
    show y + 256 * num (l ++ [x]) = y + 256 * num l + x * 256 ^ (l.length + 1)
    rw [ih, Int.pow_succ, Int.mul_add, ← Int.add_assoc]
    congr 1
    rw [Int.mul_left_comm, Int.mul_comm 256]
theorem num_bound (l : List Int) (h : ∀ x ∈ l, 0 ≤ x ∧ x ≤ 255) : 0 ≤ num l ∧ num l < 256 ^ l.length := by
  induction l with
  | nil => simp [num]
  | cons y l ih =>
    have h1 := ih (fun x hx => h x (List.mem_cons_of_mem _ hx))
    have h2 := h y List.mem_cons_self
    show 0 ≤ y + 256 * num l ∧ y + 256 * num l < 256 ^ (l.length + 1)
    rw [Int.pow_succ]
    omega
theorem tkL_bytes {b : List Int} {a : Nat} {e n : Int} (h : ∀ x ∈ b, 0 ≤ x ∧ x ≤ 255) : ∀ x ∈ tkL b a e n, 0 ≤ x ∧ x ≤ 255 := by
  unfold tkL
  split
  · exact fun x hx => h x (List.mem_of_mem_drop (List.mem_of_mem_take hx))
  · intro x hx; cases hx
theorem tkL_length {b : List Int} {a : Nat} {e n : Int} : (tkL b a e n).length ≤ n.toNat := by
  unfold tkL
  split
  · rw [List.length_take]; exact Nat.min_le_left _ _
  · exact Nat.zero_le _
theorem or_eq (z y : Int) (k s : Nat) (hs : s = 8 * k) (hk : k < 4) (hz : 0 ≤ z ∧ z < 256 ^ k) (hy : 0 ≤ y ∧ y ≤ 255) : bits .or .u32 z (y * 2 ^ min s 32 % 4294967296) = z + y * 256 ^ k := by
  subst hs
  rw [Nat.min_eq_left (by omega)]
  have hw : ∀ n : Int, 0 ≤ n → n < 2 ^ 32 → IntKind.u32.wrap n = n := fun n h0 h1 => IntWalk.u32_in _ ⟨h0, by omega⟩
  rcases (show k = 0 ∨ k = 1 ∨ k = 2 ∨ k = 3 by omega) with rfl | rfl | rfl | rfl
  · have e := bits_join_low .u32 32 (by decide) hw 0 z (y * 2 ^ (8 * 0) % 4294967296) hz.1 (by simpa using hz.2) (by omega) (by omega) (by omega) (by omega)
    rw [e]; omega
  · have e := bits_join_low .u32 32 (by decide) hw 8 z (y * 2 ^ (8 * 1) % 4294967296) hz.1 (by simpa using hz.2) (by omega) (by omega) (by omega) (by omega)
    rw [e]; omega
  · have e := bits_join_low .u32 32 (by decide) hw 16 z (y * 2 ^ (8 * 2) % 4294967296) hz.1 (by simpa using hz.2) (by omega) (by omega) (by omega) (by omega)
    rw [e]; omega
  · have e := bits_join_low .u32 32 (by decide) hw 24 z (y * 2 ^ (8 * 3) % 4294967296) hz.1 (by simpa using hz.2) (by omega) (by omega) (by omega) (by omega)
    rw [e]; omega
theorem num_take (R : List Int) (k : Nat) (h : k < R.length) : num (R.take (k + 1)) = num (R.take k) + rd R (k : Int) * 256 ^ k := by
  have e : rd R (k : Int) = R[k] := by unfold rd; rw [Int.toNat_natCast, List.getD_eq_getElem?_getD, List.getElem?_eq_getElem h]; rfl
  rw [← List.take_append_getElem h, num_snoc, List.length_take, Nat.min_eq_left (by omega), e]
def MRel (w : World) (base g : Nat) (v : Value) (b R : List Int) (a : Nat) (e : Int) (A : Option Addr) (c : Nat) (v5 v12 : Value) (wr : World) : Prop :=
  ∃ k : Nat, v12 = .int .i64 k ∧ v5 = .int .u32 (num (R.take k)) ∧ k ≤ R.length
def IPost (w : World) (base g : Nat) (v : Value) (b : List Int) (a : Nat) (e : Int) (u : Value) (r : Ending) (w' : World) : Prop :=
  r = .returned u ∧ CurAt w' base g v b a e ∧ CKept w w' base g
set_option maxHeartbeats 4000000 in
theorem cur_number (w : World) (base g : Nat) (v : Value) (b : List Int) (a : Nat) (e : Int) (n : Nat) (h : CurAt w base g v b a e) (hn : n ≤ 4) (hb : ∀ x ∈ b, 0 ≤ x ∧ x ≤ 255) :
    Calls Try.prog 65 #[.pointer (some ⟨g, 0, none⟩), .int .i64 n] w (IPost w base g v b (tkA b a e n) (tkE b a e n) (.int .u32 (num (tkL b a e n)))) := by
  have h0 := Aside0.mk h
  have hB := Aside0.mk (tkL_bytes (a := a) (e := e) (n := (n : Int)) hb)
  have hL := Aside0.mk (tkL_length (b := b) (a := a) (e := e) (n := (n : Int)))
  clear h hb
  generalize htl : tkL b a e n = R at *
  generalize hta : tkA b a e n = a1 at *
  generalize hte : tkE b a e n = e1 at *
  have ht : Aside0 (Calls Try.prog 57 #[.pointer (some ⟨g, 0, none⟩), .int .i64 n] w (TPost w base g v b R a1 e1)) := ⟨by have := take_any w base g v b a e n h0.out; rwa [htl, hta, hte] at this⟩
  clear htl hta hte
  go_enter Try.func65, Try.ntmps65
  go_wp2_with (go_at_call 57; refine ht.out.mono ?_; rintro e w1 ⟨A, c, rfl, hA, hC, hc, hcur, hkept⟩)
  have HC := Aside0.mk hC
  have HCUR := Aside0.mk hcur
  have HK := Aside0.mk hkept
  clear hC hcur hkept hA
  go_loop [5, 12] (fun v5 v12 => MRel w base g v b R a e A c v5 v12 w1) (fun _ v12 => R.length - (intOf v12).toNat)
  case atStart => exact ⟨0, rfl, rfl, Nat.zero_le _⟩
  case round =>
    obtain ⟨k, rfl, rfl, hk⟩ := hrel
    by_cases hlt : k < R.length
    · obtain ⟨ad, e, hx⟩ := Kd.at_int HC.out (k : Nat) (by omega) (by omega)
      subst e
      rw [Int.toNat_natCast] at hx
      have hk4 : k < 4 := by have := hL.out; omega
      obtain ⟨s, hs⟩ : ∃ s : Nat, s = 8 * k := ⟨_, rfl⟩
      have hw : IntKind.i64.wrap (8 * (k : Int)) = (s : Int) := by rw [i64_w, IntWalk.wrap64_in _ ⟨by omega, by omega⟩]; omega
      have hq : ((0 : Int) ≤ (s : Int)) = True := eq_true (by omega)
      have HS := Aside0.mk hs
      obtain ⟨y, hy⟩ : ∃ y : Int, rd R (k : Int) = y := ⟨_, rfl⟩
      obtain ⟨z, hz⟩ : ∃ z : Int, num (R.take k) = z := ⟨_, rfl⟩
      rw [hy] at hx
      rw [hz]
      have HY := Aside0.mk hy
      have HZ := Aside0.mk hz
      have yy : 0 ≤ y ∧ y ≤ 255 := by
        rw [← hy]
        exact hB.out _ (by unfold rd; rw [Int.toNat_natCast, List.getD_eq_getElem?_getD, List.getElem?_eq_getElem hlt]; exact List.getElem_mem hlt)
      have HYY := Aside0.mk yy
      have hw1 : IntKind.u32.wrap y = y := IntWalk.u32_in _ ⟨by omega, by omega⟩
      clear hs hy hz yy
      go_wp2
      have hz := num_bound (R.take k) (fun x hx => hB.out x (List.mem_of_mem_take hx))
      rw [List.length_take, Nat.min_eq_left (by omega), HZ.out] at hz
      refine ⟨⟨k + 1, by go_num, ?_, hlt⟩, by simp [intOf]; omega⟩
      rw [or_eq z y k s HS.out hk4 hz HYY.out, num_take R k hlt, HZ.out, HY.out]
    · go_wp2
      go_ret
      obtain rfl : k = R.length := by omega
      rw [List.take_length]
      exact ⟨rfl, HCUR.out, HK.out⟩
set_option maxHeartbeats 4000000 in
theorem cur_u16 (w : World) (base g : Nat) (v : Value) (b : List Int) (a : Nat) (e : Int) (h : CurAt w base g v b a e) (hb : ∀ x ∈ b, 0 ≤ x ∧ x ≤ 255) :
    Calls Try.prog 54 #[.pointer (some ⟨g, 0, none⟩)] w (IPost w base g v b (tkA b a e 2) (tkE b a e 2) (.int .i64 (num (tkL b a e 2)))) := by
  have hn := (cur_number w base g v b a e 2 h (by omega) hb)
  have hz := num_bound (tkL b a e 2) (tkL_bytes hb)
  have hl := tkL_length (b := b) (a := a) (e := e) (n := 2)
  generalize num (tkL b a e 2) = z at *
  have hw : IntKind.i64.wrap z = z := by
    rw [i64_w, IntWalk.wrap64_in _ ⟨by omega, ?_⟩]
    have h2 : (256 : Int) ^ (tkL b a e 2).length ≤ 65536 := by
      have hl2 : (tkL b a e 2).length ≤ 2 := hl
      rcases (show (tkL b a e 2).length = 0 ∨ (tkL b a e 2).length = 1 ∨ (tkL b a e 2).length = 2 by omega) with h | h | h <;> rw [h] <;> decide
    omega
  have HN := Aside0.mk hn
  clear hn hz hl h hb
  go_enter Try.func54, Try.ntmps54
  go_wp2_with (go_at_call 65; refine HN.out.mono ?_; rintro e w1 ⟨rfl, hcur, hkept⟩)
  go_ret
  exact ⟨rfl, hcur, hkept⟩
set_option maxHeartbeats 4000000 in
theorem cur_u32 (w : World) (base g : Nat) (v : Value) (b : List Int) (a : Nat) (e : Int) (h : CurAt w base g v b a e) (hb : ∀ x ∈ b, 0 ≤ x ∧ x ≤ 255) :
    Calls Try.prog 55 #[.pointer (some ⟨g, 0, none⟩)] w (IPost w base g v b (tkA b a e 4) (tkE b a e 4) (.int .u32 (num (tkL b a e 4)))) := by
  have HN := Aside0.mk (cur_number w base g v b a e 4 h (by omega) hb)
  clear h hb
  go_enter Try.func55, Try.ntmps55
  go_wp2_with (go_at_call 65; refine HN.out.mono ?_; rintro e w1 ⟨rfl, hcur, hkept⟩)
  go_ret
  exact ⟨rfl, hcur, hkept⟩
def BPost (w : World) (base g : Nat) (v : Value) (b R : List Int) (a' : Nat) (e' : Int) (r : Ending) (w' : World) : Prop :=
  ∃ v', r = .returned v' ∧ w'.ownsRow w.heap.size 5 1 v' R.length (nums .u8 R) ∧ CurAt w' base g v b a' e' ∧ CKept w w' base g
theorem CurAt.below {w w' : World} {base g : Nat} {v : Value} {b : List Int} {a : Nat} {e : Int} (h : CurAt w base g v b a e) (hb : Below w.heap.size w w') : CurAt w' base g v b a e :=
  ⟨blk_below h.blk hb, pw_own_below h.own hb, h.ge, h.le, h.len⟩
theorem CurAt.lt {w : World} {base g : Nat} {v : Value} {b : List Int} {a : Nat} {e : Int} (h : CurAt w base g v b a e) : g < w.heap.size := blk_lt h.blk
theorem CKept.below_ {w w1 w2 : World} {base g : Nat} (h : CKept w w1 base g) (hb : Below w1.heap.size w1 w2) (hg : base ≤ w1.heap.size) : CKept w w2 base g :=
  ⟨h.below.trans (hb.mono hg), h.kept.below hb⟩
set_option maxHeartbeats 4000000 in
theorem cur_bytes (w : World) (base g : Nat) (v : Value) (b : List Int) (a : Nat) (e n : Int) (h : CurAt w base g v b a e) :
    Calls Try.prog 31 #[.pointer (some ⟨g, 0, none⟩), .int .i64 n] w (BPost w base g v b (tkL b a e n) (tkA b a e n) (tkE b a e n)) := by
  have HN := Aside0.mk (take_any w base g v b a e n h)
  have hl : (tkL b a e n).length ≤ 1000000000 := by
    unfold tkL
    have := h.len
    split
    · rw [List.length_take, List.length_drop]; omega
    · exact Nat.zero_le _
  have HL := Aside0.mk hl
  clear h hl
  go_enter Try.func31, Try.ntmps31
  go_wp2_with (first
    | (go_at_call 57; refine HN.out.mono ?_; rintro e w1 ⟨A, c, rfl, hA, hC, hc, hcur, hkept⟩; have HA := Aside0.mk hA; have HC := Aside0.mk hC; have HCUR := Aside0.mk hcur; have HK := Aside0.mk hkept; clear hA hC hcur hkept)
    | (go_at_call 56; refine (clone_any _ _ _ _ HC.out HA.out HL.out).mono ?_; rintro e w2 ⟨v2, rfl, ho, hb⟩; have HO := Aside0.mk ho; have HB := Aside0.mk hb; clear ho hb))
  go_ret
  exact ⟨_, rfl, own_weaken HO.out HK.out.kept.1, HCUR.out.below HB.out, HK.out.below_ HB.out (Nat.le_of_lt (Nat.lt_of_le_of_lt HCUR.out.ge HCUR.out.lt))⟩
def leftN (b : List Int) (a : Nat) (e : Int) : Int := if e = 0 then ((b.length - a : Nat) : Int) else 0
def endN (b : List Int) (a : Nat) (e : Int) : Int := if e = 0 then (if a < b.length then 5 else 0) else e
set_option maxHeartbeats 4000000 in
theorem cur_left (w : World) (base g : Nat) (v : Value) (b : List Int) (a : Nat) (e : Int) (h : CurAt w base g v b a e) :
    Calls Try.prog 38 #[.pointer (some ⟨g, 0, none⟩)] w fun r w' => r = .returned (.int .i64 (leftN b a e)) ∧ ∃ n, w' = w.drewN n := by
  obtain ⟨A, c, rfl⟩ := own_slice h.own
  have h0 := Aside0.mk h
  have c0 : w.cell? ⟨g, 0, none⟩ = some (.slice A b.length c) := (blk_cell h.blk 0).trans rfl
  have ca : w.cell? ⟨g, 1, none⟩ = some (.int .i64 a) := (blk_cell h.blk 1).trans rfl
  have hle := h.le
  have hlen := h.len
  unfold leftN
  by_cases he : e = 0
  · subst he
    rw [if_pos rfl]
    obtain ⟨d, hd⟩ : ∃ d : Nat, b.length - a = d := ⟨_, rfl⟩
    have hw : IntKind.i64.wrap ((b.length : Int) - (a : Int)) = (d : Int) := by rw [i64_w, IntWalk.wrap64_in _ ⟨by omega, by omega⟩]; omega
    rw [hd]
    clear h hd hle hlen
    go_enter Try.func38, Try.ntmps38
    go_wp2_with (go_at_call 37; refine (cur_err _ base g _ b a 0 h0.out).mono ?_; rintro e w' ⟨rfl, hs⟩; subst hs)
    go_quiet (fail)
    go_wp2
    go_ret
    exact ⟨rfl, _, rfl⟩
  · rw [if_neg he]
    have c1 : decide (e = 0) = false := decide_eq_false he
    clear h hle hlen
    go_enter Try.func38, Try.ntmps38
    go_wp2_with (go_at_call 37; refine (cur_err _ base g _ b a e h0.out).mono ?_; rintro e w' ⟨rfl, hs⟩; subst hs)
    go_ret
    exact ⟨rfl, 0, rfl⟩
set_option maxHeartbeats 4000000 in
theorem cur_at (w : World) (base g : Nat) (v : Value) (b : List Int) (a : Nat) (e : Int) (h : CurAt w base g v b a e) :
    Calls Try.prog 36 #[.pointer (some ⟨g, 0, none⟩)] w fun r w' => r = .returned (.int .i64 a) ∧ w = w' := by
  have ca : w.cell? ⟨g, 1, none⟩ = some (.int .i64 a) := (blk_cell h.blk 1).trans rfl
  clear h
  go_enter Try.func36, Try.ntmps36
  go_wp2
  go_ret
  exact ⟨rfl, rfl⟩
def OPost (w : World) (b : List Int) (r : Ending) (w' : World) : Prop :=
  ∃ g v, r = .returned (.pointer (some ⟨g, 0, none⟩)) ∧ CurAt w' w.heap.size g v b 0 0 ∧ Below w.heap.size w w'
set_option maxHeartbeats 4000000 in
theorem cur_open (w : World) (A : Option Addr) (c : Nat) (b : List Int) (hb : Kd.C (Kd.int .u8) w A b.length b) (hc : A = none → c = 0) (hl : b.length ≤ 1000000000) :
    Calls Try.prog 30 #[.slice A b.length c] w (OPost w b) := by
  have HN := Aside0.mk (clone_any w A c b hb hc hl)
  have HL := Aside0.mk hl
  clear hb hc hl
  go_enter Try.func30, Try.ntmps30
  go_wp2_with (go_at_call 56; refine HN.out.mono ?_; rintro e w2 ⟨v2, rfl, ho, hb⟩; obtain ⟨A2, c2, rfl⟩ := own_slice ho; have HO := Aside0.mk ho; have HB := Aside0.mk hb; clear ho hb)
  go_ret
  exact ⟨_, _, rfl, ⟨heap_alloc_new _ _, HO.out.alloc _, HB.out.size, Nat.zero_le _, HL.out⟩, below_alloc HB.out _⟩
end Go.Proofs.Ytpmiofjhgmdghaa.Fld
