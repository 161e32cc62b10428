/- bytes.IndexByte, bytes.IndexAny of "\r\n" at short ASCII bytes, walked. -/
import Derived.Test.YtlliomkjnhbbbaaDoorMyCut
import Derived.Test.YtlliomkjnhbbbaaDoorShelf
import Derived.Laws.Externs
import Derived.Lib.BytesEntry
import Derived.Lib.IndexLaws
import Derived.Deep.LoopGhost
namespace Go.Proofs.YtlliomkjnhbbbaaDoor.Tx
open Go.RowKit Go.Proofs.YtlliomkjnhbbbaaDoorW.PrintWords Go.Proofs.YtlliomkjnhbbbaaDoorW.PrintLast Go.Proofs.YtlliomkjnhbbbaaDoorW.PrintMore
set_option linter.unusedVariables false
set_option linter.unusedSimpArgs false
/-- the first place where p holds, or -1 -/
def idxP (p : Int → Bool) : List Int → Int
  | [] => -1
  | x :: l => if p x then 0 else if idxP p l = -1 then -1 else idxP p l + 1
theorem idxP_ge (p : Int → Bool) : ∀ l, -1 ≤ idxP p l
  | [] => by unfold idxP; decide
  | x :: l => by
    have := idxP_ge p l
    unfold idxP
    split
    · omega
    · split <;> omega
theorem idxP_none (p : Int → Bool) : ∀ l, (∀ j, j < l.length → p (l.getD j 0) = false) → idxP p l = -1
  | [], _ => rfl
  | x :: l, h => by
    have h0 : p x = false := h 0 (by simp)
    unfold idxP
    rw [idxP_none p l (fun j hj => h (j + 1) (by simpa using hj)), if_neg (by simp [h0]), if_pos rfl]
theorem idxP_at (p : Int → Bool) : ∀ (l : List Int) (i : Nat), i < l.length → (∀ j, j < i → p (l.getD j 0) = false) → p (l.getD i 0) = true → idxP p l = i
  | [], i, h, _, _ => by simp at h
  | x :: l, 0, _, _, h => by
    have h0 : p x = true := h
    unfold idxP
    rw [if_pos h0]; rfl
  | x :: l, i + 1, hi, hn, h => by
    have h0 : p x = false := hn 0 (by omega)
    have ih := idxP_at p l i (by simpa using hi) (fun j hj => hn (j + 1) (by omega)) h
    unfold idxP
    rw [ih, if_neg (by simp [h0]), if_neg (by omega)]; omega
theorem indexByte_eq (c : Int) (c0 : 0 ≤ c) (c1 : c ≤ 255) : ∀ l : List Int, (∀ x ∈ l, 0 ≤ x ∧ x ≤ 255) → Lib.indexByte (Lib.bytesOf l) c.toNat.toUInt8 = idxP (fun x => decide (x = c)) l
  | [], _ => rfl
  | x :: l, h => by
    have hx := h x (by simp)
    have ih := indexByte_eq c c0 c1 l (fun y hy => h y (by simp [hy]))
    have e : (UInt8.ofNat x.toNat == c.toNat.toUInt8) = decide (x = c) := by
      rw [Bool.eq_iff_iff]
      simp only [beq_iff_eq, decide_eq_true_eq]
      constructor
      · intro hh
        have := congrArg UInt8.toNat hh
        simp at this
        omega
      · rintro rfl; rfl
    show (if (UInt8.ofNat x.toNat == c.toNat.toUInt8) = true then (0 : Int) else if (Lib.indexByte (Lib.bytesOf l) c.toNat.toUInt8 == -1) = true then -1 else Lib.indexByte (Lib.bytesOf l) c.toNat.toUInt8 + 1) = _
    rw [e, ih]
    simp only [beq_iff_eq, idxP]
theorem reads (A : Option Addr) (l : List Int) (w : World) (h : Kd.C (Kd.int .u8) w A l.length l) (hp : 0 < l.length) : ∃ ad, A = some ad ∧ ∀ j, j < l.length → w.cell? (ad.add j) = some (.int .u8 (l.getD j 0)) :=
  (Kd.reads_of_C (d := (0 : Int)) h).2.2 hp
theorem index_nil (n c : Nat) (cv : Int) (w : World) : Calls Tryd.prog 30 #[.slice none n c, .int .u8 cv] w fun e w' => e = .returned (.int .i64 (-1)) ∧ w' = w := by
  go_enter Tryd.func30, Tryd.ntmps30
  go_wp2
  rw [run_callFunc_extern Tryd.func36 (by kernel_rfl) (by kernel_rfl) (by kernel_rfl) (e := Extern.BytealgIndexByte.indexByte) (by kernel_rfl), Lib.run_indexByteNil w n c cv]
  simp only [Result.andThen]
  rw [Oper.upon_value]
  go_wp2
  go_ret
  exact ⟨rfl, rfl⟩
theorem index_any (A : Option Addr) (c : Nat) (l : List Int) (cv : Int) (w : World) (h : Kd.C (Kd.int .u8) w A l.length l) (hr : ∀ x ∈ l, 0 ≤ x ∧ x ≤ 255) (c0 : 0 ≤ cv) (c1 : cv ≤ 255) :
    Calls Tryd.prog 30 #[.slice A l.length c, .int .u8 cv] w fun e w' => e = .returned (.int .i64 (idxP (fun x => decide (x = cv)) l)) ∧ Below w.heap.size w w' := by
  rcases Nat.eq_zero_or_pos l.length with h0 | hp
  · have e : l = [] := List.eq_nil_of_length_eq_zero h0
    subst e
    cases A with
    | none =>
      refine (index_nil 0 c cv w).mono ?_
      rintro e w' ⟨rfl, rfl⟩; exact ⟨rfl, Below.refl _ _⟩
    | some ad =>
      refine (Tryd.bytes_IndexByte_at ad 0 c [] cv w rfl (fun i hi => by omega)).mono ?_
      rintro e w' ⟨rfl, rfl⟩; exact ⟨rfl, Below.refl _ _⟩
  · obtain ⟨ad, rfl, hc⟩ := reads A l w h hp
    refine (Tryd.bytes_IndexByte_at ad l.length c l cv w rfl hc).mono ?_
    rintro e w' ⟨rfl, rfl⟩
    rw [indexByte_eq cv c0 c1 l hr]
    exact ⟨rfl, Below.refl _ _⟩
/-- an end of a line -/
def isEnd (x : Int) : Bool := decide (x = 13 ∨ x = 10)
theorem ends_index (x : Int) (h0 : 0 ≤ x) (h1 : x ≤ 255) : Lib.indexByte [13, 10] x.toNat.toUInt8 = if x = 13 then 0 else if x = 10 then 1 else -1 := by
  obtain ⟨n, rfl⟩ := Int.eq_ofNat_of_zero_le h0
  have : ∀ n : Fin 256, Lib.indexByte [13, 10] (n.val : Int).toNat.toUInt8 = if (n.val : Int) = 13 then 0 else if (n.val : Int) = 10 then 1 else -1 := by decide +kernel
  exact this ⟨n, by omega⟩
theorem index_str (x : Int) (h0 : 0 ≤ x) (h1 : x ≤ 255) (w : World) : (callFunc 37 #[.string ⟨#[13, 10]⟩, .int .u8 x]).run Tryd.prog w = .ok (.value (.int .i64 (if x = 13 then 0 else if x = 10 then 1 else -1))) w := by
  rw [run_callFunc_extern Tryd.func37 (by kernel_rfl) (by kernel_rfl) (by kernel_rfl) (e := Extern.BytealgIndexByte.indexByte) (by kernel_rfl), Lib.run_indexByteString]
  show _ = _
  rw [← ends_index x h0 h1]
  rfl
theorem should_any (n : Int) (w : World) : Calls Tryd.prog 39 #[.int .i64 n] w fun e w' => e = .returned (.bool (decide (n > 8))) ∧ w = w' := by
  go_enter Tryd.func39, Tryd.ntmps39
  go_wp2
  go_ret
  exact ⟨rfl, rfl⟩
set_option maxHeartbeats 8000000 in
set_option maxRecDepth 100000 in
/-- bytes.IndexAny(b, "\r\n") of at most 8 bytes, all below 128 -/
theorem any_short (A : Option Addr) (c : Nat) (l : List Int) (w : World) (h : Kd.C (Kd.int .u8) w A l.length l) (hr : ∀ x ∈ l, 0 ≤ x ∧ x < 128) (hl : l.length ≤ 8) (hl1 : l.length ≠ 1) :
    Calls Tryd.prog 31 #[.slice A l.length c, .string ⟨#[13, 10]⟩] w fun e w' => e = .returned (.int .i64 (idxP isEnd l)) ∧ Below w.heap.size w w' := by
  have HC := Aside0.mk (reads A l w h)
  have HR := Aside0.mk hr
  have HL := Aside0.mk hl
  have n1 : ((l.length : Int) == 1) = false := beq_eq_false_iff_ne.2 (by omega)
  have n8 : decide ((l.length : Int) > 8) = false := decide_eq_false (by omega)
  clear h hr hl hl1
  have hix := fun (x : Int) (h0 : 0 ≤ x) (h1 : x ≤ 255) => index_str x h0 h1
  have HIX := Aside0.mk hix
  clear hix
  go_enter Tryd.func31, Tryd.ntmps31
  go_wp2_with (go_at_call 39; refine (should_any l.length _).mono ?_; rintro e w1 ⟨rfl, rfl⟩; rw [n8])
  go_loopg [12] l.length (fun g v w' => ∃ i : Nat, i + g = l.length ∧ v = .int .i64 (i : Int) ∧ w' = w ∧ ∀ j, j < i → isEnd (l.getD j 0) = false)
  case atStart => exact ⟨0, by omega, rfl, rfl, fun j hj => by omega⟩
  case round =>
    obtain ⟨i, hig, rfl, rfl, hno⟩ := hrel
    have HN := Aside0.mk hno
    clear hno
    cases gk with
    | zero =>
      obtain rfl : i = l.length := by omega
      have c1 : decide ((l.length : Int) < (l.length : Int)) = false := decide_eq_false (by omega)
      go_wp2
      go_ret
      exact ⟨by rw [idxP_none isEnd l HN.out]; rfl, Below.refl _ _⟩
    | succ g =>
      have hi : i < l.length := by omega
      have HI := Aside0.mk hi
      have c1 : decide ((i : Int) < (l.length : Int)) = true := decide_eq_true (by omega)
      obtain ⟨ad, rfl, hcs⟩ := HC.out (by omega)
      have hcell := hcs i hi
      have q1 : (i : Int) < (l.length : Int) := by omega
      have hmem : l.getD i 0 ∈ l := by rw [List.getD_eq_getElem?_getD, List.getElem?_eq_getElem hi]; exact List.getElem_mem hi
      have hb := HR.out _ hmem
      obtain ⟨x, hx⟩ : ∃ x : Int, l.getD i 0 = x := ⟨_, rfl⟩
      have HX := Aside0.mk hx
      rw [hx] at hcell hb
      clear hcs hmem hx
      have c2 : decide (x < 128) = true := decide_eq_true hb.2
      have cw : IntKind.i32.wrap x = x := by rw [show IntKind.i32.wrap x = IntKind.i32.wrap x from rfl]; simp [IntKind.wrap, IntKind.bits, IntKind.signed]; omega
      have hstr := HIX.out x hb.1 (by omega)
      clear hi
      obtain ⟨y, hy⟩ : ∃ y : Int, (if x = 13 then (0 : Int) else if x = 10 then 1 else -1) = y := ⟨_, rfl⟩
      rw [hy] at hstr
      by_cases e13 : x = 13 ∨ x = 10
      · have c3 : decide (y ≥ 0) = true := by
          rw [← hy]
          rcases e13 with rfl | rfl <;> decide
        have E13 := Aside0.mk e13
        clear e13 hy
        go_wp2
        go_ret
        exact ⟨by rw [idxP_at isEnd l i HI.out HN.out (by rw [HX.out]; exact decide_eq_true E13.out)]; rfl, Below.refl _ _⟩
      · have c3 : decide (y ≥ 0) = false := by
          rw [← hy, if_neg (fun h => e13 (.inl h)), if_neg (fun h => e13 (.inr h))]; decide
        have E13 := Aside0.mk e13
        have hwi : IntKind.i64.wrap ((i : Int) + 1) = ((i + 1 : Nat) : Int) := by rw [IntKind.wrap_i64]; have := HL.out; omega
        clear e13 hy
        go_wp2
        go_roundg g
        case measure => omega
        case rel => exact ⟨i + 1, by omega, by first | rfl | (simp; done) | (simp [*]; done), rfl, fun j hj => by
          rcases Nat.lt_or_eq_of_le (Nat.le_of_lt_succ hj) with h | rfl
          · exact HN.out j h
          · rw [HX.out]; exact decide_eq_false E13.out⟩
set_option maxHeartbeats 8000000 in
set_option maxRecDepth 100000 in
/-- bytes.IndexAny(b, "\r\n") of one byte below 128 -/
theorem any_one (A : Option Addr) (c : Nat) (x : Int) (w : World) (h : Kd.C (Kd.int .u8) w A 1 [x]) (h0 : 0 ≤ x) (h1 : x < 128) :
    Calls Tryd.prog 31 #[.slice A 1 c, .string ⟨#[13, 10]⟩] w fun e w' => e = .returned (.int .i64 (idxP isEnd [x])) ∧ Below w.heap.size w w' := by
  obtain ⟨ad, rfl, hcs⟩ := reads A [x] w h (by simp)
  have hcell : w.cell? ad = some (.int .u8 x) := by
    have q := hcs 0 (by simp)
    first | (simpa using q) | (simp [Addr.add] at q; simpa using q) | (simpa [Addr.add] using q)
  have cw : IntKind.i32.wrap x = x := by simp [IntKind.wrap, IntKind.bits, IntKind.signed]; omega
  have c2 : decide (x ≥ 128) = false := decide_eq_false (by omega)
  have hstr := fun w => index_str x h0 (by omega) w
  obtain ⟨y, hy⟩ : ∃ y : Int, (if x = 13 then (0 : Int) else if x = 10 then 1 else -1) = y := ⟨_, rfl⟩
  rw [hy] at hstr
  have B0 := Aside0.mk h0
  have B1 := Aside0.mk h1
  clear hcs h h0 h1
  by_cases e13 : x = 13 ∨ x = 10
  · have c3 : decide (y ≥ 0) = true := by
      rw [← hy]
      rcases e13 with rfl | rfl <;> decide
    have E13 : Aside0 (idxP isEnd [x] = 0) := ⟨if_pos (decide_eq_true e13)⟩
    clear e13 hy
    go_enter Tryd.func31, Tryd.ntmps31
    go_wp2
    go_ret
    exact ⟨by rw [E13.out]; rfl, Below.refl _ _⟩
  · have c3 : decide (y ≥ 0) = false := by
      rw [← hy, if_neg (fun h => e13 (.inl h)), if_neg (fun h => e13 (.inr h))]; decide
    have E13 : Aside0 (idxP isEnd [x] = -1) := ⟨idxP_none isEnd [x] (fun j hj => by
      obtain rfl : j = 0 := by simp at hj; omega
      exact decide_eq_false e13)⟩
    clear e13 hy
    go_enter Tryd.func31, Tryd.ntmps31
    go_wp2
    go_ret
    exact ⟨by rw [E13.out]; rfl, Below.refl _ _⟩
/-- few bytes below 128 -/
def plainB (l : List Int) : Bool := decide (l.length ≤ 8) && l.all (fun x => decide (0 ≤ x ∧ x < 128))
theorem any_plain (A : Option Addr) (c : Nat) (l : List Int) (w : World) (h : Kd.C (Kd.int .u8) w A l.length l) (hp : plainB l = true) :
    Calls Tryd.prog 31 #[.slice A l.length c, .string ⟨#[13, 10]⟩] w fun e w' => e = .returned (.int .i64 (idxP isEnd l)) ∧ Below w.heap.size w w' := by
  simp only [plainB, Bool.and_eq_true, decide_eq_true_eq, List.all_eq_true] at hp
  by_cases h1 : l.length = 1
  · obtain ⟨x, rfl⟩ : ∃ x, l = [x] := List.length_eq_one_iff.1 h1
    have := hp.2 x (by simp)
    exact any_one A c x w h this.1 this.2
  · exact any_short A c l w h (fun x hx => hp.2 x hx) hp.1 h1
end Go.Proofs.YtlliomkjnhbbbaaDoor.Tx
