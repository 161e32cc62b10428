/- What page.Text makes and page.Bytes reads, in plain Lean: characters there and back. -/
import Derived.Test.YtknacjoclpagaaaDoorPageByte0
import Derived.Test.YtknacjoclpagaaaDoorPageBuild0
import Derived.Lib.MapLaws
import Derived.Lib.ValidLaws
import Derived.Lib.SpaceUEq
namespace Go.Proofs.YtknacjoclpagaaaDoor.Pg
open Go.Lib
set_option linter.unusedVariables false
set_option linter.unusedSimpArgs false
def decF : Nat → List UInt8 → Option (List Int)
  | 0, _ => some []
  | n + 1, l => if l = [] then some [] else if byteOk (decodeL l).1 = true then (decF n (l.drop (decodeL l).2)).map (byteZ (decodeL l).1 :: ·) else none
def dec (l : List UInt8) : Option (List Int) := decF l.length l
theorem decF_fuel : ∀ (n m : Nat) (l : List UInt8), l.length ≤ n → l.length ≤ m → decF n l = decF m l
  | 0, 0, l, _, _ => rfl
  | 0, m + 1, l, h, _ => by
    have e : l = [] := List.eq_nil_of_length_eq_zero (by omega)
    unfold decF; rw [if_pos e]
  | n + 1, 0, l, _, h => by
    have e : l = [] := List.eq_nil_of_length_eq_zero (by omega)
    unfold decF; rw [if_pos e]
  | n + 1, m + 1, l, h1, h2 => by
    unfold decF
    by_cases e : l = []
    · rw [if_pos e, if_pos e]
    · have hw := decodeL_width l
      have hl : 0 < l.length := List.length_pos_iff.2 e
      rw [if_neg e, if_neg e, decF_fuel n m _ (by rw [List.length_drop]; omega) (by rw [List.length_drop]; omega)]
theorem dec_nil : dec [] = some [] := rfl
theorem dec_step (l : List UInt8) (hne : l ≠ []) : dec l = if byteOk (decodeL l).1 = true then (dec (l.drop (decodeL l).2)).map (byteZ (decodeL l).1 :: ·) else none := by
  have hl : 0 < l.length := List.length_pos_iff.2 hne
  have hw := decodeL_width l
  obtain ⟨n, hn⟩ : ∃ n, l.length = n + 1 := ⟨l.length - 1, by omega⟩
  unfold dec
  rw [hn]
  conv => lhs; unfold decF
  rw [if_neg hne, decF_fuel n (l.drop (decodeL l).2).length _ (by rw [List.length_drop]; omega) (Nat.le_refl _)]
theorem bad_rune : byteOk 65533 = false := by decide +kernel
theorem dec_bad : ∀ (n : Nat) (l : List UInt8), l.length ≤ n → validD l = false → dec l = none
  | 0, l, h, hv => by
    have e : l = [] := List.eq_nil_of_length_eq_zero (by omega)
    rw [e] at hv; exact absurd hv (by decide)
  | n + 1, l, h, hv => by
    by_cases e : l = []
    · rw [e] at hv; exact absurd hv (by decide)
    · rw [validD_step l e] at hv
      rw [dec_step l e]
      have hw := decodeL_width l
      by_cases c : (decodeL l).1 = 65533 ∧ (decodeL l).2 = 1
      · rw [c.1, if_neg (by rw [show ((65533 : Nat) : Int) = 65533 from rfl, bad_rune]; decide)]
      · rw [if_neg c] at hv
        rw [dec_bad n _ (by rw [List.length_drop]; omega) hv]
        split <;> rfl
theorem char_lo : ∀ c : Nat, c < 256 → 0 ≤ char c ∧ char c ≤ 65535 ∧ ¬ (55296 ≤ char c ∧ char c ≤ 57343) ∧ byteOk (char c) = true ∧ byteZ (char c) = (c : Int) := by decide +kernel
theorem u8n (x : Int) (h0 : 0 ≤ x) (h1 : x < 256) : (x.toNat.toUInt8).toNat = x.toNat := by
  simp; omega
/-- a character's own bytes are read as the character, whatever stands behind -/
theorem decode_encode (r : Int) (h0 : 0 ≤ r) (h1 : r ≤ 65535) (h2 : ¬ (55296 ≤ r ∧ r ≤ 57343)) (t : List UInt8) :
    decodeL (encodeRune r ++ t) = (r.toNat, (encodeRune r).length) := by
  rw [decodeL_N]
  unfold encodeRune
  by_cases a : r ≤ 127
  · rw [encodeRuneZ_one h0 a]
    have hd : (r.toNat.toUInt8).toNat = r.toNat := u8n r h0 (by omega)
    simp only [List.map_cons, List.map_nil, List.cons_append, List.nil_append, List.getD_cons_zero, hd, List.length_cons, List.length_nil]
    exact decodeN_ascii _ _ _ _ _ (by omega)
  · by_cases b : r ≤ 2047
    · rw [encodeRuneZ_two (by omega) b]
      have d0 := u8n (192 + r / 64) (by omega) (by omega)
      have d1 := u8n (128 + r % 64) (by omega) (by omega)
      simp only [List.map_cons, List.map_nil, List.cons_append, List.nil_append, List.getD_cons_zero, List.getD_cons_succ, d0, d1, List.length_cons, List.length_nil]
      rcases decodeN_cases (t.length + 1 + 1) (192 + r / 64).toNat (128 + r % 64).toNat (t.getD 0 0).toNat (t.getD 1 0).toNat with ⟨c, e⟩ | ⟨c1, c2, c3, cv, e⟩ | ⟨c1, c2, c3, c4, cv, e⟩ | ⟨c, e⟩ | e
      · omega
      · rw [e]; exact Prod.ext (by simp only; omega) rfl
      · omega
      · exfalso; revert c e; unfold decodeN; repeat' split
        all_goals (intro c e; (try simp only at c e); omega)
      · exfalso; revert e; unfold decodeN; repeat' split
        all_goals (intro e; (try simp only [Prod.mk.injEq] at e); (try omega))
    · rw [encodeRuneZ_three (by omega)]
      have d0 := u8n (224 + r / 4096) (by omega) (by omega)
      have d1 := u8n (128 + r / 64 % 64) (by omega) (by omega)
      have d2 := u8n (128 + r % 64) (by omega) (by omega)
      simp only [List.map_cons, List.map_nil, List.cons_append, List.nil_append, List.getD_cons_zero, List.getD_cons_succ, d0, d1, d2, List.length_cons, List.length_nil]
      rcases decodeN_cases (t.length + 1 + 1 + 1) (224 + r / 4096).toNat (128 + r / 64 % 64).toNat (128 + r % 64).toNat (t.getD 0 0).toNat with ⟨c, e⟩ | ⟨c1, c2, c3, cv, e⟩ | ⟨c1, c2, c3, c4, cv, e⟩ | ⟨c, e⟩ | e
      · omega
      · omega
      · rw [e]; exact Prod.ext (by simp only; omega) rfl
      · exfalso; revert c e; unfold decodeN; repeat' split
        all_goals (intro c e; (try simp only at c e); omega)
      · exfalso; revert e; unfold decodeN; repeat' split
        all_goals (intro e; (try simp only [Prod.mk.injEq] at e); (try omega))
theorem encode_pos (r : Int) : 1 ≤ (encodeRune r).length := by unfold encodeRune; rw [List.length_map]; exact (encodeRuneZ_length r).1
/-- bytes told as text are read as the bytes again -/
theorem dec_text : ∀ l : List Int, (∀ x ∈ l, 0 ≤ x ∧ x ≤ 255) → dec (textL l) = some l
  | [], _ => rfl
  | c :: l, h => by
    have hc := h c (List.mem_cons_self ..)
    obtain ⟨n, rfl⟩ := Int.eq_ofNat_of_zero_le hc.1
    have k := char_lo n (by omega)
    have e : textL ((n : Int) :: l) = encodeRune (char n) ++ textL l := by simp [textL]
    have hne : encodeRune (char n) ++ textL l ≠ [] := by
      intro h
      have h2 := congrArg List.length h
      have h3 := encode_pos (char n)
      rw [List.length_append, List.length_nil] at h2
      omega
    rw [e, dec_step _ hne, decode_encode _ k.1 k.2.1 k.2.2.1, show ((char n).toNat : Int) = char n by omega, if_pos k.2.2.2.1, k.2.2.2.2, List.drop_left, dec_text l (fun x hx => h x (List.mem_cons_of_mem _ hx))]
    rfl
theorem pos_char (r : Int) (h0 : 0 ≤ pos r) : upL.getD (pos r).toNat 0 = r ∧ (pos r).toNat < 128 := by
  have key : ∀ (l : List Int) (i : Int), 0 ≤ i → 0 ≤ scan l r i → i ≤ scan l r i ∧ l.getD (scan l r i - i).toNat 0 = r := by
    intro l
    induction l with
    | nil => intro i hi h; simp [scan] at h
    | cons x xs ih =>
      intro i hi h
      unfold scan at h ⊢
      by_cases e : r = x
      · rw [if_pos e]; exact ⟨Int.le_refl _, by simp [e]⟩
      · rw [if_neg e] at h ⊢
        obtain ⟨a, b⟩ := ih (i + 1) (by omega) h
        refine ⟨by omega, ?_⟩
        rw [show (scan xs r (i + 1) - i).toNat = (scan xs r (i + 1) - (i + 1)).toNat + 1 by omega, List.getD_cons_succ]
        exact b
  have a := key upL 0 (by omega) h0
  rw [Int.sub_zero] at a
  have b := pos_range r
  exact ⟨a.2, by rcases b with b | b <;> omega⟩
theorem char_byte (r : Int) (h : byteOk r = true) : 0 ≤ byteZ r ∧ byteZ r ≤ 255 ∧ char (byteZ r).toNat = r := by
  unfold byteOk at h
  unfold byteZ char
  by_cases c : 0 ≤ r ∧ r < 128
  · rw [if_pos c, if_pos (by omega)]
    omega
  · rw [decide_eq_false c, Bool.false_or] at h
    have h0 := of_decide_eq_true h
    have k := pos_char r h0
    rw [if_neg c, if_neg (by omega), if_neg (by omega)]
    refine ⟨by omega, by omega, ?_⟩
    rw [show (pos r + 128).toNat - 128 = (pos r).toNat by omega]
    exact k.1
/-- a text that was read is what its bytes tell -/
theorem text_dec : ∀ (n : Nat) (l : List UInt8) (d : List Int), l.length ≤ n → dec l = some d → textL d = l ∧ ∀ x ∈ d, 0 ≤ x ∧ x ≤ 255
  | 0, l, d, h, hd => by
    have e : l = [] := List.eq_nil_of_length_eq_zero (by omega)
    rw [e] at hd
    obtain rfl := Option.some.inj hd
    exact ⟨e.symm, by simp⟩
  | n + 1, l, d, h, hd => by
    by_cases e : l = []
    · rw [e] at hd
      obtain rfl := Option.some.inj hd
      exact ⟨e.symm, by simp⟩
    · rw [dec_step l e] at hd
      by_cases c : byteOk (decodeL l).1 = true
      · rw [if_pos c] at hd
        obtain ⟨d', hd', rfl⟩ := Option.map_eq_some_iff.1 hd
        have hw := decodeL_width l
        obtain ⟨k1, k2⟩ := text_dec n _ d' (by rw [List.length_drop]; omega) hd'
        have cb := char_byte _ c
        have hv : ¬ ((decodeL l).1 = 65533 ∧ (decodeL l).2 = 1) := by
          intro hv
          rw [hv.1] at c
          exact Bool.noConfusion (bad_rune.symm.trans c)
        refine ⟨?_, ?_⟩
        · have e2 : textL (byteZ (decodeL l).1 :: d') = encodeRune (char (byteZ (decodeL l).1).toNat) ++ textL d' := by simp [textL]
          rw [e2, cb.2.2, k1, encode_decode l e hv, List.take_append_drop]
        · intro x hx
          rcases List.mem_cons.1 hx with e3 | hx
          · rw [e3]; exact ⟨cb.1, cb.2.1⟩
          · exact k2 x hx
      · rw [if_neg c] at hd; cases hd
theorem dec_valid (l : List UInt8) (d : List Int) (h : dec l = some d) : validD l = true := by
  cases hv : validD l with
  | true => rfl
  | false => rw [dec_bad l.length l (Nat.le_refl _) hv] at h; cases h
theorem dec_len : ∀ (n : Nat) (l : List UInt8) (d : List Int), l.length ≤ n → dec l = some d → d.length ≤ l.length
  | 0, l, d, h, hd => by
    have e : l = [] := List.eq_nil_of_length_eq_zero (by omega)
    rw [e] at hd; obtain rfl := Option.some.inj hd; simp
  | n + 1, l, d, h, hd => by
    by_cases e : l = []
    · rw [e] at hd; obtain rfl := Option.some.inj hd; simp
    · rw [dec_step l e] at hd
      by_cases c : byteOk (decodeL l).1 = true
      · rw [if_pos c] at hd
        obtain ⟨d', hd', rfl⟩ := Option.map_eq_some_iff.1 hd
        have hw := decodeL_width l
        have hl : 0 < l.length := List.length_pos_iff.2 e
        have k := dec_len n _ d' (by rw [List.length_drop]; omega) hd'
        rw [List.length_drop] at k
        simp only [List.length_cons]; omega
      · rw [if_neg c] at hd; cases hd
end Go.Proofs.YtknacjoclpagaaaDoor.Pg
