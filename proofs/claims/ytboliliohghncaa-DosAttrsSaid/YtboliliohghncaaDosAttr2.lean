/- DosAttrs: which number any attributes are, and which attributes any number. -/
import Derived.Test.YtboliliohghncaaDosAttr1
import Derived.Deep.RegionHeld3
import Derived.Deep.DeepCutAuto
namespace Go.Proofs.Ytboliliohghncaa.DosWalk
open Go.RowKit Go.Proofs.YtboliliohghncaaW.PrintWords Go.Proofs.YtboliliohghncaaW.PrintLast Go.Proofs.YtboliliohghncaaW.PrintMore Go.Proofs.Ytboliliohghncaa.Dy
set_option linter.unusedVariables false
set_option linter.unusedSimpArgs false
theorem mask_any (x : Int) : Go.bits .and .i64 x 63 = x % 64 := by
  have h1 : (BitVec.ofInt 64 x &&& BitVec.ofInt 64 63).toNat = (x % 64).toNat := by
    rw [BitVec.toNat_and]
    have e1 : (BitVec.ofInt 64 63).toNat = 2 ^ 6 - 1 := rfl
    rw [e1, Nat.and_two_pow_sub_one_eq_mod, BitVec.toNat_ofInt]
    omega
  show IntKind.i64.wrap (((BitVec.ofInt 64 x &&& BitVec.ofInt 64 63).toNat : Nat) : Int) = _
  rw [h1, IntKind.wrap_i64]; omega
theorem nat_clear (a : Nat) (h : a < 2 ^ 64) : a &&& (2 ^ 6 * (2 ^ 58 - 1)) = 2 ^ 6 * (a / 2 ^ 6) := by
  apply Nat.eq_of_testBit_eq
  intro i
  rw [Nat.testBit_and, Nat.testBit_two_pow_mul, Nat.testBit_two_pow_mul, Nat.testBit_two_pow_sub_one, Nat.testBit_div_two_pow]
  by_cases c : i ≥ 6
  · rw [decide_eq_true c, Bool.true_and, Bool.true_and]
    have e : 6 + (i - 6) = i := by omega
    have e2 : i - 6 + 6 = i := by omega
    by_cases c2 : i - 6 < 58
    · rw [decide_eq_true c2, Bool.and_true]
      first | rw [e] | rw [e2]
    · rw [decide_eq_false c2, Bool.and_false]
      have hz : a.testBit i = false := Nat.testBit_lt_two_pow (Nat.lt_of_lt_of_le h (Nat.pow_le_pow_right (by decide) (by omega)))
      first | rw [e, hz] | rw [e2, hz]
  · rw [decide_eq_false c, Bool.false_and, Bool.false_and, Bool.and_false]
theorem clear_low (x : Int) (h0 : 0 ≤ x) (h1 : x ≤ 1099511627776) : Go.bits .andNot .i64 x 63 = x - x % 64 := by
  obtain ⟨a, rfl⟩ := Int.eq_ofNat_of_zero_le h0
  have h2 : (BitVec.ofInt 64 (a : Int) &&& ~~~ BitVec.ofInt 64 63).toNat = 2 ^ 6 * (a / 2 ^ 6) := by
    rw [BitVec.toNat_and]
    have e1 : (~~~ BitVec.ofInt 64 63).toNat = 2 ^ 6 * (2 ^ 58 - 1) := by decide
    have e2 : (BitVec.ofInt 64 (a : Int)).toNat = a := by rw [BitVec.ofInt_natCast, BitVec.toNat_ofNat]; omega
    rw [e1, e2]
    exact nat_clear a (by omega)
  show IntKind.i64.wrap (((BitVec.ofInt 64 (a : Int) &&& ~~~ BitVec.ofInt 64 63).toNat : Nat) : Int) = _
  rw [h2, IntKind.wrap_i64]; omega
theorem or_more (n m : Int) (h0 : 0 ≤ n) (h1 : n < 64) (m0 : 0 ≤ m) (m1 : m ≤ 1099511627776) (hm : m % 64 = 0) : Go.bits .or .i64 n m = n + m := by
  obtain ⟨a, rfl⟩ := Int.eq_ofNat_of_zero_le h0
  obtain ⟨b, rfl⟩ := Int.eq_ofNat_of_zero_le m0
  have hb := (bits_nat .i64 62 (by decide) (fun n a b => by rw [IntKind.wrap_i64]; omega) a b (by omega) (by omega)).2
  rw [hb]
  obtain ⟨c, rfl⟩ : ∃ c, b = 2 ^ 6 * c := ⟨b / 64, by omega⟩
  have e : a ||| 2 ^ 6 * c = a + 2 ^ 6 * c := by
    rw [Nat.or_comm, Nat.add_comm]
    exact (Nat.two_pow_add_eq_or_of_lt (by omega) c).symm
  rw [e]; omega
/-- the six bits of x make x's rest -/
theorem bits_sum (x : Int) : sumTo [bitB x 0, bitB x 1, bitB x 2, bitB x 3, bitB x 4, bitB x 5] 6 = x % 64 := by
  have one : ∀ i : Nat, (if (x / 2 ^ i % 2 == 1) = true then (2 : Int) ^ i else 0) = 2 ^ i * (x / 2 ^ i % 2) := by
    intro i
    have h : x / 2 ^ i % 2 = 0 ∨ x / 2 ^ i % 2 = 1 := by omega
    rcases h with h | h
    · rw [h]; simp
    · rw [h]; simp
  simp only [sumTo, List.getD_cons_zero, List.getD_cons_succ, bitB]
  rw [one 0, one 1, one 2, one 3, one 4, one 5]
  simp only [Int.reducePow, Int.pow_zero]
  omega
theorem bit_sum (L : List Bool) (a0 a1 a2 a3 a4 a5 : Bool) (hL : L = [a0, a1, a2, a3, a4, a5]) (m : Int) (hm : m % 64 = 0) :
    bitB (sumTo L 6 + m) 0 = a0 ∧ bitB (sumTo L 6 + m) 1 = a1 ∧ bitB (sumTo L 6 + m) 2 = a2 ∧ bitB (sumTo L 6 + m) 3 = a3 ∧ bitB (sumTo L 6 + m) 4 = a4 ∧ bitB (sumTo L 6 + m) 5 = a5 := by
  subst hL
  obtain ⟨c, rfl⟩ : ∃ c, m = 64 * c := ⟨m / 64, by omega⟩
  have key : ∀ (i : Nat) (b : Bool) (n : Int), 0 ≤ n → n < 64 → i < 6 → (n / 2 ^ i % 2 == 1) = b → bitB (n + 64 * c) i = b := by
    intro i b n h0 h1 hi hb
    rw [← hb]
    unfold bitB
    have e : (n + 64 * c) / 2 ^ i % 2 = n / 2 ^ i % 2 := by
      match i, hi with
      | 0, _ => simp; omega
      | 1, _ => simp; omega
      | 2, _ => simp; omega
      | 3, _ => simp; omega
      | 4, _ => simp; omega
      | 5, _ => simp; omega
    rw [e]
  have hs := sumTo_bd [a0, a1, a2, a3, a4, a5] 6
  have all : ∀ b0 b1 b2 b3 b4 b5 : Bool, (sumTo [b0, b1, b2, b3, b4, b5] 6 / 2 ^ 0 % 2 == 1) = b0 ∧ (sumTo [b0, b1, b2, b3, b4, b5] 6 / 2 ^ 1 % 2 == 1) = b1 ∧ (sumTo [b0, b1, b2, b3, b4, b5] 6 / 2 ^ 2 % 2 == 1) = b2 ∧ (sumTo [b0, b1, b2, b3, b4, b5] 6 / 2 ^ 3 % 2 == 1) = b3 ∧ (sumTo [b0, b1, b2, b3, b4, b5] 6 / 2 ^ 4 % 2 == 1) = b4 ∧ (sumTo [b0, b1, b2, b3, b4, b5] 6 / 2 ^ 5 % 2 == 1) = b5 := by decide
  obtain ⟨h0, h1, h2, h3, h4, h5⟩ := all a0 a1 a2 a3 a4 a5
  exact ⟨key 0 _ _ hs.1 hs.2 (by omega) h0, key 1 _ _ hs.1 hs.2 (by omega) h1, key 2 _ _ hs.1 hs.2 (by omega) h2, key 3 _ _ hs.1 hs.2 (by omega) h3, key 4 _ _ hs.1 hs.2 (by omega) h4, key 5 _ _ hs.1 hs.2 (by omega) h5⟩
end Go.Proofs.Ytboliliohghncaa.DosWalk
