/- Where the end of any bytes stands: field.Find, record.FindEnd, the reference's FindEnd, as printed (namespace FF). -/
import Derived.Test.YtedboieaefdbdaaFFNum
namespace Go.Proofs.Ytedboieaefdbdaa.FFR
open Go.RowKit Go.Proofs.Ytedboieaefdbdaa.FF Go.Proofs.YtedboieaefdbdaaW.PrintWords Go.Proofs.YtedboieaefdbdaaW.PrintLast Go.Proofs.YtedboieaefdbdaaW.PrintMore Go.Proofs.Ytedboieaefdbdaa.Fld
theorem list4 (y : List Int) (h : y.length = 4) : ∃ a b c d, y = [a, b, c, d] := by
  match y, h with
  | [a, b, c, d], _ => exact ⟨a, b, c, d, rfl⟩
theorem list2 (y : List Int) (h : y.length = 2) : ∃ a b, y = [a, b] := by
  match y, h with
  | [a, b], _ => exact ⟨a, b, rfl⟩
theorem or32 (z x : Int) (i : Nat) (hz : 0 ≤ z ∧ z < 2 ^ i) (hi : i ≤ 32) (hx : 0 ≤ x ∧ x < 4294967296) (hm : x % 2 ^ i = 0) : Go.bits .or .u32 z x = z + x := by
  have hw : ∀ n : Int, 0 ≤ n → n < 2 ^ 32 → IntKind.u32.wrap n = n := fun n h0 h1 => IntWalk.u32_in _ ⟨h0, by omega⟩
  have hp : (2 : Int) ^ i ≤ 2 ^ 32 := by have := Nat.pow_le_pow_right (n := 2) (by decide) hi; exact_mod_cast this
  exact bits_join_low .u32 32 (by decide) hw i z x hz.1 hz.2 (by omega) hx.1 hm (by omega)
theorem or4 (a b c d : Int) (ha : 0 ≤ a ∧ a ≤ 255) (hb : 0 ≤ b ∧ b ≤ 255) (hc : 0 ≤ c ∧ c ≤ 255) (hd : 0 ≤ d ∧ d ≤ 255) :
    (Go.bits .or .u32 (Go.bits .or .u32 (Go.bits .or .u32 (a % 4294967296) (((b % 4294967296) * 256) % 4294967296)) (((c % 4294967296) * 65536) % 4294967296)) (((d % 4294967296) * 16777216) % 4294967296)) = num [a, b, c, d] := by
  have ea : a % 4294967296 = a := by omega
  have eb : ((b % 4294967296) * 256) % 4294967296 = b * 256 := by omega
  have ec : ((c % 4294967296) * 65536) % 4294967296 = c * 65536 := by omega
  have ed : ((d % 4294967296) * 16777216) % 4294967296 = d * 16777216 := by omega
  rw [ea, eb, ec, ed, or32 a (b * 256) 8 (by omega) (by decide) (by omega) (by omega), or32 (a + b * 256) (c * 65536) 16 (by omega) (by decide) (by omega) (by omega), or32 (a + b * 256 + c * 65536) (d * 16777216) 24 (by omega) (by decide) (by omega) (by omega)]
  simp only [num]; omega
theorem or2 (a b : Int) (ha : 0 ≤ a ∧ a ≤ 255) (hb : 0 ≤ b ∧ b ≤ 255) : Go.bits .or .i64 (wrap64 a) (wrap64 (wrap64 b * 256)) = num [a, b] := by
  have hw : ∀ n : Int, 0 ≤ n → n < 2 ^ 62 → IntKind.i64.wrap n = n := fun n h0 h1 => IntWalk.i64_in _ ⟨by omega, by omega⟩
  rw [w64i a (by omega) (by omega), w64i b (by omega) (by omega), w64i (b * 256) (by omega) (by omega), bits_join_low .i64 62 (by decide) hw 8 a (b * 256) ha.1 (by omega) (by omega) (by omega) (by omega) (by omega)]
  simp only [num]; omega
theorem wr_a (t : Nat) (h : t ≤ 100000) : wrap64 (wrap64 ((t : Int) + 22) - 2) = ((t + 20 : Nat) : Int) := by rw [w64i ((t : Int) + 22) (by omega) (by omega), w64i _ (by omega) (by omega)]; omega
theorem wr_b (t : Nat) (h : t ≤ 100000) : wrap64 (wrap64 ((t : Int) + 22) - 1) = ((t + 21 : Nat) : Int) := by rw [w64i ((t : Int) + 22) (by omega) (by omega), w64i _ (by omega) (by omega)]; omega
theorem wr_c (n t : Nat) (h : t ≤ 100000) (h2 : n ≤ 100000) : wrap64 (wrap64 ((n : Int) - (t : Int)) - 22) = (n : Int) - t - 22 := by rw [w64i ((n : Int) - (t : Int)) (by omega) (by omega), w64i _ (by omega) (by omega)]
theorem wr_d (t : Nat) (h : t ≤ 100000) : wrap64 ((t : Int) - 1) = (t : Int) - 1 := w64i _ (by omega) (by omega)
theorem wr_e (t : Nat) (h : t ≤ 100000) : wrap64 ((t : Int) + 4) = ((t + 4 : Nat) : Int) := w64i _ (by omega) (by omega)
theorem wr_f (t : Nat) (h : t ≤ 100000) : wrap64 (((t + 1 : Nat) : Int) - 1) = (t : Int) := by rw [w64i _ (by omega) (by omega)]; omega
theorem wr_g : wrap64 (((0 : Nat) : Int) - 1) = -1 := w64i _ (by omega) (by omega)
theorem wr_h : wrap64 (((0 : Nat) : Int) + 4) = 4 := w64i _ (by omega) (by omega)
def P4 (l : List Int) (s : Int) (i : Nat) : Bool := decide (i + 4 ≤ l.length ∧ num ((l.drop i).take 4) = s)
theorem take_drop (l : List Int) (i n : Nat) : (l.take (i + n)).drop i = (l.drop i).take n := by
  rw [List.drop_take]; congr 1; omega
theorem find_l0 (l : List Int) (hb : Byt8 l) (hl : l.length ≤ 1000) (s : Int) : ∀ (n K : Nat), n + 4 ≤ l.length → n + 2 ≤ K →
    field_Find.l0 K l s (n : Int) = some (lastB (P4 l s) (n + 1)) := by
  intro n
  induction n with
  | zero =>
    intro K hn hK
    obtain ⟨K, rfl⟩ : ∃ i, K = i + 2 := ⟨K - 2, by omega⟩
    obtain ⟨a, b, c, d, hy⟩ := list4 ((l.drop 0).take 4) (by rw [List.length_take, List.length_drop]; omega)
    have hB : Byt8 [a, b, c, d] := hy ▸ (hb.drop 0).take 4
    have h4 := or4 a b c d (hB a (by simp)) (hB b (by simp)) (hB c (by simp)) (hB d (by simp))
    have ey : (l.take (4 : Int).toNat).drop (((0 : Nat) : Int)).toNat = [a, b, c, d] := by rw [← hy]; exact take_drop l 0 4
    rw [field_Find.l0, wr_h, wr_g, ey]
    refine (if_pos (by omega)).trans ((if_pos (by omega)).trans ((if_pos (by omega)).trans ((if_pos (by omega)).trans ?_)))
    simp only [Option.bind_some]
    refine (if_pos (by simp)).trans ((if_pos (by simp)).trans ((if_pos (by simp)).trans ((if_pos (by simp)).trans ?_)))
    rw [show rd [a, b, c, d] 0 = a from rfl, show rd [a, b, c, d] 1 = b from rfl, show rd [a, b, c, d] 2 = c from rfl, show rd [a, b, c, d] 3 = d from rfl, h4]
    clear h4
    have hP : P4 l s 0 = decide (num [a, b, c, d] = s) := by unfold P4; rw [hy]; simp <;> omega
    simp only [lastB]
    by_cases h : num [a, b, c, d] = s
    · rw [if_pos h, if_pos (by rw [hP, decide_eq_true h])]
    · rw [if_neg h, if_neg (by rw [hP, decide_eq_false h]; decide), field_Find.l0]
      exact if_neg (by decide)
  | succ n ih =>
    intro K hn hK
    obtain ⟨K, rfl⟩ : ∃ i, K = i + 1 := ⟨K - 1, by omega⟩
    have hX := ih K (by omega) (by omega)
    obtain ⟨a, b, c, d, hy⟩ := list4 ((l.drop (n + 1)).take 4) (by rw [List.length_take, List.length_drop]; omega)
    have hB : Byt8 [a, b, c, d] := hy ▸ (hb.drop (n + 1)).take 4
    have h4 := or4 a b c d (hB a (by simp)) (hB b (by simp)) (hB c (by simp)) (hB d (by simp))
    have ey : (l.take (((n + 1 + 4 : Nat) : Int)).toNat).drop (((n + 1 : Nat) : Int)).toNat = [a, b, c, d] := by rw [← hy, Int.toNat_natCast, Int.toNat_natCast]; exact take_drop l (n + 1) 4
    rw [field_Find.l0, wr_e (n + 1) (by omega), wr_f n (by omega), ey]
    refine (if_pos (by omega)).trans ((if_pos (by omega)).trans ((if_pos (by omega)).trans ((if_pos (by omega)).trans ?_)))
    simp only [Option.bind_some]
    refine (if_pos (by simp)).trans ((if_pos (by simp)).trans ((if_pos (by simp)).trans ((if_pos (by simp)).trans ?_)))
    rw [show rd [a, b, c, d] 0 = a from rfl, show rd [a, b, c, d] 1 = b from rfl, show rd [a, b, c, d] 2 = c from rfl, show rd [a, b, c, d] 3 = d from rfl, h4]
    clear h4
    have hP : P4 l s (n + 1) = decide (num [a, b, c, d] = s) := by unfold P4; rw [hy]; simp <;> omega
    rw [show lastB (P4 l s) (n + 1 + 1) = if P4 l s (n + 1) = true then ((n + 1 : Nat) : Int) else lastB (P4 l s) (n + 1) from rfl]
    by_cases h : num [a, b, c, d] = s
    · rw [if_pos h, if_pos (by rw [hP, decide_eq_true h])]
    · rw [if_neg h, if_neg (by rw [hP, decide_eq_false h]; decide)]
      exact hX
theorem find_run (l : List Int) (hb : Byt8 l) (hl : l.length ≤ 1000) (s f : Int) (K : Nat) (hK : l.length + 2 ≤ K) :
    field_Find.f K l s f = some (lastB (P4 l s) ((mn f ((l.length : Int) - 4)) + 1).toNat) := by
  unfold field_Find.f
  rw [w64i _ (by omega) (by omega)]
  have hm : mn f ((l.length : Int) - 4) ≤ (l.length : Int) - 4 := by unfold mn; split <;> omega
  generalize mn f ((l.length : Int) - 4) = m at *
  by_cases h : 0 ≤ m
  · obtain ⟨n, rfl⟩ := Int.eq_ofNat_of_zero_le h
    rw [find_l0 l hb hl s n K (by omega) (by omega)]
    rfl
  · obtain ⟨K, rfl⟩ : ∃ i, K = i + 1 := ⟨K - 1, by omega⟩
    rw [field_Find.l0, show (m + 1).toNat = 0 by omega]
    exact if_neg h
end Go.Proofs.Ytedboieaefdbdaa.FFR
