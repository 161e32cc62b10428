/- Logarithms to eight places by squaring: plain facts on natural numbers. -/
namespace Go.Proofs.Ytbbmcfbfkpnelaa.ProbeMath
def step (p : Nat × Nat) : Nat × Nat :=
  if 4294967296 ≤ p.2 * p.2 / 2147483648 then (2 * p.1 + 1, p.2 * p.2 / 2147483648 / 2) else (2 * p.1, p.2 * p.2 / 2147483648)
def it : Nat → Nat × Nat → Nat × Nat
  | 0, p => p
  | n + 1, p => it n (step p)
def Rng (m : Nat) : Prop := 2147483648 ≤ m ∧ m < 4294967296
theorem sq_rng {m : Nat} (h : Rng m) : 2147483648 ≤ m * m / 2147483648 ∧ m * m / 2147483648 < 8589934592 := by
  have h1 : 2147483648 * 2147483648 ≤ m * m := Nat.mul_le_mul h.1 h.1
  have h2 : m * m ≤ 4294967295 * 4294967295 := Nat.mul_le_mul (by have := h.2; omega) (by have := h.2; omega)
  omega
theorem step_rng {p : Nat × Nat} (h : Rng p.2) : Rng (step p).2 := by
  have := sq_rng h
  unfold step
  split
  · exact ⟨by show _ ≤ _ / 2; omega, by show _ / 2 < _; omega⟩
  · exact ⟨by show _ ≤ p.2 * p.2 / _; omega, by show p.2 * p.2 / _ < _; omega⟩
theorem it_rng (n : Nat) : ∀ p : Nat × Nat, Rng p.2 → Rng (it n p).2 := by
  induction n with
  | zero => intro p h; exact h
  | succ n ih => intro p h; exact ih _ (step_rng h)
theorem step_fst (p : Nat × Nat) : 2 * p.1 ≤ (step p).1 ∧ (step p).1 ≤ 2 * p.1 + 1 := by
  unfold step; split <;> constructor <;> simp
theorem it_fst (n : Nat) : ∀ p : Nat × Nat, 2 ^ n * p.1 ≤ (it n p).1 ∧ (it n p).1 + 1 ≤ 2 ^ n * (p.1 + 1) := by
  induction n with
  | zero => intro p; simp [it]
  | succ n ih =>
    intro p
    have h := ih (step p)
    have h1 := step_fst p
    have a : 2 ^ (n + 1) * p.1 ≤ 2 ^ n * (step p).1 := by
      rw [Nat.pow_succ, Nat.mul_assoc]; exact Nat.mul_le_mul_left _ h1.1
    have b : 2 ^ n * ((step p).1 + 1) ≤ 2 ^ (n + 1) * (p.1 + 1) := by
      rw [Nat.pow_succ, Nat.mul_assoc]; exact Nat.mul_le_mul_left _ (by omega)
    exact ⟨Nat.le_trans a h.1, Nat.le_trans h.2 b⟩
def Le (p q : Nat × Nat) : Prop := p.1 < q.1 ∨ (p.1 = q.1 ∧ p.2 ≤ q.2)
theorem step_le {p q : Nat × Nat} (h : Le p q) : Le (step p) (step q) := by
  rcases h with h | ⟨h1, h2⟩
  · have a := step_fst p
    have b := step_fst q
    exact Or.inl (by omega)
  · have hm : p.2 * p.2 ≤ q.2 * q.2 := Nat.mul_le_mul h2 h2
    have hd : p.2 * p.2 / 2147483648 ≤ q.2 * q.2 / 2147483648 := Nat.div_le_div_right hm
    unfold step Le
    split <;> split
    · right; exact ⟨by show 2 * p.1 + 1 = 2 * q.1 + 1; omega, Nat.div_le_div_right hd⟩
    · exfalso; omega
    · left; show 2 * p.1 < 2 * q.1 + 1; omega
    · right; exact ⟨by show 2 * p.1 = 2 * q.1; omega, hd⟩
theorem it_le (n : Nat) : ∀ p q : Nat × Nat, Le p q → (it n p).1 ≤ (it n q).1 := by
  induction n with
  | zero => intro p q h; rcases h with h | h <;> simp only [it] <;> omega
  | succ n ih => intro p q h; exact ih _ _ (step_le h)
def mant (n : Nat) : Nat := if Nat.log2 n ≤ 31 then n * 2 ^ (31 - Nat.log2 n) else n / 2 ^ (Nat.log2 n - 31)
def logN (n : Nat) : Nat := if n = 0 then 0 else (it 8 (Nat.log2 n, mant n)).1
theorem mant_rng {n : Nat} (h : n ≠ 0) : Rng (mant n) := by
  have a := Nat.log2_self_le h
  have b := @Nat.lt_log2_self n
  unfold mant
  generalize e : Nat.log2 n = k at a b ⊢
  split
  · rename_i hk
    have p1 : 2 ^ k * 2 ^ (31 - k) = 2147483648 := by rw [← Nat.pow_add, show k + (31 - k) = 31 by omega]
    have p2 : 2 ^ (k + 1) * 2 ^ (31 - k) = 4294967296 := by rw [← Nat.pow_add, show k + 1 + (31 - k) = 32 by omega]
    exact ⟨by rw [← p1]; exact Nat.mul_le_mul_right _ a, by rw [← p2]; exact Nat.mul_lt_mul_of_pos_right b (Nat.pow_pos (by decide))⟩
  · rename_i hk
    have p1 : 2147483648 * 2 ^ (k - 31) = 2 ^ k := by rw [show (2147483648 : Nat) = 2 ^ 31 from rfl, ← Nat.pow_add, show 31 + (k - 31) = k by omega]
    have p2 : 4294967296 * 2 ^ (k - 31) = 2 ^ (k + 1) := by rw [show (4294967296 : Nat) = 2 ^ 32 from rfl, ← Nat.pow_add, show 32 + (k - 31) = k + 1 by omega]
    exact ⟨(Nat.le_div_iff_mul_le (Nat.pow_pos (by decide))).mpr (by rw [p1]; exact a), (Nat.div_lt_iff_lt_mul (Nat.pow_pos (by decide))).mpr (by rw [p2]; exact b)⟩
theorem logN_low {n : Nat} (h : n ≠ 0) : 256 * Nat.log2 n ≤ logN n ∧ logN n + 1 ≤ 256 * (Nat.log2 n + 1) := by
  unfold logN; rw [if_neg h]
  have := it_fst 8 (Nat.log2 n, mant n)
  simpa using this
theorem log2_mono {a b : Nat} (ha : a ≠ 0) (h : a ≤ b) : Nat.log2 a ≤ Nat.log2 b :=
  (Nat.le_log2 (by omega)).mpr (Nat.le_trans (Nat.log2_self_le ha) h)
theorem logN_mono {a b : Nat} (h : a ≤ b) : logN a ≤ logN b := by
  by_cases ha : a = 0
  · subst ha; exact Nat.zero_le _
  unfold logN; rw [if_neg ha, if_neg (by omega)]
  apply it_le
  rcases Nat.lt_or_eq_of_le (log2_mono ha h) with hl | hl
  · exact Or.inl hl
  · refine Or.inr ⟨hl, ?_⟩
    show mant a ≤ mant b
    unfold mant; rw [hl]
    split
    · exact Nat.mul_le_mul_right _ h
    · exact Nat.div_le_div_right h
theorem it_fix (c : Nat) (h1 : c * c / 2147483648 = c) (h2 : c < 4294967296) (n k : Nat) : it n (k, c) = (2 ^ n * k, c) := by
  induction n generalizing k with
  | zero => simp [it]
  | succ n ih =>
    have e : step (k, c) = (2 * k, c) := by
      unfold step
      show (if 4294967296 ≤ c * c / 2147483648 then _ else (2 * k, c * c / 2147483648)) = _
      rw [h1, if_neg (by omega)]
    rw [it, e, ih, Nat.pow_succ, Nat.mul_assoc]
theorem it_pow (n k : Nat) : it n (k, 2147483648) = (2 ^ n * k, 2147483648) :=
  it_fix _ (Nat.mul_div_cancel _ (by omega)) (by omega) n k
theorem log2_pow (k : Nat) : Nat.log2 (2 ^ k) = k := by
  have h : (2 ^ k : Nat) ≠ 0 := Nat.ne_of_gt (Nat.pow_pos (by decide))
  have a : k ≤ Nat.log2 (2 ^ k) := (Nat.le_log2 h).mpr (Nat.le_refl _)
  have b : Nat.log2 (2 ^ k) < k + 1 := (Nat.log2_lt h).mpr (Nat.pow_lt_pow_right (by decide) (by omega))
  omega
theorem logN_pow (k : Nat) : logN (2 ^ k) = 256 * k := by
  have h : (2 ^ k : Nat) ≠ 0 := Nat.ne_of_gt (Nat.pow_pos (by decide))
  have hm : mant (2 ^ k) = 2147483648 := by
    unfold mant; rw [log2_pow]
    split
    · rw [← Nat.pow_add, show k + (31 - k) = 31 by omega]
    · rw [Nat.pow_div (by omega) (by decide), show k - (k - 31) = 31 by omega]
  unfold logN; rw [if_neg h, log2_pow, hm, it_pow]
theorem logN_ge {n k : Nat} (h : 2 ^ k ≤ n) : 256 * k ≤ logN n := by
  rw [← logN_pow k]; exact logN_mono h
theorem logN_lt {n k : Nat} (hn : n ≠ 0) (h : n < 2 ^ k) : logN n < 256 * k := by
  have a := logN_low hn
  have b : Nat.log2 n < k := (Nat.log2_lt hn).mpr h
  omega
theorem logN_one : logN 1 = 0 := logN_pow 0
end Go.Proofs.Ytbbmcfbfkpnelaa.ProbeMath
