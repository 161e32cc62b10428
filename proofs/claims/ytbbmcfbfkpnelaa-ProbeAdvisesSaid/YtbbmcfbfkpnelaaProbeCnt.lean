/- Counts of letters and the sum of bits: plain facts. -/
import Derived.Test.YtbbmcfbfkpnelaaProbeMath
namespace Go.Proofs.Ytbbmcfbfkpnelaa.ProbeMath
def S : Nat → (Nat → Nat) → Nat
  | 0, _ => 0
  | n + 1, f => S n f + f n
theorem S_le {f g : Nat → Nat} (n : Nat) (h : ∀ v, v < n → f v ≤ g v) : S n f ≤ S n g := by
  induction n with
  | zero => exact Nat.le_refl _
  | succ n ih => exact Nat.add_le_add (ih fun v hv => h v (by omega)) (h n (by omega))
theorem S_congr {f g : Nat → Nat} (n : Nat) (h : ∀ v, v < n → f v = g v) : S n f = S n g :=
  Nat.le_antisymm (S_le n fun v hv => Nat.le_of_eq (h v hv)) (S_le n fun v hv => Nat.le_of_eq (h v hv).symm)
theorem S_add (f g : Nat → Nat) (n : Nat) : S n (fun v => f v + g v) = S n f + S n g := by
  induction n with
  | zero => rfl
  | succ n ih => simp only [S, ih]; omega
theorem S_mul (c : Nat) (f : Nat → Nat) (n : Nat) : S n (fun v => c * f v) = c * S n f := by
  induction n with
  | zero => rfl
  | succ n ih => simp only [S, ih, Nat.mul_add]
theorem S_const (c n : Nat) : S n (fun _ => c) = n * c := by
  induction n with
  | zero => simp [S]
  | succ n ih => simp only [S, ih, Nat.succ_mul]
theorem S_zero (n : Nat) (f : Nat → Nat) (h : ∀ v, v < n → f v = 0) : S n f = 0 := by
  rw [S_congr n h, S_const, Nat.mul_zero]
theorem S_ind (a n : Nat) : S n (fun v => if v = a then 1 else 0) = if a < n then 1 else 0 := by
  induction n with
  | zero => simp [S]
  | succ n ih =>
    simp only [S, ih]
    split <;> split <;> split <;> omega
def cn (l : List Int) (v : Nat) : Nat := l.count (v : Int)
theorem cn_le (l : List Int) (v : Nat) : cn l v ≤ l.length := List.count_le_length
theorem S_cn (l : List Int) (h : ∀ x ∈ l, 0 ≤ x ∧ x ≤ 255) : S 256 (cn l) = l.length := by
  induction l with
  | nil => exact S_zero _ _ fun v _ => rfl
  | cons a l ih =>
    have ha := h a (by simp)
    have e : S 256 (cn (a :: l)) = S 256 (fun v => cn l v + if v = a.toNat then 1 else 0) := by
      apply S_congr
      intro v hv
      unfold cn
      rw [List.count_cons]
      congr 1
      by_cases c : v = a.toNat
      · rw [if_pos c, if_pos (by simp; omega)]
      · rw [if_neg c, if_neg (by simp; omega)]
    rw [e, S_add, S_ind, ih (fun x hx => h x (by simp [hx])), if_pos (by omega)]
    rfl
def term (n c : Nat) : Nat := c * (logN n - logN c)
def B (l : List Int) : Nat := S 256 fun v => term l.length (cn l v)
theorem B_perm {l r : List Int} (h : l.Perm r) : B l = B r := by
  unfold B
  apply S_congr
  intro v _
  rw [h.length_eq, show cn l v = cn r v from h.count_eq _]
theorem log_le10 {n : Nat} (h : n ≤ 1023) : logN n ≤ 2559 := by
  by_cases h0 : n = 0
  · subst h0; exact Nat.zero_le _
  · have := logN_lt h0 (k := 10) (by omega); omega
theorem tangent (c : Nat) : 512 * c ≤ c * logN c + 512 := by
  by_cases h4 : 4 ≤ c
  · have h : 512 ≤ logN c := logN_ge (k := 2) h4
    have := Nat.mul_le_mul_left c h
    omega
  · have h1 : logN 2 = 256 := logN_pow 1
    have h2 : 256 ≤ logN 3 := logN_ge (k := 1) (by decide)
    have h3 : logN 3 = 405 := by decide +kernel
    rcases (show c = 0 ∨ c = 1 ∨ c = 2 ∨ c = 3 by omega) with rfl | rfl | rfl | rfl
    · omega
    · omega
    · rw [h1]; omega
    · rw [h3]; omega
theorem big_ok : ∀ d : Fin 144, (257 + d.val) * logN (257 + d.val) + 131072 ≤ 2561 * (257 + d.val) := by decide +kernel
theorem term_low (n c : Nat) (hc : c ≤ n) : term n c + c * logN c = c * logN n := by
  unfold term
  rw [Nat.mul_sub, Nat.sub_add_cancel (Nat.mul_le_mul_left c (logN_mono hc))]
theorem B_le (l : List Int) (h : ∀ x ∈ l, 0 ≤ x ∧ x ≤ 255) (hn : l.length ≤ 400) : B l ≤ 2049 * l.length := by
  have hs := S_cn l h
  by_cases h2 : l.length ≤ 256
  · have hL : logN l.length ≤ 2048 := by
      have h3 := logN_mono (show l.length ≤ 2 ^ 8 from h2)
      rw [logN_pow] at h3; omega
    have : B l ≤ S 256 (fun v => 2048 * cn l v) := by
      apply S_le
      intro v _
      unfold term
      rw [Nat.mul_comm 2048]
      exact Nat.mul_le_mul_left _ (by omega)
    rw [S_mul, hs] at this
    omega
  · have h1 : B l + 512 * l.length ≤ logN l.length * l.length + 256 * 512 := by
      have e1 : S 256 (fun v => term l.length (cn l v) + 512 * cn l v) = B l + 512 * l.length := by rw [S_add, S_mul, hs]; rfl
      have e2 : S 256 (fun v => logN l.length * cn l v + 512) = logN l.length * l.length + 256 * 512 := by rw [S_add, S_mul, hs, S_const]
      rw [← e1, ← e2]
      apply S_le
      intro v _
      have a := term_low l.length (cn l v) (cn_le l v)
      have b := tangent (cn l v)
      rw [Nat.mul_comm (logN l.length)]
      omega
    have h3 := big_ok ⟨l.length - 257, by omega⟩
    simp only [show 257 + (l.length - 257) = l.length by omega] at h3
    rw [Nat.mul_comm (logN l.length)] at h1
    omega
theorem B_one (m : Nat) (a : Int) : B (List.replicate m a) = 0 := by
  apply S_zero
  intro v _
  unfold term cn
  rw [List.length_replicate, List.count_replicate]
  split
  · rw [Nat.sub_self, Nat.mul_zero]
  · rw [Nat.zero_mul]
theorem swap_perm (i : Nat) : ∀ l : List Int, i + 1 < l.length → ((l.set i (l.getD (i + 1) 0)).set (i + 1) (l.getD i 0)).Perm l := by
  induction i with
  | zero =>
    intro l h
    match l, h with
    | a :: b :: t, _ => exact List.Perm.swap a b t
  | succ i ih =>
    intro l h
    match l, h with
    | a :: t, h => exact (ih t (by simpa using h)).cons a
theorem term_bound (n c : Nat) (hc : c ≤ n) (hn : n ≤ 1000) : term n c ≤ 2559000 := by
  unfold term
  have h : logN n - logN c ≤ 2559 := by have := log_le10 (show n ≤ 1023 by omega); omega
  exact Nat.le_trans (Nat.mul_le_mul (show c ≤ 1000 by omega) h) (by decide)
theorem S_bound (l : List Int) (hn : l.length ≤ 1000) (j : Nat) : S j (fun v => term l.length (cn l v)) ≤ j * 2559000 := by
  rw [← S_const]
  exact S_le _ fun v _ => term_bound _ _ (cn_le l v) hn
end Go.Proofs.Ytbbmcfbfkpnelaa.ProbeMath
