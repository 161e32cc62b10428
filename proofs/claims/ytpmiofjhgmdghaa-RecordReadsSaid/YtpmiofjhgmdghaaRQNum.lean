/- Numbers of bytes: the reference's Num, as printed (namespace RQ); the last place of something. -/
import Derived.Test.YtpmiofjhgmdghaaFieldCur1
import Derived.Test.YtpmiofjhgmdghaaRQx1
namespace Go.Proofs.Ytpmiofjhgmdghaa.RQR
open Go.RowKit Go.Proofs.Ytpmiofjhgmdghaa.RQ Go.Proofs.YtpmiofjhgmdghaaW.PrintWords Go.Proofs.YtpmiofjhgmdghaaW.PrintLast Go.Proofs.YtpmiofjhgmdghaaW.PrintMore Go.Proofs.Ytpmiofjhgmdghaa.Fld
theorem w64 (n : Nat) (h : n < 9223372036854775808) : wrap64 (n : Int) = n := IntWalk.wrap64_in _ ⟨by omega, by omega⟩
theorem w64i (x : Int) (h0 : -9223372036854775808 ≤ x) (h1 : x < 9223372036854775808) : wrap64 x = x := IntWalk.wrap64_in _ ⟨h0, by omega⟩
theorem rd_nat (l : List Int) (i : Nat) (h : i < l.length) : rd l (i : Int) = l[i] := by simp [rd, List.getD, h]
def Byt8 (l : List Int) : Prop := ∀ x ∈ l, 0 ≤ x ∧ x ≤ 255
theorem Byt8.take {l : List Int} (h : Byt8 l) (n : Nat) : Byt8 (l.take n) := fun x hx => h x (List.mem_of_mem_take hx)
theorem Byt8.drop {l : List Int} (h : Byt8 l) (n : Nat) : Byt8 (l.drop n) := fun x hx => h x (List.mem_of_mem_drop hx)
theorem Byt8.at_ {l : List Int} (h : Byt8 l) (i : Nat) (hi : i < l.length) : 0 ≤ rd l (i : Int) ∧ rd l (i : Int) ≤ 255 := by
  rw [rd_nat l i hi]; exact h _ (List.getElem_mem hi)
theorem pow256 (n : Nat) (h : n ≤ 4) : (256 : Int) ^ n ≤ 4294967296 := by
  rcases (show n = 0 ∨ n = 1 ∨ n = 2 ∨ n = 3 ∨ n = 4 by omega) with rfl | rfl | rfl | rfl | rfl <;> decide
theorem num_drop (l : List Int) (j : Nat) (h : j < l.length) : num (l.drop j) = rd l (j : Int) + 256 * num (l.drop (j + 1)) := by
  rw [rd_nat l j h, List.drop_eq_getElem_cons h]; rfl
theorem num_l0 (l : List Int) (hb : Byt8 l) (hl : l.length ≤ 4) : ∀ (j K : Nat), j ≤ l.length → j + 1 ≤ K →
    duffelref02_Num.l0 K l (num (l.drop j)) ((j : Int) - 1) = some (num l) := by
  intro j
  induction j with
  | zero =>
    intro K hj hK
    obtain ⟨K, rfl⟩ : ∃ i, K = i + 1 := ⟨K - 1, by omega⟩
    simp only [duffelref02_Num.l0]
    exact (if_neg (by omega)).trans (by rw [List.drop_zero])
  | succ j ih =>
    intro K hj hK
    obtain ⟨K, rfl⟩ : ∃ i, K = i + 1 := ⟨K - 1, by omega⟩
    have hX := ih K (by omega) (by omega)
    have hd := num_drop l j (by omega)
    have hr := hb.at_ j (by omega)
    have hn := num_bound (l.drop (j + 1)) (hb.drop (j + 1))
    have hm := num_bound (l.drop j) (hb.drop j)
    have hp := pow256 (l.drop j).length (by rw [List.length_drop]; omega)
    have e0 : ((j + 1 : Nat) : Int) - 1 = (j : Int) := by omega
    have e1 : wrap64 ((j : Int) - 1) = (j : Int) - 1 := w64i _ (by omega) (by omega)
    have e2 : ((((num (l.drop (j + 1))) * 256) % 4294967296) + ((rd l (j : Int)) % 4294967296)) % 4294967296 = num (l.drop j) := by
      generalize num (l.drop (j + 1)) = z at *
      generalize num (l.drop j) = y at *
      generalize rd l (j : Int) = b at *
      clear e1
      omega
    rw [e0]
    simp only [duffelref02_Num.l0]
    rw [e1, e2]
    clear e1 e2 hn hm hp
    exact (if_pos (by omega)).trans ((if_pos (by omega)).trans ((if_pos (by omega)).trans hX))
theorem num_run (l : List Int) (hb : Byt8 l) (hl : l.length ≤ 4) (K : Nat) (hK : 5 ≤ K) : duffelref02_Num.f K l = some (num l) := by
  unfold duffelref02_Num.f
  rw [w64i _ (by omega) (by omega)]
  have h := num_l0 l hb hl l.length K (Nat.le_refl _) (by omega)
  rw [List.drop_length] at h
  exact h
/-- the last place below n at which P holds; -1: none -/
def lastB (P : Nat → Bool) : Nat → Int
  | 0 => -1
  | n + 1 => if P n = true then (n : Int) else lastB P n
theorem lastB_lt (P : Nat → Bool) (n : Nat) : -1 ≤ lastB P n ∧ lastB P n < n := by
  induction n with
  | zero => simp [lastB]
  | succ n ih =>
    simp only [lastB]
    split
    · omega
    · omega
theorem lastB_neg {P : Nat → Bool} {n : Nat} (h : lastB P n < 0) : ∀ i, i < n → P i = false := by
  induction n with
  | zero => intro i hi; omega
  | succ n ih =>
    simp only [lastB] at h
    split at h
    · omega
    · rename_i hp
      intro i hi
      rcases Nat.lt_or_ge i n with h1 | h1
      · exact ih h i h1
      · obtain rfl : i = n := by omega
        exact Bool.eq_false_iff.mpr hp
theorem lastB_none {P : Nat → Bool} {n : Nat} (h : ∀ i, i < n → P i = false) : lastB P n = -1 := by
  induction n with
  | zero => rfl
  | succ n ih =>
    simp only [lastB]
    rw [if_neg (by rw [h n (by omega)]; decide)]
    exact ih (fun i hi => h i (by omega))
theorem lastB_at {P : Nat → Bool} {n t : Nat} (h : lastB P n = (t : Int)) : t < n ∧ P t = true ∧ ∀ i, t < i → i < n → P i = false := by
  induction n with
  | zero => simp only [lastB] at h; omega
  | succ n ih =>
    simp only [lastB] at h
    split at h
    · rename_i hp
      obtain rfl : n = t := by omega
      exact ⟨by omega, hp, fun i h1 h2 => by omega⟩
    · rename_i hp
      obtain ⟨h1, h2, h3⟩ := ih h
      refine ⟨by omega, h2, fun i h4 h5 => ?_⟩
      rcases Nat.lt_or_ge i n with h6 | h6
      · exact h3 i h4 h6
      · obtain rfl : i = n := by omega
        exact Bool.eq_false_iff.mpr hp
theorem lastB_skip {P : Nat → Bool} {n t : Nat} (ht : t ≤ n) (h : ∀ i, t ≤ i → i < n → P i = false) : lastB P n = lastB P t := by
  induction n with
  | zero => obtain rfl : t = 0 := by omega
            rfl
  | succ n ih =>
    rcases Nat.lt_or_ge t (n + 1) with h1 | h1
    · simp only [lastB]
      rw [if_neg (by rw [h n (by omega) (by omega)]; decide)]
      exact ih (by omega) (fun i h2 h3 => h i h2 (by omega))
    · obtain rfl : t = n + 1 := by omega
      rfl
end Go.Proofs.Ytpmiofjhgmdghaa.RQR
