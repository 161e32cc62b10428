/- Plain words on dates: which times are, their two numbers, how many days are over; the order of times; the day after. -/
import Derived.Test.YtboliliohghncaaWMore
namespace Go.Proofs.Ytboliliohghncaa.Dy
def mdays (y m : Int) : Int := if m = 2 then (if y % 4 = 0 ∧ y ≠ 2100 then 29 else 28) else if m = 4 ∨ m = 6 ∨ m = 9 ∨ m = 11 then 30 else 31
def okStamp (y m d h mi s : Int) : Prop := 1980 ≤ y ∧ y ≤ 2107 ∧ 1 ≤ m ∧ m ≤ 12 ∧ 1 ≤ d ∧ d ≤ mdays y m ∧ 0 ≤ h ∧ h ≤ 23 ∧ 0 ≤ mi ∧ mi ≤ 59 ∧ 0 ≤ s ∧ s ≤ 58 ∧ s % 2 = 0
instance (y m d h mi s : Int) : Decidable (okStamp y m d h mi s) := by unfold okStamp; infer_instance
theorem mdays_le (y m : Int) : 28 ≤ mdays y m ∧ mdays y m ≤ 31 := by
  unfold mdays; split
  · split <;> omega
  · split <;> omega
def upto (y : Int) : Int := 365 * (y - 1980) + (y - 1980 + 3) / 4 - (if y > 2100 then 1 else 0)
theorem upto_succ (x : Int) : upto (x + 1) = upto x + 337 + mdays x 2 := by
  have hm : mdays x 2 = if x % 4 = 0 ∧ x ≠ 2100 then 29 else 28 := by unfold mdays; rw [if_pos rfl]
  rw [hm]
  unfold upto
  by_cases a : x % 4 = 0
  · by_cases b : x = 2100
    · subst b; decide
    · rw [if_pos (show x % 4 = 0 ∧ x ≠ 2100 from ⟨a, b⟩)]
      by_cases c : x > 2100
      · rw [if_pos c, if_pos (show x + 1 > 2100 by omega)]; omega
      · rw [if_neg c, if_neg (show ¬ x + 1 > 2100 by omega)]; omega
  · rw [if_neg (show ¬ (x % 4 = 0 ∧ x ≠ 2100) from fun q => a q.1)]
    by_cases c : x > 2100
    · rw [if_pos c, if_pos (show x + 1 > 2100 by omega)]; omega
    · rw [if_neg c, if_neg (show ¬ x + 1 > 2100 by omega)]; omega
theorem upto_bd (x : Int) (h : 1980 ≤ x) (h' : x ≤ 2107) : 0 ≤ upto x ∧ upto x ≤ 100000 := by
  unfold upto; split <;> omega
/-- the days of the first n months -/
def cum (y : Int) : Nat → Int
  | 0 => 0
  | n + 1 => cum y n + mdays y ((n + 1 : Nat) : Int)
theorem cum_bd (y : Int) : ∀ n, 0 ≤ cum y n ∧ cum y n ≤ 31 * n
  | 0 => by simp [cum]
  | n + 1 => by
    have h := cum_bd y n
    have hm := mdays_le y ((n + 1 : Nat) : Int)
    unfold cum; omega
theorem cum_mono (y : Int) (a : Nat) : ∀ b, a ≤ b → cum y a ≤ cum y b
  | 0, h => by obtain rfl : a = 0 := by omega
               exact Int.le_refl _
  | b + 1, h => by
    by_cases e : a = b + 1
    · subst e; exact Int.le_refl _
    · have := cum_mono y a b (by omega)
      have hm := mdays_le y ((b + 1 : Nat) : Int)
      show cum y a ≤ cum y b + mdays y ((b + 1 : Nat) : Int)
      omega
theorem cum_year (y : Int) : cum y 12 = 337 + mdays y 2 := by
  simp only [cum]
  simp only [show ((0 + 1 : Nat) : Int) = 1 from rfl, show ((1 + 1 : Nat) : Int) = 2 from rfl, show ((2 + 1 : Nat) : Int) = 3 from rfl, show ((3 + 1 : Nat) : Int) = 4 from rfl, show ((4 + 1 : Nat) : Int) = 5 from rfl, show ((5 + 1 : Nat) : Int) = 6 from rfl, show ((6 + 1 : Nat) : Int) = 7 from rfl,
    show ((7 + 1 : Nat) : Int) = 8 from rfl, show ((8 + 1 : Nat) : Int) = 9 from rfl, show ((9 + 1 : Nat) : Int) = 10 from rfl, show ((10 + 1 : Nat) : Int) = 11 from rfl, show ((11 + 1 : Nat) : Int) = 12 from rfl]
  have e1 : mdays y 1 = 31 := rfl
  have e3 : mdays y 3 = 31 := rfl
  have e4 : mdays y 4 = 30 := rfl
  have e5 : mdays y 5 = 31 := rfl
  have e6 : mdays y 6 = 30 := rfl
  have e7 : mdays y 7 = 31 := rfl
  have e8 : mdays y 8 = 31 := rfl
  have e9 : mdays y 9 = 30 := rfl
  have e10 : mdays y 10 = 31 := rfl
  have e11 : mdays y 11 = 30 := rfl
  have e12 : mdays y 12 = 31 := rfl
  omega
def dayN (y m d : Int) : Int := upto y + cum y (m - 1).toNat + d - 1
theorem dayN_bd {y m d h mi s : Int} (ok : okStamp y m d h mi s) : 0 ≤ dayN y m d ∧ dayN y m d ≤ 200000 := by
  obtain ⟨a1, a2, a3, a4, a5, a6, _⟩ := ok
  have := upto_bd y a1 a2
  have := cum_bd y (m - 1).toNat
  have := mdays_le y m
  unfold dayN; omega
theorem cum_month (y m d : Int) (h1 : 1 ≤ m) (h2 : m ≤ 12) (hd : d ≤ mdays y m) : cum y (m - 1).toNat + d ≤ cum y m.toNat := by
  obtain ⟨n, rfl⟩ : ∃ n : Nat, m = ((n + 1 : Nat) : Int) := ⟨(m - 1).toNat, by omega⟩
  have e1 : (((n + 1 : Nat) : Int) - 1).toNat = n := by omega
  have e2 : (((n + 1 : Nat) : Int)).toNat = n + 1 := by omega
  rw [e1, e2]
  show _ ≤ cum y n + mdays y ((n + 1 : Nat) : Int)
  omega
theorem upto_mono (a : Int) : ∀ n : Nat, upto a ≤ upto (a + n)
  | 0 => by simp
  | n + 1 => by
    have := upto_mono a n
    have h := upto_succ (a + n)
    have hm := mdays_le (a + n) 2
    have e : a + ((n + 1 : Nat) : Int) = a + n + 1 := by omega
    rw [e]; omega
/-- earlier dates have no more days over -/
theorem day_mono {y m d h mi s y' m' d' h' mi' s' : Int} (ok : okStamp y m d h mi s) (ok' : okStamp y' m' d' h' mi' s') (hl : y < y' ∨ y = y' ∧ (m < m' ∨ m = m' ∧ d ≤ d')) : dayN y m d ≤ dayN y' m' d' := by
  obtain ⟨a1, a2, a3, a4, a5, a6, _⟩ := ok
  obtain ⟨b1, b2, b3, b4, b5, b6, _⟩ := ok'
  have c1 := cum_month y m d a3 a4 a6
  rcases hl with hl | ⟨rfl, hl⟩
  · have c2 := cum_mono y m.toNat 12 (by omega)
    have c3 := cum_year y
    have c4 := upto_succ y
    have c5 := upto_mono (y + 1) (y' - (y + 1)).toNat
    have e : y + 1 + ((y' - (y + 1)).toNat : Int) = y' := by omega
    rw [e] at c5
    have c6 := cum_bd y' (m' - 1).toNat
    unfold dayN; omega
  · rcases hl with hl | ⟨rfl, hl⟩
    · have c2 := cum_mono y m.toNat (m' - 1).toNat (by omega)
      unfold dayN; omega
    · unfold dayN; omega
/-- the day after -/
theorem next_month {y m : Int} (h1 : 1 ≤ m) (h2 : m ≤ 11) : dayN y (m + 1) 1 = dayN y m (mdays y m) + 1 := by
  obtain ⟨n, rfl⟩ : ∃ n : Nat, m = ((n + 1 : Nat) : Int) := ⟨(m - 1).toNat, by omega⟩
  have e1 : (((n + 1 : Nat) : Int) - 1).toNat = n := by omega
  have e2 : (((n + 1 : Nat) : Int) + 1 - 1).toNat = n + 1 := by omega
  unfold dayN
  rw [e1, e2]
  show upto y + (cum y n + mdays y ((n + 1 : Nat) : Int)) + 1 - 1 = _
  omega
theorem next_year (y : Int) : dayN (y + 1) 1 1 = dayN y 12 31 + 1 := by
  have h := upto_succ y
  have hc := cum_year y
  have e12 : mdays y 12 = 31 := rfl
  have hc2 : cum y 12 = cum y 11 + mdays y 12 := rfl
  unfold dayN
  rw [show ((1 : Int) - 1).toNat = 0 from rfl, show ((12 : Int) - 1).toNat = 11 from rfl]
  have h0 : cum (y + 1) 0 = 0 := rfl
  omega
def lexB : List Int → List Int → Bool
  | x :: xs, y :: ys => if x = y then lexB xs ys else decide (x < y)
  | _, _ => false
/-- of two times: by their numbers, the date first -/
theorem lex_num {y m d h mi s y' m' d' h' mi' s' : Int} (ok : okStamp y m d h mi s) (ok' : okStamp y' m' d' h' mi' s') :
    lexB [y, m, d, h, mi, s] [y', m', d', h', mi', s'] = decide ((y - 1980) * 512 + m * 32 + d < (y' - 1980) * 512 + m' * 32 + d' ∨ ((y - 1980) * 512 + m * 32 + d = (y' - 1980) * 512 + m' * 32 + d' ∧ h * 2048 + mi * 32 + s / 2 < h' * 2048 + mi' * 32 + s' / 2)) := by
  have g := mdays_le y m
  have g' := mdays_le y' m'
  obtain ⟨a1, a2, a3, a4, a5, a6, a7, a8, a9, a10, a11, a12, a13⟩ := ok
  obtain ⟨b1, b2, b3, b4, b5, b6, b7, b8, b9, b10, b11, b12, b13⟩ := ok'
  have fin : ∀ {p q : Prop} [Decidable p] [Decidable q], (p ↔ q) → decide p = decide q := fun h => by rw [Bool.eq_iff_iff, decide_eq_true_iff, decide_eq_true_iff]; exact h
  simp only [lexB]
  by_cases e1 : y = y'
  · rw [if_pos e1]
    by_cases e2 : m = m'
    · rw [if_pos e2]
      by_cases e3 : d = d'
      · rw [if_pos e3]
        by_cases e4 : h = h'
        · rw [if_pos e4]
          by_cases e5 : mi = mi'
          · rw [if_pos e5]
            by_cases e6 : s = s'
            · rw [if_pos e6, decide_eq_false (by omega)]
            · rw [if_neg e6]; exact fin (by omega)
          · rw [if_neg e5]; exact fin (by omega)
        · rw [if_neg e4]; exact fin (by omega)
      · rw [if_neg e3]; exact fin (by omega)
    · rw [if_neg e2]; exact fin (by omega)
  · rw [if_neg e1]; exact fin (by omega)
/-- what is ahead has a date that is not behind -/
theorem lex_day {y m d h mi s y' m' d' h' mi' s' : Int} (hl : lexB [y, m, d, h, mi, s] [y', m', d', h', mi', s'] = true) : y < y' ∨ y = y' ∧ (m < m' ∨ m = m' ∧ d ≤ d') := by
  simp only [lexB] at hl
  by_cases e1 : y = y'
  · rw [if_pos e1] at hl
    by_cases e2 : m = m'
    · rw [if_pos e2] at hl
      by_cases e3 : d = d'
      · omega
      · rw [if_neg e3] at hl; have := of_decide_eq_true hl; omega
    · rw [if_neg e2] at hl; have := of_decide_eq_true hl; omega
  · rw [if_neg e1] at hl; have := of_decide_eq_true hl; omega
end Go.Proofs.Ytboliliohghncaa.Dy
