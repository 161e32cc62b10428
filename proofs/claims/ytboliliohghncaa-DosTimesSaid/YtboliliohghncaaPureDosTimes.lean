/- DosTimes, the plain law: Pack, Check, Days are as the reference has them. No conditions. -/
import Derived.Test.YtboliliohghncaaPDosTimesx5
namespace Go.Proofs.Ytboliliohghncaa.Pure
open Go.RowKit Go.Proofs.Ytboliliohghncaa.PDosTimes Go.Proofs.YtboliliohghncaaW.PrintWords Go.Proofs.YtboliliohghncaaW.PrintLast

def mdays (y m : Int) : Int := if m = 2 then (if y % 4 = 0 ∧ y ≠ 2100 then 29 else 28) else if m = 4 ∨ m = 6 ∨ m = 9 ∨ m = 11 then 30 else 31

def okStamp (y m d h mi s : Int) : Prop := 1980 ≤ y ∧ y ≤ 2107 ∧ 1 ≤ m ∧ m ≤ 12 ∧ 1 ≤ d ∧ d ≤ mdays y m ∧ 0 ≤ h ∧ h ≤ 23 ∧ 0 ≤ mi ∧ mi ≤ 59 ∧ 0 ≤ s ∧ s ≤ 58 ∧ s % 2 = 0

instance (y m d h mi s : Int) : Decidable (okStamp y m d h mi s) := by unfold okStamp; infer_instance

theorem wraps_i64 (j : Nat) (hj : j ≤ 62) (n : Int) (h0 : 0 ≤ n) (h1 : n < 2 ^ j) : IntKind.i64.wrap n = n := by
  have hp : (2 : Int) ^ j ≤ 2 ^ 62 := by
    have := Nat.pow_le_pow_right (show 0 < 2 by decide) hj
    exact_mod_cast this
  rw [IntKind.wrap_i64]; omega

theorem mask (i j : Nat) (hi : i ≤ j) (hj : j ≤ 62) (x : Int) (h0 : 0 ≤ x) (h1 : x < 2 ^ j) : Go.bits .and .i64 x (2 ^ i - 1) = x % 2 ^ i :=
  bits_mask .i64 j (by show j ≤ 64; omega) (fun n => wraps_i64 j hj n) i hi x h0 h1

theorem join (i j : Nat) (hj : j ≤ 62) (x y : Int) (hx0 : 0 ≤ x) (hx : x % 2 ^ i = 0) (hx1 : x < 2 ^ j) (hy0 : 0 ≤ y) (hy : y < 2 ^ i) (hy1 : y < 2 ^ j) : Go.bits .or .i64 x y = x + y :=
  bits_join .i64 j (by show j ≤ 64; omega) (fun n => wraps_i64 j hj n) i x y hx0 hx hx1 hy0 hy hy1

theorem days_eq (y m : Int) (hy : 0 ≤ y) : dos_days.f y m = some (mdays y m) := by
  unfold dos_days.f dos_leap.f mdays
  rw [Int.tmod_eq_emod_of_nonneg hy]
  by_cases h2 : m = 2
  · rw [if_pos h2, if_pos h2]
    by_cases h4 : y % 4 = 0
    · by_cases h5 : y = 2100
      · simp [h5]
      · simp [h4, h5]
    · simp [h4]
  · rw [if_neg h2, if_neg h2]
    by_cases a : m = 4
    · simp [a]
    by_cases b : m = 6
    · simp [b]
    by_cases c : m = 9
    · simp [c]
    by_cases d : m = 11
    · simp [d]
    simp [a, b, c, d]

theorem check_eq (k : Nat) (y m d h mi s : Int) : dos_Check.f (k + 2) y m d h mi s = some (if okStamp y m d h mi s then 0 else 17) := by
  have no : ∀ {p : Prop} [Decidable p], ¬ p → some (17 : Int) = some (if p then 0 else 17) := fun h => by rw [if_neg h]
  unfold dos_Check.f
  by_cases c1 : y < 1980
  · rw [if_pos c1]; simp only [dos_Check.j0, if_true]; exact no (by unfold okStamp; omega)
  rw [if_neg c1]
  by_cases c2 : y > 2107
  · rw [if_pos c2]; simp only [dos_Check.j0, if_true]; exact no (by unfold okStamp; omega)
  rw [if_neg c2]
  by_cases c3 : m < 1
  · rw [if_pos c3]; simp only [dos_Check.j0, if_true]; exact no (by unfold okStamp; omega)
  rw [if_neg c3]
  simp only [dos_Check.j0]
  by_cases c4 : m > 12
  · rw [if_pos (by simpa using c4)]; exact no (by unfold okStamp; omega)
  rw [if_neg (by simpa using c4)]
  by_cases c5 : d < 1
  · rw [if_pos c5]; simp only [dos_Check.j1, if_true]; exact no (by unfold okStamp; omega)
  rw [if_neg c5, days_eq y m (by omega)]
  simp only [Option.bind_some, dos_Check.j1]
  by_cases c6 : d > mdays y m
  · rw [if_pos (by simpa using c6)]; exact no (by unfold okStamp; omega)
  rw [if_neg (by simpa using c6)]
  by_cases c7 : h < 0
  · rw [if_pos c7]; exact no (by unfold okStamp; omega)
  rw [if_neg c7]
  by_cases c8 : h > 23
  · rw [if_pos c8]; exact no (by unfold okStamp; omega)
  rw [if_neg c8]
  by_cases c9 : mi < 0
  · rw [if_pos c9]; exact no (by unfold okStamp; omega)
  rw [if_neg c9]
  by_cases c10 : mi > 59
  · rw [if_pos c10]; exact no (by unfold okStamp; omega)
  rw [if_neg c10]
  by_cases c11 : s < 0
  · rw [if_pos c11]; exact no (by unfold okStamp; omega)
  rw [if_neg c11]
  by_cases c12 : s > 58
  · rw [if_pos c12]; exact no (by unfold okStamp; omega)
  rw [if_neg c12]
  have hm : Go.bits .and .i64 s 1 = s % 2 := mask 1 16 (by decide) (by decide) s (by omega) (by omega)
  rw [hm]
  by_cases c13 : s % 2 = 1
  · rw [if_pos c13]; exact no (by unfold okStamp; omega)
  rw [if_neg c13, if_pos (by unfold okStamp; omega)]

theorem month_eq (y m : Int) (hy : 0 ≤ y) (h1 : 1 ≤ m) (h2 : m ≤ 12) : duffelref22_Month.f y m = some (mdays y m) := by
  unfold duffelref22_Month.f mdays
  rw [Int.tmod_eq_emod_of_nonneg hy]
  have w1 : wrap64 (m - 1) = m - 1 := by unfold wrap64; omega
  rw [w1]
  have hm : m = 1 ∨ m = 2 ∨ m = 3 ∨ m = 4 ∨ m = 5 ∨ m = 6 ∨ m = 7 ∨ m = 8 ∨ m = 9 ∨ m = 10 ∨ m = 11 ∨ m = 12 := by omega
  rcases hm with rfl | rfl | rfl | rfl | rfl | rfl | rfl | rfl | rfl | rfl | rfl | rfl
  case inr.inl =>
    by_cases h4 : y % 4 = 0
    · by_cases h5 : y = 2100
      · simp [h5, rd]
      · simp [h4, h5]
    · simp [h4, rd]
  all_goals simp [rd]

theorem is_eq (k : Nat) (y m d h mi s : Int) : duffelref22_Is.f (k + 1) y m d h mi s = some (decide (okStamp y m d h mi s)) := by
  have no : ∀ {p : Prop} [Decidable p], ¬ p → some false = some (decide p) := fun h => by rw [decide_eq_false h]
  unfold duffelref22_Is.f
  by_cases c1 : y < 1980
  · rw [if_pos c1]; simp only [duffelref22_Is.j0, if_true]; exact no (by unfold okStamp; omega)
  rw [if_neg c1]
  by_cases c2 : y > 2107
  · rw [if_pos c2]; simp only [duffelref22_Is.j0, if_true]; exact no (by unfold okStamp; omega)
  rw [if_neg c2]
  by_cases c3 : m < 1
  · rw [if_pos c3]; simp only [duffelref22_Is.j0, if_true]; exact no (by unfold okStamp; omega)
  rw [if_neg c3]
  simp only [duffelref22_Is.j0]
  by_cases c4 : m > 12
  · rw [if_pos (by simpa using c4)]; exact no (by unfold okStamp; omega)
  rw [if_neg (by simpa using c4)]
  by_cases c5 : d < 1
  · rw [if_pos c5]; exact no (by unfold okStamp; omega)
  rw [if_neg c5, month_eq y m (by omega) (by omega) (by omega)]
  simp only [Option.bind_some]
  by_cases c6 : d > mdays y m
  · rw [if_pos c6]; exact no (by unfold okStamp; omega)
  rw [if_neg c6]
  by_cases c7 : 0 ≤ h
  case neg => rw [if_neg c7]; exact no (by unfold okStamp; omega)
  rw [if_pos c7]
  by_cases c8 : h ≤ 23
  case neg => rw [if_neg c8]; exact no (by unfold okStamp; omega)
  rw [if_pos c8]
  by_cases c9 : 0 ≤ mi
  case neg => rw [if_neg c9]; exact no (by unfold okStamp; omega)
  rw [if_pos c9]
  by_cases c10 : mi ≤ 59
  case neg => rw [if_neg c10]; exact no (by unfold okStamp; omega)
  rw [if_pos c10]
  by_cases c11 : 0 ≤ s
  case neg => rw [if_neg c11]; exact no (by unfold okStamp; omega)
  rw [if_pos c11]
  by_cases c12 : s ≤ 58
  case neg => rw [if_neg c12]; exact no (by unfold okStamp; omega)
  rw [if_pos c12, Int.tmod_eq_emod_of_nonneg c11]
  by_cases c13 : s % 2 = 0
  · rw [decide_eq_true (by unfold okStamp; omega)]; simp [c13]
  · rw [decide_eq_false (by unfold okStamp; omega)]; simp [c13]

theorem mdays_le (y m : Int) : 28 ≤ mdays y m ∧ mdays y m ≤ 31 := by
  unfold mdays; split
  · split <;> omega
  · split <;> omega

theorem pack_ok (k : Nat) (y m d h mi s : Int) (ok : okStamp y m d h mi s) : dos_Pack.f (k + 2) y m d h mi s = some (h * 2048 + mi * 32 + s / 2, (y - 1980) * 512 + m * 32 + d, 0) := by
  unfold dos_Pack.f
  rw [check_eq k, if_pos ok]
  simp only [Option.bind_some, if_true]
  have hd := mdays_le y m
  obtain ⟨a1, a2, a3, a4, a5, a6, a7, a8, a9, a10, a11, a12, a13⟩ := ok
  have e1 : wrap64 (h * 2048) = h * 2048 := by unfold wrap64; omega
  have e2 : wrap64 (mi * 32) = mi * 32 := by unfold wrap64; omega
  have e3 : wrap64 (y - 1980) = y - 1980 := by unfold wrap64; omega
  have e5 : wrap64 (m * 32) = m * 32 := by unfold wrap64; omega
  have e4 : wrap64 ((y - 1980) * 512) = (y - 1980) * 512 := by unfold wrap64; omega
  rw [e1, e2, e3, e4, e5]
  have o1 : Go.bits .or .i64 (h * 2048) (mi * 32) = h * 2048 + mi * 32 := join 11 20 (by decide) _ _ (by omega) (by omega) (by omega) (by omega) (by omega) (by omega)
  have o2 : Go.bits .or .i64 (h * 2048 + mi * 32) (s / 2) = h * 2048 + mi * 32 + s / 2 := join 5 20 (by decide) _ _ (by omega) (by omega) (by omega) (by omega) (by omega) (by omega)
  have o3 : Go.bits .or .i64 ((y - 1980) * 512) (m * 32) = (y - 1980) * 512 + m * 32 := join 9 20 (by decide) _ _ (by omega) (by omega) (by omega) (by omega) (by omega) (by omega)
  have o4 : Go.bits .or .i64 ((y - 1980) * 512 + m * 32) d = (y - 1980) * 512 + m * 32 + d := join 5 20 (by decide) _ _ (by omega) (by omega) (by omega) (by omega) (by omega) (by omega)
  rw [o1, o2, o3, o4]

theorem pack_no (k : Nat) (y m d h mi s : Int) (ok : ¬ okStamp y m d h mi s) : dos_Pack.f (k + 2) y m d h mi s = some (0, 0, 17) := by
  unfold dos_Pack.f
  rw [check_eq k, if_neg ok]
  rfl

theorem lives_ok (k : Nat) : duffellaw22_lives.f (k + 2) = some true := by
  unfold duffellaw22_lives.f dos_Pack.f
  rw [check_eq k, if_pos (by decide)]
  decide +kernel

theorem refpack_ok (k : Nat) (y m d h mi s : Int) (ok : okStamp y m d h mi s) : duffelref22_Pack.f (k + 1) y m d h mi s = some (h * 2048 + mi * 32 + s / 2, (y - 1980) * 512 + m * 32 + d, 0) := by
  unfold duffelref22_Pack.f
  rw [is_eq k, decide_eq_true ok]
  simp only [Option.bind_some, if_true]
  have hd := mdays_le y m
  obtain ⟨a1, a2, a3, a4, a5, a6, a7, a8, a9, a10, a11, a12, a13⟩ := ok
  rw [Int.tdiv_eq_ediv_of_nonneg a11]
  have e1 : wrap64 (2048 * h) = 2048 * h := by unfold wrap64; omega
  have e2 : wrap64 (32 * mi) = 32 * mi := by unfold wrap64; omega
  have e3 : wrap64 (y - 1980) = y - 1980 := by unfold wrap64; omega
  have e5 : wrap64 (32 * m) = 32 * m := by unfold wrap64; omega
  have e4 : wrap64 (512 * (y - 1980)) = 512 * (y - 1980) := by unfold wrap64; omega
  have e6 : wrap64 (s / 2) = s / 2 := by unfold wrap64; omega
  rw [e1, e2, e3, e4, e5, e6]
  have e7 : wrap64 (2048 * h + 32 * mi) = 2048 * h + 32 * mi := by unfold wrap64; omega
  have e8 : wrap64 (512 * (y - 1980) + 32 * m) = 512 * (y - 1980) + 32 * m := by unfold wrap64; omega
  rw [e7, e8]
  have e9 : wrap64 (2048 * h + 32 * mi + s / 2) = h * 2048 + mi * 32 + s / 2 := by unfold wrap64; omega
  have e10 : wrap64 (512 * (y - 1980) + 32 * m + d) = (y - 1980) * 512 + m * 32 + d := by unfold wrap64; omega
  rw [e9, e10]

theorem refpack_no (k : Nat) (y m d h mi s : Int) (ok : ¬ okStamp y m d h mi s) : duffelref22_Pack.f (k + 1) y m d h mi s = some (0, 0, 17) := by
  unfold duffelref22_Pack.f
  rw [is_eq k, decide_eq_false ok]
  rfl

theorem months_same (y m d h mi s : Int) (hy : 0 ≤ y) (hm : m ≤ 12) (n : Nat) : ∀ (k k' : Nat) (acc x : Int), 1 ≤ x → x ≤ m → m - x = n → n < k → n < k' →
    ∃ r, dos_Days.l0 k acc x y m d h mi s = some r ∧ duffelref22_Days.l1 k' acc x y m d h mi s = some r := by
  induction n with
  | zero =>
    intro k k' acc x h1 h2 hd hk hk'
    obtain ⟨k, rfl⟩ : ∃ j, k = j + 1 := ⟨k - 1, by omega⟩
    obtain ⟨k', rfl⟩ : ∃ j, k' = j + 1 := ⟨k' - 1, by omega⟩
    simp only [dos_Days.l0, duffelref22_Days.l1]
    rw [if_neg (by omega), if_neg (by omega)]
    exact ⟨_, rfl, rfl⟩
  | succ n ih =>
    intro k k' acc x h1 h2 hd hk hk'
    obtain ⟨k, rfl⟩ : ∃ j, k = j + 1 := ⟨k - 1, by omega⟩
    obtain ⟨k', rfl⟩ : ∃ j, k' = j + 1 := ⟨k' - 1, by omega⟩
    simp only [dos_Days.l0, duffelref22_Days.l1]
    rw [if_pos (by omega), if_pos (by omega), days_eq y x hy, month_eq y x hy h1 (by omega)]
    simp only [Option.bind_some]
    have w : wrap64 (x + 1) = x + 1 := by unfold wrap64; omega
    rw [w]
    exact ih k k' _ (x + 1) (by omega) (by omega) (by omega) (by omega) (by omega)

def upto (y : Int) : Int := 365 * (y - 1980) + (y - 1980 + 3) / 4 - (if y > 2100 then 1 else 0)

theorem upto_succ (x : Int) : upto (x + 1) = upto x + 337 + mdays x 2 := by
  have hm : mdays x 2 = if x % 4 = 0 ∧ x ≠ 2100 then 29 else 28 := by unfold mdays; rw [if_pos rfl]
  rw [hm]
  unfold upto
  by_cases a : x % 4 = 0
  · by_cases b : x = 2100
    · subst b; decide
    · rw [if_pos (show x % 4 = 0 ∧ x ≠ 2100 from ⟨a, b⟩)]
      by_cases c : x > 2100
      · rw [if_pos c, if_pos (show x + 1 > 2100 by omega)]; omega
      · rw [if_neg c, if_neg (show ¬ x + 1 > 2100 by omega)]; omega
  · rw [if_neg (show ¬ (x % 4 = 0 ∧ x ≠ 2100) from fun q => a q.1)]
    by_cases c : x > 2100
    · rw [if_pos c, if_pos (show x + 1 > 2100 by omega)]; omega
    · rw [if_neg c, if_neg (show ¬ x + 1 > 2100 by omega)]; omega

theorem upto_bd (x : Int) (h : 1980 ≤ x) (h' : x ≤ 2107) : 0 ≤ upto x ∧ upto x ≤ 100000 := by
  unfold upto; split <;> omega

theorem years (y m d h mi s : Int) (hy : y ≤ 2107) (r : Int) (K : Nat) (H : ∀ k, K ≤ k → duffelref22_Days.l1 k (upto y) 1 y m d h mi s = some r) (n : Nat) : ∀ (k : Nat) (x : Int), 1980 ≤ x → x ≤ y → y - x = n → n + K < k →
    duffelref22_Days.l0 k (upto x) x y m d h mi s = some r := by
  induction n with
  | zero =>
    intro k x h1 h2 hd hk
    obtain ⟨k, rfl⟩ : ∃ j, k = j + 1 := ⟨k - 1, by omega⟩
    simp only [duffelref22_Days.l0]
    rw [if_neg (by omega)]
    obtain rfl : x = y := by omega
    exact H k (by omega)
  | succ n ih =>
    intro k x h1 h2 hd hk
    obtain ⟨k, rfl⟩ : ∃ j, k = j + 1 := ⟨k - 1, by omega⟩
    simp only [duffelref22_Days.l0]
    rw [if_pos (by omega), month_eq x 2 (by omega) (by decide) (by decide)]
    simp only [Option.bind_some]
    have hb := upto_bd x h1 (by omega)
    have hm := mdays_le x 2
    have hs := upto_succ x
    have w : wrap64 (x + 1) = x + 1 := by unfold wrap64; omega
    have w1 : wrap64 (upto x + 337) = upto x + 337 := by unfold wrap64; omega
    have w2 : wrap64 (upto x + 337 + mdays x 2) = upto (x + 1) := by rw [hs]; unfold wrap64; omega
    rw [w, w1, w2]
    exact ih k (x + 1) (by omega) (by omega) (by omega) (by omega)

theorem days_same (y m d h mi s : Int) : ∃ K r, ∀ k, K ≤ k → dos_Days.f k y m d h mi s = some r ∧ duffelref22_Days.f k y m d h mi s = some r := by
  by_cases ok : okStamp y m d h mi s
  · have ok' := ok
    obtain ⟨a1, a2, a3, a4, a5, a6, a7, a8, a9, a10, a11, a12, a13⟩ := ok
    obtain ⟨r, hr, _⟩ := months_same y m d h mi s (by omega) a4 (m - 1).toNat ((m - 1).toNat + 1) ((m - 1).toNat + 1) (upto y) 1 (by omega) a3 (by omega) (by omega) (by omega)
    have hl : ∀ k, 12 ≤ k → dos_Days.l0 k (upto y) 1 y m d h mi s = some r ∧ duffelref22_Days.l1 k (upto y) 1 y m d h mi s = some r := by
      intro k hk
      obtain ⟨r1, p1, p2⟩ := months_same y m d h mi s (by omega) a4 (m - 1).toNat ((m - 1).toNat + 1) k (upto y) 1 (by omega) a3 (by omega) (by omega) (by omega)
      obtain ⟨r2, p3, p4⟩ := months_same y m d h mi s (by omega) a4 (m - 1).toNat k k (upto y) 1 (by omega) a3 (by omega) (by omega) (by omega)
      rw [hr] at p1
      obtain rfl := Option.some.inj p1
      rw [p2] at p4
      obtain rfl := Option.some.inj p4
      exact ⟨p3, p2⟩
    refine ⟨200, r, fun k hk => ⟨?_, ?_⟩⟩
    · obtain ⟨k, rfl⟩ : ∃ j, k = j + 2 := ⟨k - 2, by omega⟩
      unfold dos_Days.f
      rw [check_eq k, if_pos ok']
      simp only [Option.bind_some, if_true]
      have e3 : wrap64 (y - 1980) = y - 1980 := by unfold wrap64; omega
      rw [e3]
      have e4 : wrap64 (365 * (y - 1980)) = 365 * (y - 1980) := by unfold wrap64; omega
      have e5 : wrap64 (y - 1980 + 3) = y - 1980 + 3 := by unfold wrap64; omega
      rw [e4, e5, Int.tdiv_eq_ediv_of_nonneg (by omega)]
      have e6 : wrap64 ((y - 1980 + 3) / 4) = (y - 1980 + 3) / 4 := by unfold wrap64; omega
      rw [e6]
      have e7 : wrap64 (365 * (y - 1980) + (y - 1980 + 3) / 4) = 365 * (y - 1980) + (y - 1980 + 3) / 4 := by unfold wrap64; omega
      rw [e7]
      by_cases c : y > 2100
      · rw [if_pos c]
        have e8 : wrap64 (365 * (y - 1980) + (y - 1980 + 3) / 4 - 1) = upto y := by unfold wrap64 upto; rw [if_pos c]; omega
        rw [e8]
        simp only [dos_Days.j0]
        exact (hl _ (by omega)).1
      · rw [if_neg c]
        have e8 : 365 * (y - 1980) + (y - 1980 + 3) / 4 = upto y := by unfold upto; rw [if_neg c]; omega
        rw [e8]
        simp only [dos_Days.j0]
        exact (hl _ (by omega)).1
    · obtain ⟨k, rfl⟩ : ∃ j, k = j + 1 := ⟨k - 1, by omega⟩
      unfold duffelref22_Days.f
      rw [is_eq k, decide_eq_true ok']
      simp only [Option.bind_some, if_true]
      have h0 : upto 1980 = 0 := by decide
      rw [← h0]
      exact years y m d h mi s a2 r 12 (fun k hk => (hl k hk).2) (y - 1980).toNat (k + 1) 1980 (by omega) a1 (by omega) (by omega)
  · refine ⟨2, -1, fun k hk => ?_⟩
    obtain ⟨k, rfl⟩ : ∃ j, k = j + 2 := ⟨k - 2, by omega⟩
    unfold dos_Days.f duffelref22_Days.f
    rw [check_eq k, if_neg ok, is_eq (k + 1), decide_eq_false ok]
    exact ⟨rfl, rfl⟩

theorem times_ok (y m d h mi s : Int) : ∃ k, duffellaw22_DosTimes.f k y m d h mi s = some true := by
  obtain ⟨K, r, H⟩ := days_same y m d h mi s
  refine ⟨K + 2, ?_⟩
  obtain ⟨h1, h2⟩ := H (K + 2) (by omega)
  unfold duffellaw22_DosTimes.f
  rw [h1, h2, check_eq K, lives_ok K]
  by_cases ok : okStamp y m d h mi s
  · rw [pack_ok K _ _ _ _ _ _ ok, refpack_ok (K + 1) _ _ _ _ _ _ ok, if_pos ok]
    simp
  · rw [pack_no K _ _ _ _ _ _ ok, refpack_no (K + 1) _ _ _ _ _ _ ok, if_neg ok]
    simp


end Go.Proofs.Ytboliliohghncaa.Pure
