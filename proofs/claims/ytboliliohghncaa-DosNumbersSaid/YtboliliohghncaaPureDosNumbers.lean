/- DosNumbers: for any two numbers, what dos.Unpack answers is what the reference answers (and lives). No conditions beyond the row's own. -/
import Derived.Test.YtboliliohghncaaPDosNumbersx5
namespace Go.Proofs.Ytboliliohghncaa.Pure
open Go.RowKit Go.Proofs.Ytboliliohghncaa.PDosNumbers Go.Proofs.YtboliliohghncaaW.PrintWords Go.Proofs.YtboliliohghncaaW.PrintLast

def mdays (y m : Int) : Int := if m = 2 then (if y % 4 = 0 ∧ y ≠ 2100 then 29 else 28) else if m = 4 ∨ m = 6 ∨ m = 9 ∨ m = 11 then 30 else 31

def okStamp (y m d h mi s : Int) : Prop := 1980 ≤ y ∧ y ≤ 2107 ∧ 1 ≤ m ∧ m ≤ 12 ∧ 1 ≤ d ∧ d ≤ mdays y m ∧ 0 ≤ h ∧ h ≤ 23 ∧ 0 ≤ mi ∧ mi ≤ 59 ∧ 0 ≤ s ∧ s ≤ 58 ∧ s % 2 = 0

instance (y m d h mi s : Int) : Decidable (okStamp y m d h mi s) := by unfold okStamp; infer_instance

theorem wraps_i64 (j : Nat) (hj : j ≤ 62) (n : Int) (h0 : 0 ≤ n) (h1 : n < 2 ^ j) : IntKind.i64.wrap n = n := by
  have hp : (2 : Int) ^ j ≤ 2 ^ 62 := by
    have := Nat.pow_le_pow_right (show 0 < 2 by decide) hj
    exact_mod_cast this
  rw [IntKind.wrap_i64]; omega

theorem mask (i j : Nat) (hi : i ≤ j) (hj : j ≤ 62) (x : Int) (h0 : 0 ≤ x) (h1 : x < 2 ^ j) : Go.bits .and .i64 x (2 ^ i - 1) = x % 2 ^ i :=
  bits_mask .i64 j (by show j ≤ 64; omega) (fun n => wraps_i64 j hj n) i hi x h0 h1

theorem join (i j : Nat) (hj : j ≤ 62) (x y : Int) (hx0 : 0 ≤ x) (hx : x % 2 ^ i = 0) (hx1 : x < 2 ^ j) (hy0 : 0 ≤ y) (hy : y < 2 ^ i) (hy1 : y < 2 ^ j) : Go.bits .or .i64 x y = x + y :=
  bits_join .i64 j (by show j ≤ 64; omega) (fun n => wraps_i64 j hj n) i x y hx0 hx hx1 hy0 hy hy1

theorem days_eq (y m : Int) (hy : 0 ≤ y) : dos_days.f y m = some (mdays y m) := by
  unfold dos_days.f dos_leap.f mdays
  rw [Int.tmod_eq_emod_of_nonneg hy]
  by_cases h2 : m = 2
  · rw [if_pos h2, if_pos h2]
    by_cases h4 : y % 4 = 0
    · by_cases h5 : y = 2100
      · simp [h5]
      · simp [h4, h5]
    · simp [h4]
  · rw [if_neg h2, if_neg h2]
    by_cases a : m = 4
    · simp [a]
    by_cases b : m = 6
    · simp [b]
    by_cases c : m = 9
    · simp [c]
    by_cases d : m = 11
    · simp [d]
    simp [a, b, c, d]

theorem check_eq (k : Nat) (y m d h mi s : Int) : dos_Check.f (k + 2) y m d h mi s = some (if okStamp y m d h mi s then 0 else 17) := by
  have no : ∀ {p : Prop} [Decidable p], ¬ p → some (17 : Int) = some (if p then 0 else 17) := fun h => by rw [if_neg h]
  unfold dos_Check.f
  by_cases c1 : y < 1980
  · rw [if_pos c1]; simp only [dos_Check.j0, if_true]; exact no (by unfold okStamp; omega)
  rw [if_neg c1]
  by_cases c2 : y > 2107
  · rw [if_pos c2]; simp only [dos_Check.j0, if_true]; exact no (by unfold okStamp; omega)
  rw [if_neg c2]
  by_cases c3 : m < 1
  · rw [if_pos c3]; simp only [dos_Check.j0, if_true]; exact no (by unfold okStamp; omega)
  rw [if_neg c3]
  simp only [dos_Check.j0]
  by_cases c4 : m > 12
  · rw [if_pos (by simpa using c4)]; exact no (by unfold okStamp; omega)
  rw [if_neg (by simpa using c4)]
  by_cases c5 : d < 1
  · rw [if_pos c5]; simp only [dos_Check.j1, if_true]; exact no (by unfold okStamp; omega)
  rw [if_neg c5, days_eq y m (by omega)]
  simp only [Option.bind_some, dos_Check.j1]
  by_cases c6 : d > mdays y m
  · rw [if_pos (by simpa using c6)]; exact no (by unfold okStamp; omega)
  rw [if_neg (by simpa using c6)]
  by_cases c7 : h < 0
  · rw [if_pos c7]; exact no (by unfold okStamp; omega)
  rw [if_neg c7]
  by_cases c8 : h > 23
  · rw [if_pos c8]; exact no (by unfold okStamp; omega)
  rw [if_neg c8]
  by_cases c9 : mi < 0
  · rw [if_pos c9]; exact no (by unfold okStamp; omega)
  rw [if_neg c9]
  by_cases c10 : mi > 59
  · rw [if_pos c10]; exact no (by unfold okStamp; omega)
  rw [if_neg c10]
  by_cases c11 : s < 0
  · rw [if_pos c11]; exact no (by unfold okStamp; omega)
  rw [if_neg c11]
  by_cases c12 : s > 58
  · rw [if_pos c12]; exact no (by unfold okStamp; omega)
  rw [if_neg c12]
  have hm : Go.bits .and .i64 s 1 = s % 2 := mask 1 16 (by decide) (by decide) s (by omega) (by omega)
  rw [hm]
  by_cases c13 : s % 2 = 1
  · rw [if_pos c13]; exact no (by unfold okStamp; omega)
  rw [if_neg c13, if_pos (by unfold okStamp; omega)]

theorem month_eq (y m : Int) (hy : 0 ≤ y) (h1 : 1 ≤ m) (h2 : m ≤ 12) : duffelref22_Month.f y m = some (mdays y m) := by
  unfold duffelref22_Month.f mdays
  rw [Int.tmod_eq_emod_of_nonneg hy]
  have w1 : wrap64 (m - 1) = m - 1 := by unfold wrap64; omega
  rw [w1]
  have hm : m = 1 ∨ m = 2 ∨ m = 3 ∨ m = 4 ∨ m = 5 ∨ m = 6 ∨ m = 7 ∨ m = 8 ∨ m = 9 ∨ m = 10 ∨ m = 11 ∨ m = 12 := by omega
  rcases hm with rfl | rfl | rfl | rfl | rfl | rfl | rfl | rfl | rfl | rfl | rfl | rfl
  case inr.inl =>
    by_cases h4 : y % 4 = 0
    · by_cases h5 : y = 2100
      · simp [h5, rd]
      · simp [h4, h5]
    · simp [h4, rd]
  all_goals simp [rd]

theorem is_eq (k : Nat) (y m d h mi s : Int) : duffelref22_Is.f (k + 1) y m d h mi s = some (decide (okStamp y m d h mi s)) := by
  have no : ∀ {p : Prop} [Decidable p], ¬ p → some false = some (decide p) := fun h => by rw [decide_eq_false h]
  unfold duffelref22_Is.f
  by_cases c1 : y < 1980
  · rw [if_pos c1]; simp only [duffelref22_Is.j0, if_true]; exact no (by unfold okStamp; omega)
  rw [if_neg c1]
  by_cases c2 : y > 2107
  · rw [if_pos c2]; simp only [duffelref22_Is.j0, if_true]; exact no (by unfold okStamp; omega)
  rw [if_neg c2]
  by_cases c3 : m < 1
  · rw [if_pos c3]; simp only [duffelref22_Is.j0, if_true]; exact no (by unfold okStamp; omega)
  rw [if_neg c3]
  simp only [duffelref22_Is.j0]
  by_cases c4 : m > 12
  · rw [if_pos (by simpa using c4)]; exact no (by unfold okStamp; omega)
  rw [if_neg (by simpa using c4)]
  by_cases c5 : d < 1
  · rw [if_pos c5]; exact no (by unfold okStamp; omega)
  rw [if_neg c5, month_eq y m (by omega) (by omega) (by omega)]
  simp only [Option.bind_some]
  by_cases c6 : d > mdays y m
  · rw [if_pos c6]; exact no (by unfold okStamp; omega)
  rw [if_neg c6]
  by_cases c7 : 0 ≤ h
  case neg => rw [if_neg c7]; exact no (by unfold okStamp; omega)
  rw [if_pos c7]
  by_cases c8 : h ≤ 23
  case neg => rw [if_neg c8]; exact no (by unfold okStamp; omega)
  rw [if_pos c8]
  by_cases c9 : 0 ≤ mi
  case neg => rw [if_neg c9]; exact no (by unfold okStamp; omega)
  rw [if_pos c9]
  by_cases c10 : mi ≤ 59
  case neg => rw [if_neg c10]; exact no (by unfold okStamp; omega)
  rw [if_pos c10]
  by_cases c11 : 0 ≤ s
  case neg => rw [if_neg c11]; exact no (by unfold okStamp; omega)
  rw [if_pos c11]
  by_cases c12 : s ≤ 58
  case neg => rw [if_neg c12]; exact no (by unfold okStamp; omega)
  rw [if_pos c12, Int.tmod_eq_emod_of_nonneg c11]
  by_cases c13 : s % 2 = 0
  · rw [decide_eq_true (by unfold okStamp; omega)]; simp [c13]
  · rw [decide_eq_false (by unfold okStamp; omega)]; simp [c13]

theorem unpack_same (k : Nat) (x0 x1 : Int) : ∃ r, dos_Unpack.f (k + 3) x0 x1 = some r ∧ duffelref22_Unpack.f (k + 3) x0 x1 = some r := by
  unfold dos_Unpack.f duffelref22_Unpack.f
  by_cases c1 : x0 < 0
  · rw [if_pos c1, if_pos c1]; simp only [dos_Unpack.j0, duffelref22_Unpack.j0, if_true]; exact ⟨_, rfl, rfl⟩
  rw [if_neg c1, if_neg c1]
  by_cases c2 : x0 > 65535
  · rw [if_pos c2, if_pos c2]; simp only [dos_Unpack.j0, duffelref22_Unpack.j0, if_true]; exact ⟨_, rfl, rfl⟩
  rw [if_neg c2, if_neg c2]
  by_cases c3 : x1 < 0
  · rw [if_pos c3, if_pos c3]; simp only [dos_Unpack.j0, duffelref22_Unpack.j0, if_true]; exact ⟨_, rfl, rfl⟩
  rw [if_neg c3, if_neg c3]
  simp only [dos_Unpack.j0, duffelref22_Unpack.j0]
  by_cases c4 : x1 > 65535
  · rw [if_pos (by simpa using c4), if_pos (by simpa using c4)]; exact ⟨_, rfl, rfl⟩
  rw [if_neg (by simpa using c4), if_neg (by simpa using c4)]
  have e1 : wrap64 (x1 / 512 + 1980) = 1980 + x1 / 512 := by unfold wrap64; omega
  have e2 : Go.bits .and .i64 (x1 / 32) 15 = x1 / 32 % 16 := mask 4 16 (by decide) (by decide) _ (by omega) (by omega)
  have e3 : Go.bits .and .i64 x1 31 = x1 % 32 := mask 5 16 (by decide) (by decide) _ (by omega) (by omega)
  have e4 : Go.bits .and .i64 (x0 / 32) 63 = x0 / 32 % 64 := mask 6 16 (by decide) (by decide) _ (by omega) (by omega)
  have e5 : Go.bits .and .i64 x0 31 = x0 % 32 := mask 5 16 (by decide) (by decide) _ (by omega) (by omega)
  have e6 : wrap64 (x0 % 32 * 2) = 2 * (x0 % 32) := by unfold wrap64; omega
  rw [e5, e1, e2, e3, e4, e6, Int.tdiv_eq_ediv_of_nonneg (show 0 ≤ x1 by omega), Int.tdiv_eq_ediv_of_nonneg (show 0 ≤ x1 by omega), Int.tdiv_eq_ediv_of_nonneg (show 0 ≤ x0 by omega), Int.tdiv_eq_ediv_of_nonneg (show 0 ≤ x0 by omega)]
  have f1 : wrap64 (x1 / 512) = x1 / 512 := by unfold wrap64; omega
  have f2 : wrap64 (x1 / 32) = x1 / 32 := by unfold wrap64; omega
  have f3 : wrap64 (x0 / 2048) = x0 / 2048 := by unfold wrap64; omega
  have f4 : wrap64 (x0 / 32) = x0 / 32 := by unfold wrap64; omega
  rw [f1, f2, f3, f4, Int.tmod_eq_emod_of_nonneg (show 0 ≤ x1 / 32 by omega), Int.tmod_eq_emod_of_nonneg (show 0 ≤ x1 by omega), Int.tmod_eq_emod_of_nonneg (show 0 ≤ x0 / 32 by omega), Int.tmod_eq_emod_of_nonneg (show 0 ≤ x0 by omega)]
  have f5 : wrap64 (1980 + x1 / 512) = 1980 + x1 / 512 := by unfold wrap64; omega
  have f6 : wrap64 (2 * (x0 % 32)) = 2 * (x0 % 32) := by unfold wrap64; omega
  rw [f5, f6, check_eq k, is_eq (k + 1)]
  simp only [Option.bind_some]
  by_cases ok : okStamp (1980 + x1 / 512) (x1 / 32 % 16) (x1 % 32) (x0 / 2048) (x0 / 32 % 64) (2 * (x0 % 32))
  · simp [ok]
  · simp [ok]

theorem lives_ok (k : Nat) : duffellaw22_lives.f (k + 2) = some true := by
  unfold duffellaw22_lives.f dos_Pack.f
  rw [check_eq k, if_pos (by decide)]
  decide +kernel

theorem DosNumbers : duffellaw22_DosNumbers.Pure := by
  intro a0 a1 _ _
  refine ⟨3, ?_⟩
  obtain ⟨r, h1, h2⟩ := unpack_same 0 a0 a1
  unfold duffellaw22_DosNumbers.f
  rw [h1, h2]
  simp only [Option.bind_some]
  rw [if_pos (by simp), if_pos trivial]
  exact congrArg (fun o : Option Bool => o.bind fun t => some t) (lives_ok 1)

end Go.Proofs.Ytboliliohghncaa.Pure
