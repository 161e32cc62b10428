/- DosBack, the plain law: a time there and back is that time, numbers that are a time are those of it. No conditions. -/
import Derived.Test.YtboliliohghncaaPDosBackx3
namespace Go.Proofs.Ytboliliohghncaa.Pure
open Go.RowKit Go.Proofs.Ytboliliohghncaa.PDosBack Go.Proofs.YtboliliohghncaaW.PrintWords Go.Proofs.YtboliliohghncaaW.PrintLast

def mdays (y m : Int) : Int := if m = 2 then (if y % 4 = 0 ∧ y ≠ 2100 then 29 else 28) else if m = 4 ∨ m = 6 ∨ m = 9 ∨ m = 11 then 30 else 31

def okStamp (y m d h mi s : Int) : Prop := 1980 ≤ y ∧ y ≤ 2107 ∧ 1 ≤ m ∧ m ≤ 12 ∧ 1 ≤ d ∧ d ≤ mdays y m ∧ 0 ≤ h ∧ h ≤ 23 ∧ 0 ≤ mi ∧ mi ≤ 59 ∧ 0 ≤ s ∧ s ≤ 58 ∧ s % 2 = 0

instance (y m d h mi s : Int) : Decidable (okStamp y m d h mi s) := by unfold okStamp; infer_instance

theorem wraps_i64 (j : Nat) (hj : j ≤ 62) (n : Int) (h0 : 0 ≤ n) (h1 : n < 2 ^ j) : IntKind.i64.wrap n = n := by
  have hp : (2 : Int) ^ j ≤ 2 ^ 62 := by
    have := Nat.pow_le_pow_right (show 0 < 2 by decide) hj
    exact_mod_cast this
  rw [IntKind.wrap_i64]; omega

theorem mask (i j : Nat) (hi : i ≤ j) (hj : j ≤ 62) (x : Int) (h0 : 0 ≤ x) (h1 : x < 2 ^ j) : Go.bits .and .i64 x (2 ^ i - 1) = x % 2 ^ i :=
  bits_mask .i64 j (by show j ≤ 64; omega) (fun n => wraps_i64 j hj n) i hi x h0 h1

theorem join (i j : Nat) (hj : j ≤ 62) (x y : Int) (hx0 : 0 ≤ x) (hx : x % 2 ^ i = 0) (hx1 : x < 2 ^ j) (hy0 : 0 ≤ y) (hy : y < 2 ^ i) (hy1 : y < 2 ^ j) : Go.bits .or .i64 x y = x + y :=
  bits_join .i64 j (by show j ≤ 64; omega) (fun n => wraps_i64 j hj n) i x y hx0 hx hx1 hy0 hy hy1

theorem days_eq (y m : Int) (hy : 0 ≤ y) : dos_days.f y m = some (mdays y m) := by
  unfold dos_days.f dos_leap.f mdays
  rw [Int.tmod_eq_emod_of_nonneg hy]
  by_cases h2 : m = 2
  · rw [if_pos h2, if_pos h2]
    by_cases h4 : y % 4 = 0
    · by_cases h5 : y = 2100
      · simp [h5]
      · simp [h4, h5]
    · simp [h4]
  · rw [if_neg h2, if_neg h2]
    by_cases a : m = 4
    · simp [a]
    by_cases b : m = 6
    · simp [b]
    by_cases c : m = 9
    · simp [c]
    by_cases d : m = 11
    · simp [d]
    simp [a, b, c, d]

theorem check_eq (k : Nat) (y m d h mi s : Int) : dos_Check.f (k + 2) y m d h mi s = some (if okStamp y m d h mi s then 0 else 17) := by
  have no : ∀ {p : Prop} [Decidable p], ¬ p → some (17 : Int) = some (if p then 0 else 17) := fun h => by rw [if_neg h]
  unfold dos_Check.f
  by_cases c1 : y < 1980
  · rw [if_pos c1]; simp only [dos_Check.j0, if_true]; exact no (by unfold okStamp; omega)
  rw [if_neg c1]
  by_cases c2 : y > 2107
  · rw [if_pos c2]; simp only [dos_Check.j0, if_true]; exact no (by unfold okStamp; omega)
  rw [if_neg c2]
  by_cases c3 : m < 1
  · rw [if_pos c3]; simp only [dos_Check.j0, if_true]; exact no (by unfold okStamp; omega)
  rw [if_neg c3]
  simp only [dos_Check.j0]
  by_cases c4 : m > 12
  · rw [if_pos (by simpa using c4)]; exact no (by unfold okStamp; omega)
  rw [if_neg (by simpa using c4)]
  by_cases c5 : d < 1
  · rw [if_pos c5]; simp only [dos_Check.j1, if_true]; exact no (by unfold okStamp; omega)
  rw [if_neg c5, days_eq y m (by omega)]
  simp only [Option.bind_some, dos_Check.j1]
  by_cases c6 : d > mdays y m
  · rw [if_pos (by simpa using c6)]; exact no (by unfold okStamp; omega)
  rw [if_neg (by simpa using c6)]
  by_cases c7 : h < 0
  · rw [if_pos c7]; exact no (by unfold okStamp; omega)
  rw [if_neg c7]
  by_cases c8 : h > 23
  · rw [if_pos c8]; exact no (by unfold okStamp; omega)
  rw [if_neg c8]
  by_cases c9 : mi < 0
  · rw [if_pos c9]; exact no (by unfold okStamp; omega)
  rw [if_neg c9]
  by_cases c10 : mi > 59
  · rw [if_pos c10]; exact no (by unfold okStamp; omega)
  rw [if_neg c10]
  by_cases c11 : s < 0
  · rw [if_pos c11]; exact no (by unfold okStamp; omega)
  rw [if_neg c11]
  by_cases c12 : s > 58
  · rw [if_pos c12]; exact no (by unfold okStamp; omega)
  rw [if_neg c12]
  have hm : Go.bits .and .i64 s 1 = s % 2 := mask 1 16 (by decide) (by decide) s (by omega) (by omega)
  rw [hm]
  by_cases c13 : s % 2 = 1
  · rw [if_pos c13]; exact no (by unfold okStamp; omega)
  rw [if_neg c13, if_pos (by unfold okStamp; omega)]

theorem mdays_le (y m : Int) : 28 ≤ mdays y m ∧ mdays y m ≤ 31 := by
  unfold mdays; split
  · split <;> omega
  · split <;> omega

theorem pack_ok (k : Nat) (y m d h mi s : Int) (ok : okStamp y m d h mi s) : dos_Pack.f (k + 2) y m d h mi s = some (h * 2048 + mi * 32 + s / 2, (y - 1980) * 512 + m * 32 + d, 0) := by
  unfold dos_Pack.f
  rw [check_eq k, if_pos ok]
  simp only [Option.bind_some, if_true]
  have hd := mdays_le y m
  obtain ⟨a1, a2, a3, a4, a5, a6, a7, a8, a9, a10, a11, a12, a13⟩ := ok
  have e1 : wrap64 (h * 2048) = h * 2048 := by unfold wrap64; omega
  have e2 : wrap64 (mi * 32) = mi * 32 := by unfold wrap64; omega
  have e3 : wrap64 (y - 1980) = y - 1980 := by unfold wrap64; omega
  have e5 : wrap64 (m * 32) = m * 32 := by unfold wrap64; omega
  have e4 : wrap64 ((y - 1980) * 512) = (y - 1980) * 512 := by unfold wrap64; omega
  rw [e1, e2, e3, e4, e5]
  have o1 : Go.bits .or .i64 (h * 2048) (mi * 32) = h * 2048 + mi * 32 := join 11 20 (by decide) _ _ (by omega) (by omega) (by omega) (by omega) (by omega) (by omega)
  have o2 : Go.bits .or .i64 (h * 2048 + mi * 32) (s / 2) = h * 2048 + mi * 32 + s / 2 := join 5 20 (by decide) _ _ (by omega) (by omega) (by omega) (by omega) (by omega) (by omega)
  have o3 : Go.bits .or .i64 ((y - 1980) * 512) (m * 32) = (y - 1980) * 512 + m * 32 := join 9 20 (by decide) _ _ (by omega) (by omega) (by omega) (by omega) (by omega) (by omega)
  have o4 : Go.bits .or .i64 ((y - 1980) * 512 + m * 32) d = (y - 1980) * 512 + m * 32 + d := join 5 20 (by decide) _ _ (by omega) (by omega) (by omega) (by omega) (by omega) (by omega)
  rw [o1, o2, o3, o4]

theorem pack_no (k : Nat) (y m d h mi s : Int) (ok : ¬ okStamp y m d h mi s) : dos_Pack.f (k + 2) y m d h mi s = some (0, 0, 17) := by
  unfold dos_Pack.f
  rw [check_eq k, if_neg ok]
  rfl

theorem unpack_no (k : Nat) (x0 x1 : Int) (h : ¬ (0 ≤ x0 ∧ x0 ≤ 65535 ∧ 0 ≤ x1 ∧ x1 ≤ 65535)) : dos_Unpack.f (k + 3) x0 x1 = some (0, 0, 0, 0, 0, 0, 2) := by
  unfold dos_Unpack.f
  by_cases c1 : x0 < 0
  · rw [if_pos c1]; simp only [dos_Unpack.j0, if_true]
  rw [if_neg c1]
  by_cases c2 : x0 > 65535
  · rw [if_pos c2]; simp only [dos_Unpack.j0, if_true]
  rw [if_neg c2]
  by_cases c3 : x1 < 0
  · rw [if_pos c3]; simp only [dos_Unpack.j0, if_true]
  rw [if_neg c3]
  simp only [dos_Unpack.j0]
  rw [if_pos (by simp; omega)]

theorem unpack_in (k : Nat) (x0 x1 : Int) (c1 : 0 ≤ x0) (c2 : x0 ≤ 65535) (c3 : 0 ≤ x1) (c4 : x1 ≤ 65535) :
    dos_Unpack.f (k + 3) x0 x1 = some (if okStamp (1980 + x1 / 512) (x1 / 32 % 16) (x1 % 32) (x0 / 2048) (x0 / 32 % 64) (2 * (x0 % 32)) then (1980 + x1 / 512, x1 / 32 % 16, x1 % 32, x0 / 2048, x0 / 32 % 64, 2 * (x0 % 32), 0) else (0, 0, 0, 0, 0, 0, 17)) := by
  unfold dos_Unpack.f
  rw [if_neg (by omega), if_neg (by omega), if_neg (by omega)]
  simp only [dos_Unpack.j0]
  rw [if_neg (by simp; omega)]
  have e1 : wrap64 (x1 / 512 + 1980) = 1980 + x1 / 512 := by unfold wrap64; omega
  have e2 : Go.bits .and .i64 (x1 / 32) 15 = x1 / 32 % 16 := mask 4 16 (by decide) (by decide) _ (by omega) (by omega)
  have e3 : Go.bits .and .i64 x1 31 = x1 % 32 := mask 5 16 (by decide) (by decide) _ (by omega) (by omega)
  have e4 : Go.bits .and .i64 (x0 / 32) 63 = x0 / 32 % 64 := mask 6 16 (by decide) (by decide) _ (by omega) (by omega)
  have e5 : Go.bits .and .i64 x0 31 = x0 % 32 := mask 5 16 (by decide) (by decide) _ (by omega) (by omega)
  have e6 : wrap64 (x0 % 32 * 2) = 2 * (x0 % 32) := by unfold wrap64; omega
  rw [e5, e1, e2, e3, e4, e6, check_eq k]
  simp only [Option.bind_some]
  by_cases ok : okStamp (1980 + x1 / 512) (x1 / 32 % 16) (x1 % 32) (x0 / 2048) (x0 / 32 % 64) (2 * (x0 % 32))
  · simp [ok]
  · simp [ok]

theorem lives_ok (k : Nat) : duffellaw22_lives.f (k + 2) = some true := by
  unfold duffellaw22_lives.f dos_Pack.f
  rw [check_eq k, if_pos (by decide)]
  decide +kernel

theorem back_j (k : Nat) (a1 a2 : Int) : duffellaw22_DosBack.j0 (k + 4) a1 a2 = some true := by
  have hl := lives_ok (k + 1)
  simp only [duffellaw22_DosBack.j0]
  by_cases c : 0 ≤ a1 ∧ a1 ≤ 65535 ∧ 0 ≤ a2 ∧ a2 ≤ 65535
  · obtain ⟨c1, c2, c3, c4⟩ := c
    rw [unpack_in k a1 a2 c1 c2 c3 c4]
    by_cases ok : okStamp (1980 + a2 / 512) (a2 / 32 % 16) (a2 % 32) (a1 / 2048) (a1 / 32 % 64) (2 * (a1 % 32))
    · rw [if_pos ok]
      simp only [Option.bind_some, if_true]
      rw [pack_ok (k + 1) _ _ _ _ _ _ ok]
      simp only [Option.bind_some, if_true]
      rw [if_pos (by omega), if_pos (by omega), hl]; rfl
    · rw [if_neg ok]
      simp only [Option.bind_some]
      rw [if_neg (by decide), if_pos (by decide), hl]; rfl
  · rw [unpack_no k a1 a2 c]
    simp only [Option.bind_some]
    rw [if_neg (by decide), if_pos (by decide), hl]; rfl

theorem back_ok (y m d h mi s a1 a2 : Int) : duffellaw22_DosBack.f 4 y m d h mi s a1 a2 = some true := by
  have hj := back_j 0 a1 a2
  unfold duffellaw22_DosBack.f
  by_cases ok : okStamp y m d h mi s
  · rw [pack_ok 2 _ _ _ _ _ _ ok]
    simp only [Option.bind_some, if_true]
    have hd := mdays_le y m
    have ok' := ok
    obtain ⟨b1, b2, b3, b4, b5, b6, b7, b8, b9, b10, b11, b12, b13⟩ := ok
    rw [unpack_in 1 _ _ (by omega) (by omega) (by omega) (by omega)]
    have e1 : 1980 + ((y - 1980) * 512 + m * 32 + d) / 512 = y := by omega
    have e2 : ((y - 1980) * 512 + m * 32 + d) / 32 % 16 = m := by omega
    have e3 : ((y - 1980) * 512 + m * 32 + d) % 32 = d := by omega
    have e4 : (h * 2048 + mi * 32 + s / 2) / 2048 = h := by omega
    have e5 : (h * 2048 + mi * 32 + s / 2) / 32 % 64 = mi := by omega
    have e6 : 2 * ((h * 2048 + mi * 32 + s / 2) % 32) = s := by omega
    rw [e1, e2, e3, e4, e5, e6, if_pos ok']
    simp only [Option.bind_some, if_true]
    rw [if_neg (by simp), if_neg (by omega), if_neg (by omega), if_neg (by omega), if_neg (by omega)]
    exact hj
  · rw [pack_no 2 _ _ _ _ _ _ ok]
    simp only [Option.bind_some]
    rw [if_neg (by decide)]
    exact hj


end Go.Proofs.Ytboliliohghncaa.Pure
