/- dos: Check, Pack, Days, of what the printed functions compute. -/
import Derived.Test.YtboliliohghncaaDLx2
import Derived.Test.YtboliliohghncaaDLx1
import Derived.Test.YtboliliohghncaaDosDays
namespace Go.Proofs.Ytboliliohghncaa.Dy
open Go.RowKit Go.Proofs.Ytboliliohghncaa.DL Go.Proofs.YtboliliohghncaaW.PrintWords Go.Proofs.YtboliliohghncaaW.PrintLast

theorem wraps_i64 (j : Nat) (hj : j ≤ 62) (n : Int) (h0 : 0 ≤ n) (h1 : n < 2 ^ j) : IntKind.i64.wrap n = n := by
  have hp : (2 : Int) ^ j ≤ 2 ^ 62 := by
    have := Nat.pow_le_pow_right (show 0 < 2 by decide) hj
    exact_mod_cast this
  rw [IntKind.wrap_i64]; omega

theorem mask (i j : Nat) (hi : i ≤ j) (hj : j ≤ 62) (x : Int) (h0 : 0 ≤ x) (h1 : x < 2 ^ j) : Go.bits .and .i64 x (2 ^ i - 1) = x % 2 ^ i :=
  bits_mask .i64 j (by show j ≤ 64; omega) (fun n => wraps_i64 j hj n) i hi x h0 h1

theorem join (i j : Nat) (hj : j ≤ 62) (x y : Int) (hx0 : 0 ≤ x) (hx : x % 2 ^ i = 0) (hx1 : x < 2 ^ j) (hy0 : 0 ≤ y) (hy : y < 2 ^ i) (hy1 : y < 2 ^ j) : Go.bits .or .i64 x y = x + y :=
  bits_join .i64 j (by show j ≤ 64; omega) (fun n => wraps_i64 j hj n) i x y hx0 hx hx1 hy0 hy hy1

theorem days_eq (y m : Int) (hy : 0 ≤ y) : dos_days.f y m = some (mdays y m) := by
  unfold dos_days.f dos_leap.f mdays
  rw [Int.tmod_eq_emod_of_nonneg hy]
  by_cases h2 : m = 2
  · rw [if_pos h2, if_pos h2]
    by_cases h4 : y % 4 = 0
    · by_cases h5 : y = 2100
      · simp [h5]
      · simp [h4, h5]
    · simp [h4]
  · rw [if_neg h2, if_neg h2]
    by_cases a : m = 4
    · simp [a]
    by_cases b : m = 6
    · simp [b]
    by_cases c : m = 9
    · simp [c]
    by_cases d : m = 11
    · simp [d]
    simp [a, b, c, d]

theorem check_eq (k : Nat) (y m d h mi s : Int) : dos_Check.f (k + 2) y m d h mi s = some (if okStamp y m d h mi s then 0 else 17) := by
  have no : ∀ {p : Prop} [Decidable p], ¬ p → some (17 : Int) = some (if p then 0 else 17) := fun h => by rw [if_neg h]
  unfold dos_Check.f
  by_cases c1 : y < 1980
  · rw [if_pos c1]; simp only [dos_Check.j0, if_true]; exact no (by unfold okStamp; omega)
  rw [if_neg c1]
  by_cases c2 : y > 2107
  · rw [if_pos c2]; simp only [dos_Check.j0, if_true]; exact no (by unfold okStamp; omega)
  rw [if_neg c2]
  by_cases c3 : m < 1
  · rw [if_pos c3]; simp only [dos_Check.j0, if_true]; exact no (by unfold okStamp; omega)
  rw [if_neg c3]
  simp only [dos_Check.j0]
  by_cases c4 : m > 12
  · rw [if_pos (by simpa using c4)]; exact no (by unfold okStamp; omega)
  rw [if_neg (by simpa using c4)]
  by_cases c5 : d < 1
  · rw [if_pos c5]; simp only [dos_Check.j1, if_true]; exact no (by unfold okStamp; omega)
  rw [if_neg c5, days_eq y m (by omega)]
  simp only [Option.bind_some, dos_Check.j1]
  by_cases c6 : d > mdays y m
  · rw [if_pos (by simpa using c6)]; exact no (by unfold okStamp; omega)
  rw [if_neg (by simpa using c6)]
  by_cases c7 : h < 0
  · rw [if_pos c7]; exact no (by unfold okStamp; omega)
  rw [if_neg c7]
  by_cases c8 : h > 23
  · rw [if_pos c8]; exact no (by unfold okStamp; omega)
  rw [if_neg c8]
  by_cases c9 : mi < 0
  · rw [if_pos c9]; exact no (by unfold okStamp; omega)
  rw [if_neg c9]
  by_cases c10 : mi > 59
  · rw [if_pos c10]; exact no (by unfold okStamp; omega)
  rw [if_neg c10]
  by_cases c11 : s < 0
  · rw [if_pos c11]; exact no (by unfold okStamp; omega)
  rw [if_neg c11]
  by_cases c12 : s > 58
  · rw [if_pos c12]; exact no (by unfold okStamp; omega)
  rw [if_neg c12]
  have hm : Go.bits .and .i64 s 1 = s % 2 := mask 1 16 (by decide) (by decide) s (by omega) (by omega)
  rw [hm]
  by_cases c13 : s % 2 = 1
  · rw [if_pos c13]; exact no (by unfold okStamp; omega)
  rw [if_neg c13, if_pos (by unfold okStamp; omega)]

theorem pack_ok (k : Nat) (y m d h mi s : Int) (ok : okStamp y m d h mi s) : dos_Pack.f (k + 2) y m d h mi s = some (h * 2048 + mi * 32 + s / 2, (y - 1980) * 512 + m * 32 + d, 0) := by
  unfold dos_Pack.f
  rw [check_eq k, if_pos ok]
  simp only [Option.bind_some, if_true]
  have hd := mdays_le y m
  obtain ⟨a1, a2, a3, a4, a5, a6, a7, a8, a9, a10, a11, a12, a13⟩ := ok
  have e1 : wrap64 (h * 2048) = h * 2048 := by unfold wrap64; omega
  have e2 : wrap64 (mi * 32) = mi * 32 := by unfold wrap64; omega
  have e3 : wrap64 (y - 1980) = y - 1980 := by unfold wrap64; omega
  have e5 : wrap64 (m * 32) = m * 32 := by unfold wrap64; omega
  have e4 : wrap64 ((y - 1980) * 512) = (y - 1980) * 512 := by unfold wrap64; omega
  rw [e1, e2, e3, e4, e5]
  have o1 : Go.bits .or .i64 (h * 2048) (mi * 32) = h * 2048 + mi * 32 := join 11 20 (by decide) _ _ (by omega) (by omega) (by omega) (by omega) (by omega) (by omega)
  have o2 : Go.bits .or .i64 (h * 2048 + mi * 32) (s / 2) = h * 2048 + mi * 32 + s / 2 := join 5 20 (by decide) _ _ (by omega) (by omega) (by omega) (by omega) (by omega) (by omega)
  have o3 : Go.bits .or .i64 ((y - 1980) * 512) (m * 32) = (y - 1980) * 512 + m * 32 := join 9 20 (by decide) _ _ (by omega) (by omega) (by omega) (by omega) (by omega) (by omega)
  have o4 : Go.bits .or .i64 ((y - 1980) * 512 + m * 32) d = (y - 1980) * 512 + m * 32 + d := join 5 20 (by decide) _ _ (by omega) (by omega) (by omega) (by omega) (by omega) (by omega)
  rw [o1, o2, o3, o4]

theorem pack_no (k : Nat) (y m d h mi s : Int) (ok : ¬ okStamp y m d h mi s) : dos_Pack.f (k + 2) y m d h mi s = some (0, 0, 17) := by
  unfold dos_Pack.f
  rw [check_eq k, if_neg ok]
  rfl

def packZ (y m d h mi s : Int) : Int × Int × Int := if okStamp y m d h mi s then (h * 2048 + mi * 32 + s / 2, (y - 1980) * 512 + m * 32 + d, 0) else (0, 0, 17)
theorem pack_eq (k : Nat) (y m d h mi s : Int) : dos_Pack.f (k + 2) y m d h mi s = some (packZ y m d h mi s) := by
  unfold packZ
  by_cases ok : okStamp y m d h mi s
  · rw [if_pos ok]; exact pack_ok k y m d h mi s ok
  · rw [if_neg ok]; exact pack_no k y m d h mi s ok
def daysZ (y m d h mi s : Int) : Int := if okStamp y m d h mi s then dayN y m d else -1
theorem ws (x : Int) (h0 : -9000000000000000000 ≤ x) (h1 : x ≤ 9000000000000000000) : wrap64 x = x := by unfold wrap64; omega
theorem months_go (y m d h mi s : Int) (hy : 0 ≤ y) (hu : 0 ≤ upto y ∧ upto y ≤ 100000) (hd : 1 ≤ d ∧ d ≤ 31) (hm : m ≤ 12) : ∀ (n k : Nat) (i : Nat), (m - 1).toNat - i = n → i ≤ (m - 1).toNat → 1 ≤ m → n < k →
    dos_Days.l0 k (upto y + cum y i) ((i : Int) + 1) y m d h mi s = some (dayN y m d)
  | n, 0, i, _, _, _, h => by omega
  | 0, k + 1, i, h1, h2, h3, h4 => by
    have e : i = (m - 1).toNat := by omega
    have hc := cum_bd y i
    rw [dos_Days.l0]
    rw [if_neg (by omega)]
    unfold dayN
    rw [← e]
    rw [ws (upto y + cum y i + d) (by omega) (by omega), ws (upto y + cum y i + d - 1) (by omega) (by omega)]
  | n + 1, k + 1, i, h1, h2, h3, h4 => by
    have hc := cum_bd y i
    have hmd := mdays_le y ((i : Int) + 1)
    rw [dos_Days.l0]
    rw [if_pos (by omega), days_eq y _ hy, Option.bind_some]
    have ec : upto y + cum y i + mdays y ((i : Int) + 1) = upto y + cum y (i + 1) := by
      show _ = upto y + (cum y i + mdays y ((i : Int) + 1))
      omega
    have ei : (i : Int) + 1 + 1 = ((i + 1 : Nat) : Int) + 1 := by omega
    rw [ws (upto y + cum y i + mdays y ((i : Int) + 1)) (by omega) (by omega), ws ((i : Int) + 1 + 1) (by omega) (by omega), ec, ei]
    exact months_go y m d h mi s hy hu hd hm n k (i + 1) (by omega) (by omega) h3 (by omega)
theorem days_ok (y m d h mi s : Int) (ok : okStamp y m d h mi s) : dos_Days.f 20 y m d h mi s = some (dayN y m d) := by
  have ok' := ok
  obtain ⟨a1, a2, a3, a4, a5, a6, _⟩ := ok
  have hmd := mdays_le y m
  have hu := upto_bd y a1 a2
  have hg := months_go y m d h mi s (by omega) hu ⟨a5, by omega⟩ a4 (m - 1).toNat 19 0 (by omega) (by omega) a3 (by omega)
  have e0 : upto y + cum y 0 = upto y := by show upto y + 0 = _; omega
  rw [e0, show ((0 : Nat) : Int) + 1 = 1 from rfl] at hg
  unfold dos_Days.f
  rw [check_eq 18, if_pos ok', Option.bind_some, if_pos rfl]
  rw [ws (y - 1980) (by omega) (by omega), ws (365 * (y - 1980)) (by omega) (by omega), ws (y - 1980 + 3) (by omega) (by omega), Int.tdiv_eq_ediv_of_nonneg (by omega), ws ((y - 1980 + 3) / 4) (by omega) (by omega), ws (365 * (y - 1980) + (y - 1980 + 3) / 4) (by omega) (by omega)]
  by_cases c : y > 2100
  · have e8 : 365 * (y - 1980) + (y - 1980 + 3) / 4 - 1 = upto y := by unfold upto; rw [if_pos c]
    rw [if_pos c, ws (365 * (y - 1980) + (y - 1980 + 3) / 4 - 1) (by omega) (by omega), e8, dos_Days.j0]; exact hg
  · have e8 : 365 * (y - 1980) + (y - 1980 + 3) / 4 = upto y := by unfold upto; rw [if_neg c]; omega
    rw [if_neg c, e8, dos_Days.j0]; exact hg
theorem days_z (y m d h mi s : Int) : dos_Days.f 20 y m d h mi s = some (daysZ y m d h mi s) := by
  unfold daysZ
  by_cases ok : okStamp y m d h mi s
  · rw [if_pos ok]; exact days_ok y m d h mi s ok
  · rw [if_neg ok]
    unfold dos_Days.f
    rw [check_eq 18, if_neg ok, Option.bind_some, if_neg (by decide)]
def lessZ (a0 a1 a2 a3 a4 a5 b0 b1 b2 b3 b4 b5 : Int) : Bool := if okStamp a0 a1 a2 a3 a4 a5 ∧ okStamp b0 b1 b2 b3 b4 b5 then lexB [a0, a1, a2, a3, a4, a5] [b0, b1, b2, b3, b4, b5] else false
end Go.Proofs.Ytboliliohghncaa.Dy
