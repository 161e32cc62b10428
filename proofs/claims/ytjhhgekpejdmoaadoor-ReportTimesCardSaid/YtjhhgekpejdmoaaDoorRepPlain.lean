/- Plain words for package report: digits with commas, two digits. -/
import Derived.Lib.ItoaNum
import Derived.Lib.Repeat
namespace Go.Proofs.YtjhhgekpejdmoaaDoor.Rp
open Go
/-- behind the first digit: a comma where the rest is a multiple of three -/
def tailG : List UInt8 → List UInt8
  | [] => []
  | d :: ds => (if (ds.length + 1) % 3 = 0 then [44] else []) ++ d :: tailG ds
theorem tailG_cons (d : UInt8) (ds : List UInt8) : tailG (d :: ds) = (if (ds.length + 1) % 3 = 0 then [44] else []) ++ d :: tailG ds := rfl
def groupL : List UInt8 → List UInt8
  | [] => []
  | d :: ds => d :: tailG ds
def codeAt (D : List UInt8) (j : Nat) : List UInt8 := D.take j ++ tailG (D.drop j)
theorem tailG_three (x y z : UInt8) (R : List UInt8) (h : R.length % 3 = 0) : tailG (x :: y :: z :: R) = 44 :: x :: y :: z :: tailG R := by
  rw [tailG_cons, if_pos (by simp only [List.length_cons]; omega), tailG_cons, if_neg (by simp only [List.length_cons]; omega), tailG_cons, if_neg (by omega)]
  rfl
theorem drop_three (D : List UInt8) (j : Nat) (h3 : 3 ≤ j) (hj : j ≤ D.length) : ∃ x y z, D.drop (j - 3) = x :: y :: z :: D.drop j := by
  have h : (D.drop (j - 3)).length = D.length - (j - 3) := List.length_drop
  match hd : D.drop (j - 3) with
  | x :: y :: z :: R =>
    refine ⟨x, y, z, ?_⟩
    have e : D.drop j = (D.drop (j - 3)).drop 3 := by rw [List.drop_drop]; congr 1; omega
    rw [e, hd]; rfl
  | [] => rw [hd] at h; simp at h; omega
  | [_] => rw [hd] at h; simp at h; omega
  | [_, _] => rw [hd] at h; simp at h; omega
theorem code_step (D : List UInt8) (j : Nat) (h3 : 3 ≤ j) (hj : j ≤ D.length) (hm : (D.length - j) % 3 = 0) :
    (codeAt D j).take (j - 3) ++ [44] ++ (codeAt D j).drop (j - 3) = codeAt D (j - 3) := by
  obtain ⟨x, y, z, hd⟩ := drop_three D j h3 hj
  have ht : (D.take j).length = j := by rw [List.length_take]; omega
  have e1 : (codeAt D j).take (j - 3) = D.take (j - 3) := by
    unfold codeAt
    rw [List.take_append_of_le_length (by omega), List.take_take, Nat.min_eq_left (by omega)]
  have e2 : (codeAt D j).drop (j - 3) = [x, y, z] ++ tailG (D.drop j) := by
    unfold codeAt
    rw [List.drop_append_of_le_length (by omega)]
    congr 1
    rw [List.drop_take, hd]
    have : j - (j - 3) = 3 := by omega
    rw [this]; rfl
  have hr : (D.drop j).length % 3 = 0 := by rw [List.length_drop]; exact hm
  rw [e1, e2]
  unfold codeAt
  rw [hd, tailG_three x y z _ hr]
  simp
theorem tailG_short : ∀ (A R : List UInt8), R.length % 3 = 0 → A.length ≤ 2 → tailG (A ++ R) = A ++ tailG R
  | [], R, _, _ => rfl
  | [a], R, h, _ => by
    show tailG (a :: R) = _
    rw [tailG_cons, if_neg (by omega)]; rfl
  | [a, b], R, h, _ => by
    show tailG (a :: b :: R) = _
    rw [tailG_cons, if_neg (by simp only [List.length_cons]; omega), tailG_cons, if_neg (by omega)]; rfl
  | _ :: _ :: _ :: _, R, _, h => by simp at h
theorem code_end (D : List UInt8) (j : Nat) (h1 : 1 ≤ j) (h3 : j ≤ 3) (hj : j ≤ D.length) (hm : (D.length - j) % 3 = 0) : codeAt D j = groupL D := by
  cases D with
  | nil => simp at hj; omega
  | cons d ds =>
    obtain ⟨j, rfl⟩ : ∃ k, j = k + 1 := ⟨j - 1, by omega⟩
    have hl : (ds.take j).length ≤ 2 := by rw [List.length_take]; omega
    have hr : (ds.drop j).length % 3 = 0 := by
      rw [List.length_drop]
      have : (d :: ds).length - (j + 1) = ds.length - j := by simp
      rw [this] at hm; exact hm
    have h := tailG_short (ds.take j) (ds.drop j) hr hl
    rw [List.take_append_drop] at h
    show (d :: ds.take j) ++ tailG (ds.drop j) = d :: tailG ds
    rw [h]; rfl
theorem code_start (D : List UInt8) : codeAt D D.length = D := by unfold codeAt; simp [tailG]
/-- number by number from the left -/
theorem ref_step (D : List UInt8) (i : Nat) (h : i < D.length) (_h0 : 0 < i) (out : List UInt8) : out ++ tailG (D.drop i) = (out ++ (if (D.length - i) % 3 = 0 then [44] else []) ++ [D.getD i 0]) ++ tailG (D.drop (i + 1)) := by
  rw [List.drop_eq_getElem_cons h, tailG_cons, List.length_drop, List.getD_eq_getElem?_getD, List.getElem?_eq_getElem h]
  have e : D.length - (i + 1) + 1 = D.length - i := by omega
  rw [e]
  simp
theorem dec_one (u : Nat) (h : u < 10) : Lib.decDigits u = [UInt8.ofNat (48 + u)] := by rw [Lib.decDigits, dif_pos h]
theorem dec_more (u : Nat) (h : 10 ≤ u) : Lib.decDigits u = Lib.decDigits (u / 10) ++ [UInt8.ofNat (48 + u % 10)] := by
  rw [Lib.decDigits, dif_neg (by omega)]
theorem dec_two (u : Nat) (h : 10 ≤ u) (h2 : u < 100) : Lib.decDigits u = [UInt8.ofNat (48 + u / 10), UInt8.ofNat (48 + u % 10)] := by
  rw [dec_more u h, dec_one (u / 10) (by omega)]; rfl
theorem dec_length : ∀ (n u : Nat), u < 10 ^ n → 1 ≤ n → (Lib.decDigits u).length ≤ n ∧ 1 ≤ (Lib.decDigits u).length
  | 0, u, h, h1 => by omega
  | n + 1, u, h, _ => by
    by_cases c : u < 10
    · rw [dec_one u c]; simp
    · have hn : 1 ≤ n := by
        cases n with
        | zero => simp at h; omega
        | succ n => omega
      have ih := dec_length n (u / 10) (by rw [Nat.pow_succ] at h; omega) hn
      rw [dec_more u (by omega), List.length_append]
      simp; omega
end Go.Proofs.YtjhhgekpejdmoaaDoor.Rp
