/- What a row of writings makes, as bytes; what a cursor reads of it; plain. -/
import Derived.Test.YtedboieaefdbdaaFieldRS
import Derived.Test.YtedboieaefdbdaaFieldCur1
import Derived.Test.YtedboieaefdbdaaMyFields
namespace Go.Proofs.Ytedboieaefdbdaa.Fld
open Go.RowKit Go.Proofs.YtedboieaefdbdaaW.PrintWords Go.Proofs.YtedboieaefdbdaaW.PrintLast Go.Proofs.YtedboieaefdbdaaW.PrintMore Go.Proofs.Ytedboieaefdbdaa.MyOpen
set_option linter.unusedVariables false
set_option linter.unusedSimpArgs false
def wi (x : Int) : Int := if x < 0 then 0 else if 65535 < x then 65535 else x
theorem wi_in (x : Int) : 0 ≤ wi x ∧ wi x ≤ 65535 := by unfold wi; split <;> (try split) <;> omega
set_option maxHeartbeats 1000000 in
theorem within_any (x : Int) (w : World) : Calls Try.prog 17 #[.int .i64 x, .int .i64 0, .int .i64 65535] w fun e w' => e = .returned (.int .i64 (wi x)) ∧ w = w' := by
  unfold wi
  by_cases h1 : x < 0
  · have c1 : decide (x < 0) = true := decide_eq_true h1
    rw [if_pos h1]
    clear h1
    go_enter Try.func17, Try.ntmps17
    go_wp2
    go_ret
    exact ⟨rfl, rfl⟩
  · have c1 : decide (x < 0) = false := decide_eq_false h1
    rw [if_neg h1]
    clear h1
    by_cases h2 : 65535 < x
    · have c2 : decide (65535 < x) = true := decide_eq_true h2
      rw [if_pos h2]
      clear h2
      go_enter Try.func17, Try.ntmps17
      go_wp2
      go_ret
      exact ⟨rfl, rfl⟩
    · have c2 : decide (65535 < x) = false := decide_eq_false h2
      rw [if_neg h2]
      clear h2
      go_enter Try.func17, Try.ntmps17
      go_wp2
      go_ret
      exact ⟨rfl, rfl⟩
theorem byteAt_in (x : Int) (i : Nat) : 0 ≤ byteAt x i ∧ byteAt x i ≤ 255 := by unfold byteAt; omega
theorem le_bytes (x : Int) (n : Nat) : ∀ y ∈ le x n, 0 ≤ y ∧ y ≤ 255 := by
  intro y hy
  obtain ⟨i, _, rfl⟩ := List.mem_map.1 hy
  exact byteAt_in x i
theorem num_le2 (x : Int) (h0 : 0 ≤ x) (h1 : x ≤ 65535) : num (le x 2) = x := by
  have e : le x 2 = [byteAt x 0, byteAt x 1] := rfl
  rw [e]
  show byteAt x 0 + 256 * (byteAt x 1 + 256 * 0) = x
  unfold byteAt
  simp only [Nat.mul_zero, Nat.mul_one, Int.pow_zero, Int.ediv_one, show (2 : Int) ^ 8 = 256 from rfl]
  omega
theorem num_le4 (x : Int) (h0 : 0 ≤ x) (h1 : x < 4294967296) : num (le x 4) = x := by
  have e : le x 4 = [byteAt x 0, byteAt x 1, byteAt x 2, byteAt x 3] := rfl
  rw [e]
  show byteAt x 0 + 256 * (byteAt x 1 + 256 * (byteAt x 2 + 256 * (byteAt x 3 + 256 * 0))) = x
  unfold byteAt
  simp only [Nat.mul_zero, Nat.mul_one, Int.pow_zero, Int.ediv_one, show (2 : Int) ^ 8 = 256 from rfl, show (2 : Int) ^ (8 * 2) = 65536 from rfl, show (2 : Int) ^ (8 * 3) = 16777216 from rfl]
  omega
abbrev WT := Int × Int × Int × List Int
def piece (x : WT) : List Int := le (wi x.2.1) 2 ++ (le x.2.2.1 4 ++ x.2.2.2.take 40)
def cat (X : List WT) (i : Nat) : List Int := (X.take i).flatMap piece
theorem piece_len (x : WT) : (piece x).length = 6 + (x.2.2.2.take 40).length := by
  unfold piece; rw [List.length_append, List.length_append, le_length, le_length]; omega
theorem piece_le (x : WT) : (piece x).length ≤ 46 := by rw [piece_len, List.length_take]; omega
theorem cat_zero (X : List WT) : cat X 0 = [] := rfl
theorem cat_succ (X : List WT) (i : Nat) (h : i < X.length) : cat X (i + 1) = cat X i ++ piece X[i] := by
  unfold cat
  rw [List.take_add_one, List.flatMap_append]
  congr 1
  rw [List.getElem?_eq_getElem h]
  simp
theorem cat_split (X : List WT) (i d : Nat) (h : i + d < X.length) : ∃ T, cat X (i + d + 1) = cat X i ++ (piece X[i] ++ T) := by
  induction d with
  | zero => exact ⟨[], by rw [Nat.add_zero, cat_succ X i h, List.append_nil]⟩
  | succ d ih =>
    obtain ⟨T, hT⟩ := ih (by omega)
    refine ⟨T ++ piece (X[i + d + 1]'(by omega)), ?_⟩
    rw [show i + (d + 1) + 1 = (i + d + 1) + 1 by omega, cat_succ X (i + d + 1) (by omega), hT]
    simp only [List.append_assoc]
theorem cat_bytes (X : List WT) (hg : ∀ x ∈ X, GoodW x) (i : Nat) : ∀ y ∈ cat X i, 0 ≤ y ∧ y ≤ 255 := by
  intro y hy
  obtain ⟨x, hx, hyx⟩ := List.mem_flatMap.1 hy
  have hG := hg x (List.mem_of_mem_take hx)
  rcases List.mem_append.1 hyx with h | h
  · exact le_bytes _ _ y h
  · rcases List.mem_append.1 h with h | h
    · exact le_bytes _ _ y h
    · exact bounds_u8 (hG.2.2.2 y (List.mem_of_mem_take h))
theorem tk_at (P Q T : List Int) (n : Int) (hn : n = (Q.length : Int)) : tkL (P ++ (Q ++ T)) P.length 0 n = Q ∧ tkA (P ++ (Q ++ T)) P.length 0 n = P.length + Q.length ∧ tkE (P ++ (Q ++ T)) P.length 0 n = 0 := by
  subst hn
  have hl : (P ++ (Q ++ T)).length - P.length = Q.length + T.length := by simp only [List.length_append]; omega
  have hc : (0 : Int) = 0 ∧ 0 ≤ (Q.length : Int) ∧ (Q.length : Int) ≤ (((P ++ (Q ++ T)).length - P.length : Nat) : Int) := ⟨rfl, by omega, by rw [hl]; omega⟩
  refine ⟨?_, ?_, ?_⟩
  · unfold tkL
    rw [if_pos hc, List.drop_left, Int.toNat_natCast, List.take_left]
  · unfold tkA
    rw [if_pos hc, Int.toNat_natCast]
  · unfold tkE
    rw [if_neg (by decide), if_neg (by omega), if_neg (by rw [hl]; omega)]
/-- the three readings of one writing -/
theorem reads_piece (P T : List Int) (x : WT) (L : List Int) (hL : L = P ++ (piece x ++ T)) :
    (tkL L P.length 0 2 = le (wi x.2.1) 2 ∧ tkA L P.length 0 2 = P.length + 2 ∧ tkE L P.length 0 2 = 0) ∧
    (tkL L (P.length + 2) 0 4 = le x.2.2.1 4 ∧ tkA L (P.length + 2) 0 4 = P.length + 6 ∧ tkE L (P.length + 2) 0 4 = 0) ∧
    (tkL L (P.length + 6) 0 ((x.2.2.2.take 40).length : Int) = x.2.2.2.take 40 ∧ tkA L (P.length + 6) 0 ((x.2.2.2.take 40).length : Int) = P.length + (piece x).length ∧ tkE L (P.length + 6) 0 ((x.2.2.2.take 40).length : Int) = 0) := by
  have e1 : L = P ++ (le (wi x.2.1) 2 ++ (le x.2.2.1 4 ++ (x.2.2.2.take 40 ++ T))) := by rw [hL]; unfold piece; simp only [List.append_assoc]
  have e2 : L = (P ++ le (wi x.2.1) 2) ++ (le x.2.2.1 4 ++ (x.2.2.2.take 40 ++ T)) := by rw [e1]; simp only [List.append_assoc]
  have e3 : L = (P ++ le (wi x.2.1) 2 ++ le x.2.2.1 4) ++ (x.2.2.2.take 40 ++ T) := by rw [e1]; simp only [List.append_assoc]
  have l2 : (P ++ le (wi x.2.1) 2).length = P.length + 2 := by rw [List.length_append, le_length]
  have l3 : (P ++ le (wi x.2.1) 2 ++ le x.2.2.1 4).length = P.length + 6 := by rw [List.length_append, l2, le_length]
  have h1 := tk_at P (le (wi x.2.1) 2) (le x.2.2.1 4 ++ (x.2.2.2.take 40 ++ T)) 2 (by rw [le_length]; rfl)
  have h2 := tk_at (P ++ le (wi x.2.1) 2) (le x.2.2.1 4) (x.2.2.2.take 40 ++ T) 4 (by rw [le_length]; rfl)
  have h3 := tk_at (P ++ le (wi x.2.1) 2 ++ le x.2.2.1 4) (x.2.2.2.take 40) T ((x.2.2.2.take 40).length : Int) rfl
  rw [← e1, le_length] at h1
  rw [← e2, le_length, l2] at h2
  rw [← e3, l3] at h3
  refine ⟨h1, h2, h3.1, ?_, h3.2.2⟩
  rw [h3.2.1, piece_len]; omega
theorem st_piece (X : List WT) (i : Nat) (h : i < X.length) : stPut (st32 (st16 (cat X i, 0) (wi X[i].2.1)) X[i].2.2.1) (X[i].2.2.2.take 40) = (cat X (i + 1), 0) := by
  have hw := wi_in X[i].2.1
  rw [cat_succ X i h]
  unfold stPut st32 st16 putL u32L u16L u16E piece
  simp only [hw.1, hw.2, true_and, and_true, if_true, not_true_eq_false, and_false, if_false, List.append_assoc]
theorem cat_len (X : List WT) (i : Nat) (h : i ≤ X.length) : (cat X i).length ≤ 46 * i := by
  induction i with
  | zero => simp [cat_zero]
  | succ i ih =>
    rw [cat_succ X i (by omega), List.length_append]
    have := piece_le (X[i]'(by omega))
    have := ih (by omega)
    omega
end Go.Proofs.Ytedboieaefdbdaa.Fld
