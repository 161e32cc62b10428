/- TextTells: the plain law. -/
import Derived.Test.YtlliomkjnhbbbaaDoorTCx3
namespace Go.Proofs.YtlliomkjnhbbbaaDoor.Pure
open Go Go.RowKit Go.Proofs.YtlliomkjnhbbbaaDoorW.PrintWords Go.Proofs.YtlliomkjnhbbbaaDoorW.PrintLast
open Go.Proofs.YtlliomkjnhbbbaaDoor.TC Go.Proofs.YtlliomkjnhbbbaaDoor.MyCut
theorem u8_of {x : Int} (h : (Lit.int .u8 x).wf = true) : 0 ≤ x ∧ x ≤ 255 := by simpa [Lit.wf, IntKind.min, IntKind.max, IntKind.signed, IntKind.bits] using h
theorem ws (x : Int) (h : -9223372036854775808 ≤ x) (h2 : x ≤ 9223372036854775807) : wrap64 x = x := by
  unfold wrap64; first | omega | (simp only []; omega)
theorem rd_at (l : List Int) (i : Nat) (h : i < l.length) : rd l (i : Int) = l[i] := by
  unfold rd
  rw [Int.toNat_natCast, List.getD_eq_getElem?_getD, List.getElem?_eq_getElem h]; rfl
/-- a byte that a text rarely has -/
def oddB (x : Int) : Bool := decide (x < 8 ∨ (14 ≤ x ∧ x ≤ 25) ∨ (28 ≤ x ∧ x ≤ 31) ∨ x = 127)
def isFrom : List Int → Nat → Nat → Bool
  | [], n, len => decide (32 * n ≤ len)
  | x :: l, n, len => if x = 0 then false else isFrom l (if oddB x then n + 1 else n) len
theorem odd_nat : ∀ n : Fin 256, text_odd.f (n.val : Int) = some (oddB (n.val : Int)) := by decide +kernel
theorem odd_eq (x : Int) (h0 : 0 ≤ x) (h1 : x ≤ 255) : text_odd.f x = some (oddB x) := by
  obtain ⟨n, rfl⟩ := Int.eq_ofNat_of_zero_le h0
  exact odd_nat ⟨n, by omega⟩
theorem ref_odd {α : Type} (x : Int) (A B : α) : (if x < 8 then A else (if x ≥ 14 then (if x ≤ 25 then A else (if x ≥ 28 then (if x ≤ 31 then A else (if x = 127 then A else B)) else (if x = 127 then A else B))) else (if x ≥ 28 then (if x ≤ 31 then A else (if x = 127 then A else B)) else (if x = 127 then A else B)))) = if oddB x then A else B := by
  by_cases h : oddB x = true
  · rw [if_pos h]
    simp only [oddB, decide_eq_true_eq] at h
    repeat' split
    all_goals first | rfl | (exfalso; omega)
  · rw [if_neg h]
    simp only [oddB, decide_eq_true_eq] at h
    repeat' split
    all_goals first | rfl | (exfalso; omega)
theorem is_loop (L : List Int) (hb : ∀ x ∈ L, 0 ≤ x ∧ x ≤ 255) (hl : L.length ≤ 1000000) : ∀ (K i n : Nat), i ≤ L.length → n ≤ i → L.length - i + 1 ≤ K →
    text_IsText.l0 K L (n : Int) L (L.length : Int) (i : Int) = some (isFrom (L.drop i) n L.length)
  | 0, i, n, _, _, h => by omega
  | K + 1, i, n, hi, hn, hK => by
    rw [text_IsText.l0]
    by_cases c : i < L.length
    · have hx := hb _ (List.getElem_mem c)
      have e1 : wrap64 ((n : Int) + 1) = ((n + 1 : Nat) : Int) := by rw [ws _ (by omega) (by omega)]; omega
      have e2 : wrap64 ((i : Int) + 1) = ((i + 1 : Nat) : Int) := by rw [ws _ (by omega) (by omega)]; omega
      rw [if_pos (by omega), if_pos (by omega), if_pos (by omega), rd_at L i c, odd_eq _ hx.1 hx.2, Option.bind_some, e1, e2, List.drop_eq_getElem_cons c, isFrom]
      by_cases z : L[i] = 0
      · rw [if_pos z, if_pos z]
      · rw [if_neg z, if_neg z]
        by_cases o : oddB L[i] = true
        · rw [if_pos o, if_pos o]
          exact is_loop L hb hl K (i + 1) (n + 1) (by omega) (by omega) (by omega)
        · rw [if_neg o, if_neg o]
          exact is_loop L hb hl K (i + 1) n (by omega) (by omega) (by omega)
    · rw [if_neg (by omega), List.drop_eq_nil_of_le (by omega), isFrom, ws _ (by omega) (by omega)]
      congr 1
      rw [decide_eq_decide]
      omega
theorem ref_loop (L : List Int) (hb : ∀ x ∈ L, 0 ≤ x ∧ x ≤ 255) (hl : L.length ≤ 1000000) : ∀ (K i n : Nat), i ≤ L.length → n ≤ i → L.length - i + 1 ≤ K →
    duffelref39_Is.l0 K L (n : Int) (i : Int) = some (isFrom (L.drop i) n L.length)
  | 0, i, n, _, _, h => by omega
  | K + 1, i, n, hi, hn, hK => by
    rw [duffelref39_Is.l0]
    by_cases c : i < L.length
    · have e1 : wrap64 ((n : Int) + 1) = ((n + 1 : Nat) : Int) := by rw [ws _ (by omega) (by omega)]; omega
      have e2 : wrap64 ((i : Int) + 1) = ((i + 1 : Nat) : Int) := by rw [ws _ (by omega) (by omega)]; omega
      rw [if_pos (by omega), if_pos (by omega), rd_at L i c, e1, e2, ref_odd, List.drop_eq_getElem_cons c, isFrom]
      by_cases z : L[i] = 0
      · rw [if_pos z, if_pos z]
      · rw [if_neg z, if_neg z]
        by_cases o : oddB L[i] = true
        · rw [if_pos o, if_pos o]
          exact ref_loop L hb hl K (i + 1) (n + 1) (by omega) (by omega) (by omega)
        · rw [if_neg o, if_neg o]
          exact ref_loop L hb hl K (i + 1) n (by omega) (by omega) (by omega)
    · rw [if_neg (by omega), List.drop_eq_nil_of_le (by omega), isFrom, ws _ (by omega) (by omega)]
      congr 1
      rw [decide_eq_decide]
      omega
theorem lives_1000 : duffellaw39_lives.f 1000 = some true := by decide +kernel
theorem cut_ok (l : List Int) (n : Nat) : cut_u8.f l (n : Int) = some (l.take n) := by
  unfold cut_u8.f
  by_cases c : (l.length : Int) > (n : Int)
  · rw [if_pos c]
    first | (rw [if_pos (by omega), if_pos (by omega), Int.toNat_natCast]) | (rw [if_pos (by omega), Int.toNat_natCast]) | (rw [Int.toNat_natCast])
  · rw [if_neg c, List.take_of_length_le (by omega)]
theorem TextTells : duffellaw39_TextTells.Pure := by
  intro l0 _ _ hw
  refine ⟨1000, ?_⟩
  have hL : (l0.take 400).length ≤ 400 := by rw [List.length_take]; omega
  have hb : ∀ x ∈ l0.take 400, 0 ≤ x ∧ x ≤ 255 := fun x hx => u8_of (hw x (List.mem_of_mem_take hx))
  obtain ⟨L, hLL⟩ : ∃ L, l0.take 400 = L := ⟨_, rfl⟩
  have hc : cut_u8.f l0 400 = some L := by rw [← hLL]; exact cut_ok l0 400
  rw [hLL] at hL hb
  have e1 : text_IsText.f 1000 L = some (isFrom L 0 L.length) := by
    have h := is_loop L hb (by omega) 1000 0 0 (by omega) (by omega) (by omega)
    exact h
  have e2 : duffelref39_Is.f 1000 L = some (isFrom L 0 L.length) := by
    have h := ref_loop L hb (by omega) 1000 0 0 (by omega) (by omega) (by omega)
    exact h
  have e3 : text_Inner.f 1000 L = some (if isFrom L 0 L.length = true then 1 else 0) := by
    unfold text_Inner.f
    rw [e1, Option.bind_some]
    split <;> rfl
  unfold duffellaw39_TextTells.f
  rw [hc, Option.bind_some, e2, Option.bind_some, e1, Option.bind_some, e3, lives_1000]
  cases isFrom L 0 L.length <;> rfl
end Go.Proofs.YtlliomkjnhbbbaaDoor.Pure
