/- PageChars, of what the printed functions compute: which character any byte has, which byte any character. -/
import Derived.Test.YtknacjoclpagaaaPCx1
import Derived.OpenShut
namespace Go.Proofs.Ytknacjoclpagaaa.Pure
open Go.RowKit Go.Proofs.Ytknacjoclpagaaa.PC Go.Proofs.YtknacjoclpagaaaW.PrintWords Go.Proofs.YtknacjoclpagaaaW.PrintLast Go.Proofs.YtknacjoclpagaaaW.PrintMore Go.Proofs.Ytknacjoclpagaaa.Pg
theorem w_small (x : Int) (h0 : -9000000000000000000 ≤ x) (h1 : x ≤ 9000000000000000000) : wrap64 x = x := by unfold wrap64; omega
theorem ref_scan (r : Int) : ∀ (n i k : Nat), 128 - i = n → i ≤ 128 → n < k → duffelref21_Byte.l0 k r upL i = some (if scan (upL.drop i) r i < 0 then -1 else 128 + scan (upL.drop i) r i)
  | n, i, 0, _, _, h => by omega
  | 0, i, k + 1, h1, h2, h3 => by
    have e : i = upL.length := by rw [upL_len]; omega
    unfold duffelref21_Byte.l0
    rw [if_neg (by omega)]
    rw [e, List.drop_length]; rfl
  | n + 1, i, k + 1, h1, h2, h3 => by
    have hi : i < upL.length := by rw [upL_len]; omega
    unfold duffelref21_Byte.l0
    rw [if_pos (by omega), if_pos (by omega), if_pos (by omega), drop_cons upL i hi]
    unfold scan
    have e : rd upL (i : Int) = upL.getD i 0 := by unfold rd; simp
    rw [e]
    by_cases c : r = upL.getD i 0
    · rw [if_pos c.symm, if_pos c, if_neg (by omega), w_small _ (by omega) (by omega)]
    · rw [if_neg (fun h => c h.symm), if_neg c, wr_inc i (by omega), ref_scan r n (i + 1) k (by omega) (by omega) (by omega)]; rfl
theorem ref_byte (r : Int) : duffelref21_Byte.f 200 r = some (if 0 ≤ r ∧ r < 128 then r else if pos r < 0 then -1 else 128 + pos r) := by
  have h2 := ref_scan r 128 0 199 (by omega) (by omega) (by omega)
  rw [List.drop_zero, show ((0 : Nat) : Int) = 0 from rfl] at h2
  have hl : duffelref21_Byte.j0 200 r false = some (if pos r < 0 then -1 else 128 + pos r) := by
    unfold duffelref21_Byte.j0 pos
    rw [show duffelref21_Upper.f = some upL from rfl]
    refine (if_neg (fun h => Bool.noConfusion h)).trans ?_
    rw [Option.bind_some]
    exact h2
  unfold duffelref21_Byte.f
  by_cases c : r ≥ 0
  · rw [if_pos c]
    by_cases d : r < 128
    · rw [if_pos ⟨c, d⟩, decide_eq_true d]
      unfold duffelref21_Byte.j0
      exact if_pos rfl
    · rw [if_neg (fun h => d h.2), decide_eq_false d]
      exact hl
  · rw [if_neg c, if_neg (fun h => c h.1)]
    exact hl
theorem up_small : ∀ i : Nat, i < 128 → 0 ≤ upL.getD i 0 ∧ upL.getD i 0 ≤ 65535 := by decide +kernel
theorem ref_char (n : Nat) (h : n < 256) : duffelref21_Char.f n = some (char n) := by
  unfold duffelref21_Char.f char
  by_cases c : n < 128
  · rw [if_pos (by omega), if_pos c, w_small _ (by omega) (by omega)]
  · have e : wrap64 (wrap64 (n : Int) - 128) = ((n - 128 : Nat) : Int) := by
      rw [w_small n (by omega) (by omega), w_small _ (by omega) (by omega)]; omega
    rw [if_neg (by omega), if_neg c, e]
    rw [show duffelref21_Upper.f = some upL from rfl, Option.bind_some]
    rw [if_pos (by omega), upL_len, if_pos (by omega)]
    unfold rd; simp
theorem char_small (n : Nat) (h : n < 256) : 0 ≤ char n ∧ char n ≤ 65535 := by
  unfold char
  by_cases c : n < 128
  · rw [if_pos c]; omega
  · rw [if_neg c]; exact up_small _ (by omega)
theorem PageChars : duffellaw21_PageChars.Pure := by
  intro a0 a1 h0 h1
  have b0 := bounds_u8 h0
  have b1 := bounds_i32 h1
  obtain ⟨n, rfl⟩ := Int.eq_ofNat_of_zero_le b0.1
  have cs := char_small n (by omega)
  refine ⟨200, ?_⟩
  unfold duffellaw21_PageChars.f
  rw [show page_Byte.f a1 = some (byteZ a1, byteOk a1) from rfl, Option.bind_some, w_small a1 (by omega) (by omega), ref_byte a1, Option.bind_some,
    show page_Rune.f (n : Int) = some (char n) from if_pos b0, Option.bind_some, ref_char n (by omega), Option.bind_some]
  refine (if_pos (w_small _ (by omega) (by omega))).trans ?_
  unfold byteZ byteOk
  have pr := pos_range a1
  generalize pos a1 = p at pr ⊢
  dsimp only
  by_cases c : 0 ≤ a1 ∧ a1 < 128
  · rw [if_pos c, if_pos c, decide_eq_true c, Bool.true_or]
    refine (if_pos (by rw [decide_eq_true c.1]; rfl)).trans ((if_pos rfl).trans ((if_pos (w_small _ (by omega) (by omega))).trans rfl))
  · rw [if_neg c, if_neg c, decide_eq_false c, Bool.false_or]
    rcases pr with h | ⟨h2, h3⟩
    · subst h
      rw [if_pos (show (-1 : Int) < 0 by decide), if_pos (show (-1 : Int) < 0 by decide), decide_eq_false (show ¬ (0 : Int) ≤ -1 by decide)]
      exact (if_pos (by decide)).trans ((if_neg (by decide)).trans ((if_pos rfl).trans rfl))
    · rw [if_neg (show ¬ p < 0 by omega), if_neg (show ¬ p < 0 by omega), decide_eq_true h2]
      refine (if_pos (by rw [decide_eq_true (show 128 + p ≥ 0 by omega)]; rfl)).trans ((if_pos rfl).trans ((if_pos (by rw [w_small _ (by omega) (by omega)]; omega)).trans rfl))
end Go.Proofs.Ytknacjoclpagaaa.Pure
