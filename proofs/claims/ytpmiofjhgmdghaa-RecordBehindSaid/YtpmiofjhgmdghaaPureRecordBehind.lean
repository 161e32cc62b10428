/- RecordBehind, of what the printed functions compute: behind whatever bytes an end is found. -/
import Derived.Test.YtpmiofjhgmdghaaRBFind
import Derived.Test.YtpmiofjhgmdghaaRBx2
import Derived.Test.YtpmiofjhgmdghaaRecState
namespace Go.Proofs.Ytpmiofjhgmdghaa.RBR
open Go.RowKit Go.Proofs.Ytpmiofjhgmdghaa.RB Go.Proofs.YtpmiofjhgmdghaaW.PrintWords Go.Proofs.YtpmiofjhgmdghaaW.PrintLast Go.Proofs.YtpmiofjhgmdghaaW.PrintMore Go.Proofs.Ytpmiofjhgmdghaa.Fld
theorem lives_run (K : Nat) (hK : 100 ≤ K) : duffellaw24_lives.f K = some true := by
  unfold duffellaw24_lives.f
  rw [findEnd_run end0 (by unfold Byt8; decide) (by decide) K (by simp [end0]; omega)]
  simp only [Option.bind_some]
  rw [show lastB (GoodB end0) (end0.length - 21) = 0 by decide +kernel]
  exact if_pos rfl
theorem endL_head (a0 a1 a2 a3 a4 a5 : Int) (b : List Int) : ∃ R, endL a0 a1 a2 a3 a4 a5 b = 80 :: 75 :: 5 :: 6 :: R := by
  unfold endL
  rw [show le 101010256 4 = [80, 75, 5, 6] by decide]
  simp only [List.nil_append, List.append_assoc, List.cons_append]
  exact ⟨_, rfl⟩
theorem endL_sign (a0 a1 a2 a3 a4 a5 : Int) (b : List Int) : num ((endL a0 a1 a2 a3 a4 a5 b).take 4) = 101010256 := by
  obtain ⟨R, h⟩ := endL_head a0 a1 a2 a3 a4 a5 b
  rw [h]
  rfl
theorem endL_size (a0 a1 a2 a3 a4 a5 : Int) (b : List Int) (hb : In16 (b.length : Int)) : num (((endL a0 a1 a2 a3 a4 a5 b).drop 20).take 2) = (b.length : Int) := by
  have e : ((endL a0 a1 a2 a3 a4 a5 b).drop 20).take 2 = [byteAt (b.length : Int) 0, byteAt (b.length : Int) 1] := rfl
  rw [e]
  exact num_le2 _ hb
theorem num_cons_ne (x : Int) (l : List Int) (hx : 0 ≤ x ∧ x ≤ 255) (h : x ≠ 80) : num (x :: l) ≠ 101010256 := by
  show x + 256 * num l ≠ _
  omega
theorem behind (b c : List Int) (a0 a1 a2 a3 a4 a5 : Int) (hc : In16 (c.length : Int))
    (hno : ∀ i, i < ((endL a0 a1 a2 a3 a4 a5 c).drop 4).length - 3 → P4 ((endL a0 a1 a2 a3 a4 a5 c).drop 4) 101010256 i = false) :
    lastB (GoodB (b ++ endL a0 a1 a2 a3 a4 a5 c)) ((b ++ endL a0 a1 a2 a3 a4 a5 c).length - 21) = (b.length : Int) := by
  have hs := endL_sign a0 a1 a2 a3 a4 a5 c
  have hz := endL_size a0 a1 a2 a3 a4 a5 c hc
  have hl := endL_length a0 a1 a2 a3 a4 a5 c
  obtain ⟨R, hR⟩ := endL_head a0 a1 a2 a3 a4 a5 c
  generalize endL a0 a1 a2 a3 a4 a5 c = L at *
  have hlen : (b ++ L).length = b.length + L.length := List.length_append
  rw [lastB_skip (t := b.length + 1) (by omega)]
  · simp only [lastB]
    refine if_pos ?_
    unfold GoodB
    rw [List.drop_append_of_le_length (Nat.le_refl _), List.drop_length, List.nil_append, show (b ++ L).drop (b.length + 20) = L.drop 20 by rw [List.drop_append]; simp]
    exact decide_eq_true ⟨by omega, hs, by rw [hz, hlen, hl]; omega⟩
  · intro i h1 h2
    refine good_p4 ?_
    obtain ⟨j, rfl⟩ : ∃ j, i = b.length + j := ⟨i - b.length, by omega⟩
    unfold P4
    rw [show (b ++ L).drop (b.length + j) = L.drop j by rw [List.drop_append]; simp]
    refine decide_eq_false ?_
    rintro ⟨h3, h4⟩
    rcases (show j = 1 ∨ j = 2 ∨ j = 3 ∨ 4 ≤ j by omega) with rfl | rfl | rfl | h5
    · rw [hR] at h4
      exact num_cons_ne 75 _ (by decide) (by decide) h4
    · rw [hR] at h4
      exact num_cons_ne 5 _ (by decide) (by decide) h4
    · rw [hR] at h4
      exact num_cons_ne 6 _ (by decide) (by decide) h4
    · have h := hno (j - 4) (by rw [List.length_drop]; omega)
      unfold P4 at h
      have h' := of_decide_eq_false h
      refine h' ⟨by rw [List.length_drop]; omega, ?_⟩
      rw [List.drop_drop, show 4 + (j - 4) = j by omega]
      exact h4
theorem RecordBehind (l0 : List Int) (a0 a1 a2 a3 a4 a5 : Int) (l1 : List Int) (hb0 : ∀ x ∈ l0, 0 ≤ x ∧ x ≤ 255) (hb1 : ∀ x ∈ l1, 0 ≤ x ∧ x ≤ 255) (h4 : 0 ≤ a4) (h5 : 0 ≤ a5) :
    duffellaw24_RecordBehind.f 5000 l0 a0 a1 a2 a3 a4 a5 l1 = some true := by
  have hb : Byt8 (l0.take 200) := fun x hx => hb0 x (List.mem_of_mem_take hx)
  have hc : Byt8 (l1.take 100) := fun x hx => hb1 x (List.mem_of_mem_take hx)
  have hn : (l0.take 200).length ≤ 200 := by rw [List.length_take]; omega
  have hm : (l1.take 100).length ≤ 100 := by rw [List.length_take]; omega
  generalize hK : (5000 : Nat) = K
  unfold duffellaw24_RecordBehind.f
  rw [show MyCut.cut_u8.f l0 200 = some (l0.take 200) from MyCut.cut_u8.nat l0 200, show MyCut.cut_u8.f l1 100 = some (l1.take 100) from MyCut.cut_u8.nat l1 100]
  simp only [Option.bind_some]
  generalize l0.take 200 = b at *
  generalize l1.take 100 = c at *
  have hw : record_WriteEnd.f a0 a1 a2 a3 a4 a5 c = some (outOf (endS a0 a1 a2 a3 a4 a5 c), (endS a0 a1 a2 a3 a4 a5 c).2) := if_pos ⟨h4, h5, by omega⟩
  have hlv := lives_run K (by omega)
  rw [hw]
  simp only [Option.bind_some]
  by_cases h : (endS a0 a1 a2 a3 a4 a5 c).2 = 0
  · obtain ⟨_, _, _, _, hcl, hL⟩ := end_zero h
    have hout : outOf (endS a0 a1 a2 a3 a4 a5 c) = endL a0 a1 a2 a3 a4 a5 c := by unfold outOf; rw [if_pos h, hL]
    have hlen := endL_length a0 a1 a2 a3 a4 a5 c
    have hby : Byt8 (endL a0 a1 a2 a3 a4 a5 c) := endL_bytes hc
    have hbh := behind b c a0 a1 a2 a3 a4 a5 hcl
    refine (if_pos h).trans ?_
    rw [hout]
    generalize endL a0 a1 a2 a3 a4 a5 c = L at *
    refine (if_neg (by omega)).trans ((if_pos (by omega)).trans ?_)
    rw [rfind_run (L.drop 4) (hby.drop 4) (by rw [List.length_drop]; omega) _ _ K (by rw [List.length_drop]; omega)]
    simp only [Option.bind_some]
    rw [show min ((L.drop 4).length - 3) ((L.length : Int) + 1).toNat = (L.drop 4).length - 3 by rw [List.length_drop]; omega]
    by_cases ht : lastB (P4 (L.drop 4) 101010256) ((L.drop 4).length - 3) ≥ 0
    · refine (if_pos ht).trans ?_
      rw [hlv]; rfl
    · refine (if_neg ht).trans ?_
      have hcp : duffelref01_Copy.f b = some b := by
        unfold duffelref01_Copy.f
        exact (if_pos (by simp; omega)).trans (by simp)
      rw [hcp]
      simp only [Option.bind_some]
      refine (if_pos (by omega)).trans ?_
      have hbl : Byt8 (b ++ L) := fun x hx => (List.mem_append.mp hx).elim (hb x) (hby x)
      rw [findEnd_run (b ++ L) hbl (by rw [List.length_append]; omega) K (by rw [List.length_append]; omega), hbh (lastB_neg (by omega))]
      simp only [Option.bind_some]
      refine (if_pos (by trivial)).trans ?_
      rw [hlv]; rfl
  · refine (if_neg h).trans ?_
    rw [hlv]; rfl
end Go.Proofs.Ytpmiofjhgmdghaa.RBR
