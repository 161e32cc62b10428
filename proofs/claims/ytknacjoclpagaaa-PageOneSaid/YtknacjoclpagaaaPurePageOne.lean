/- PageOne, of what the printed functions compute: no two bytes have the same character; a text of one byte more. -/
import Derived.Test.YtknacjoclpagaaaPOx1
import Derived.OpenShut
namespace Go.Proofs.Ytknacjoclpagaaa.Pure
open Go.RowKit Go.Proofs.Ytknacjoclpagaaa.PO Go.Proofs.YtknacjoclpagaaaW.PrintWords Go.Proofs.YtknacjoclpagaaaW.PrintLast Go.Proofs.YtknacjoclpagaaaW.PrintMore Go.Proofs.Ytknacjoclpagaaa.Pg
theorem chars_nodup : ((List.range 256).map char).Nodup := by decide +kernel
theorem char_inj (a b : Nat) (ha : a < 256) (hb : b < 256) (h : char a = char b) : a = b := by
  have h0 : a < ((List.range 256).map char).length := by simp; exact ha
  have h1 : b < ((List.range 256).map char).length := by simp; exact hb
  refine (List.getElem_inj (h₀ := h0) (h₁ := h1) chars_nodup).mp ?_
  simpa using h
theorem textB_append (l m : List Int) : textB (l ++ m) = textB l ++ textB m := by
  have e : textL (l ++ m) = textL l ++ textL m := by simp [textL]
  apply ByteArray.ext
  show (textL (l ++ m)).toArray = _
  rw [e, ByteArray.data_append]
  show _ = (textL l).toArray ++ (textL m).toArray
  simp
theorem textB_size (l : List Int) : (textB l).size ≤ 4 * l.length := by
  have h := textL_length l
  show (textL l).toArray.size ≤ _
  simpa using h
theorem PageOne : duffellaw21_PageOne.Pure := by
  intro a0 a1 l2 h0 h1 hl hcap hwf
  have b0 := bounds_u8 h0
  have b1 := bounds_u8 h1
  obtain ⟨a, rfl⟩ := Int.eq_ofNat_of_zero_le b0.1
  obtain ⟨b, rfl⟩ := Int.eq_ofNat_of_zero_le b1.1
  have hby : ∀ x ∈ l2.take 60, 0 ≤ x ∧ x ≤ 255 := fun x hx => bounds_u8 (hwf x (List.mem_of_mem_take hx))
  have hn : (l2.take 60).length ≤ 60 := by rw [List.length_take]; omega
  unfold duffellaw21_PageOne.f
  rw [show MyCut.cut_u8.f l2 60 = some (l2.take 60) from MyCut.cut_u8.nat l2 60]
  rw [Option.bind_some]
  generalize l2.take 60 = l at *
  have ra : page_Rune.f (a : Int) = some (char a) := if_pos b0
  have rb : page_Rune.f (b : Int) = some (char b) := if_pos b1
  have hcp : duffelref01_Copy.f l = some l := by
    unfold duffelref01_Copy.f
    exact (if_pos (by simp; omega)).trans (by simp)
  have tx : ∀ m : List Int, m.length ≤ 1000 → (∀ x ∈ m, 0 ≤ x ∧ x ≤ 255) → page_Text.f m = some (textB m) := fun m h h2 =>
    if_pos ⟨by omega, List.all_eq_true.mpr fun x hx => decide_eq_true (h2 x hx)⟩
  have t1 := tx (l ++ [(a : Int)]) (by rw [List.length_append]; simp; omega) (fun x hx => (List.mem_append.mp hx).elim (hby x) (fun h => by rw [List.mem_singleton.mp h]; exact b0))
  have t2 := tx l (by omega) hby
  have t3 := tx [(a : Int)] (by simp) (fun x hx => by rw [List.mem_singleton.mp hx]; exact b0)
  have hs2 := textB_size l
  have hs3 := textB_size [(a : Int)]
  rw [ra, Option.bind_some, rb, Option.bind_some]
  refine (if_pos ?_).trans ?_
  · by_cases e : a = b
    · subst e; simp
    · have hne : ¬ char a = char b := fun h => e (char_inj a b (by omega) (by omega) h)
      have hne2 : ¬ (a : Int) = (b : Int) := fun h => e (by omega)
      rw [beq_eq_false_iff_ne.mpr hne, beq_eq_false_iff_ne.mpr hne2]; rfl
  · rw [hcp, Option.bind_some]
    refine (if_pos (by omega)).trans ?_
    rw [t1, Option.bind_some, t2, Option.bind_some, t3, Option.bind_some]
    refine (if_pos (by simp at hs3; omega)).trans ((if_pos ?_).trans rfl)
    rw [textB_append]
end Go.Proofs.Ytknacjoclpagaaa.Pure
