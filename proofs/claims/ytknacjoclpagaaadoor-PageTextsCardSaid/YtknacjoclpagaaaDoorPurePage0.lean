/- Package page, of what the printed functions compute. -/
import Derived.Test.YtknacjoclpagaaaDoorPPx3
import Derived.OpenShut
namespace Go.Proofs.YtknacjoclpagaaaDoor.Pure
open Go.Lib
open Go.RowKit Go.Proofs.YtknacjoclpagaaaDoor.PP Go.Proofs.YtknacjoclpagaaaDoorW.PrintWords Go.Proofs.YtknacjoclpagaaaDoorW.PrintLast Go.Proofs.YtknacjoclpagaaaDoorW.PrintMore Go.Proofs.YtknacjoclpagaaaDoor.Pg
theorem w_small (x : Int) (h0 : -9000000000000000000 ≤ x) (h1 : x ≤ 9000000000000000000) : wrap64 x = x := by unfold wrap64; omega
theorem rd_at (L : List Int) (i : Nat) (h : i < L.length) : rd L (i : Int) = L[i] := by
  unfold rd; rw [Int.toNat_natCast, List.getD_eq_getElem?_getD, List.getElem?_eq_getElem h]; rfl
theorem same_loop (L : List Int) (hl : L.length ≤ 1000000) : ∀ (K i : Nat), i ≤ L.length → L.length - i + 1 ≤ K → duffelref01_Same.l0 K L L (i : Int) = some true
  | 0, i, _, h => by omega
  | K + 1, i, hi, hK => by
    rw [duffelref01_Same.l0]
    by_cases g : i < L.length
    · have e2 : wrap64 ((i : Int) + 1) = ((i + 1 : Nat) : Int) := by rw [w_small _ (by omega) (by omega)]; omega
      rw [if_pos (by omega), if_pos (by omega), if_pos (by omega), if_pos rfl, e2]
      exact same_loop L hl K (i + 1) (by omega) (by omega)
    · rw [if_neg (by omega)]
theorem same_ok (L : List Int) (K : Nat) (hl : L.length ≤ 1000000) (hK : L.length + 1 ≤ K) : duffelref01_Same.f K L L = some true := by
  unfold duffelref01_Same.f
  rw [if_pos rfl]
  exact same_loop L hl K 0 (by omega) (by omega)
theorem textB_list (l : List Int) : (textB l).data.toList = textL l := by simp [textB]
theorem textB_size (l : List Int) : (textB l).size ≤ 4 * l.length := by
  have h := textL_length l
  show (textL l).toArray.size ≤ _
  simpa using h
theorem short_ok (a : ByteArray) : ∃ s, duffelref01_Short.f a 100 = some s ∧ s.size ≤ 100 := by
  unfold duffelref01_Short.f
  by_cases c : (a.size : Int) > 100
  · refine ⟨a.extract 0 100, ?_, ?_⟩
    · rw [if_pos c, if_pos (by decide), if_pos (by omega)]; rfl
    · rw [ByteArray.size_extract]; omega
  · exact ⟨a, if_neg c, by omega⟩
theorem text_ok (m : List Int) (h : m.length ≤ 1000) (h2 : ∀ x ∈ m, 0 ≤ x ∧ x ≤ 255) : page_Text.f m = some (textB m) :=
  if_pos ⟨by omega, List.all_eq_true.mpr fun x hx => decide_eq_true (h2 x hx)⟩
theorem bytes_ok (s : ByteArray) (h : s.size ≤ 1000000) : page_Bytes.f s = some (bytesR (dec s.data.toList)) := if_pos h
theorem PageBack : duffellaw21_PageBack.Pure := by
  intro l0 a1 hl hcap hwf hs
  have hby : ∀ x ∈ l0.take 200, 0 ≤ x ∧ x ≤ 255 := fun x hx => bounds_u8 (hwf x (List.mem_of_mem_take hx))
  have hn : (l0.take 200).length ≤ 200 := by rw [List.length_take]; omega
  refine ⟨1000, ?_⟩
  unfold duffellaw21_PageBack.f
  rw [show MyCut.cut_u8.f l0 200 = some (l0.take 200) from MyCut.cut_u8.nat l0 200]
  rw [Option.bind_some]
  generalize l0.take 200 = l at *
  obtain ⟨s, hS, hs2⟩ := short_ok a1
  have h1 := textB_size l
  rw [hS, Option.bind_some, text_ok l (by omega) hby, Option.bind_some, bytes_ok _ (by omega), Option.bind_some, textB_list, dec_text l hby]
  refine (if_pos rfl).trans ?_
  show ((duffelref01_Same.f 1000 l l).bind fun t114 => (duffellaw21_PageBack.j0 1000 s (!t114))) = some true
  rw [same_ok l 1000 (by omega) (by omega), Option.bind_some]
  show duffellaw21_PageBack.j0 (999 + 1) s false = some true
  rw [duffellaw21_PageBack.j0, if_neg (by decide), bytes_ok s (by omega), Option.bind_some]
  cases hd : dec s.data.toList with
  | none => exact (if_neg (by decide)).trans ((if_pos rfl).trans ((if_pos rfl).trans rfl))
  | some d =>
    obtain ⟨e1, e2⟩ := text_dec _ _ d (Nat.le_refl _) hd
    have e3 := dec_len _ _ d (Nat.le_refl _) hd
    rw [← Lib.size_eq] at e3
    refine (if_pos rfl).trans ?_
    show ((page_Text.f d).bind fun t119 => _) = _
    rw [text_ok d (by omega) e2, Option.bind_some]
    refine (if_pos ?_).trans rfl
    rw [ByteArray.toList_eq, ByteArray.toList_eq, textB_list, e1]
end Go.Proofs.YtknacjoclpagaaaDoor.Pure
