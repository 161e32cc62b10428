/- PageTexts, of what the printed functions compute. -/
import Derived.Test.YtknacjoclpagaaaDoorPurePage0
import Derived.Lib.Bytes
namespace Go.Proofs.YtknacjoclpagaaaDoor.Pure
set_option linter.unusedVariables false
set_option linter.unusedSimpArgs false
open Go.Lib
open Go.RowKit Go.Proofs.YtknacjoclpagaaaDoor.PP Go.Proofs.YtknacjoclpagaaaDoorW.PrintWords Go.Proofs.YtknacjoclpagaaaDoorW.PrintLast Go.Proofs.YtknacjoclpagaaaDoorW.PrintMore Go.Proofs.YtknacjoclpagaaaDoor.Pg
theorem ref_char : ∀ c : Nat, c < 256 → duffelref21_Char.f (c : Int) = some (char c) := by decide +kernel
theorem ref_put : ∀ c : Nat, c < 256 → duffelref21_Put.f (char c) = some (encodeRuneZ (char c)) := by decide +kernel
theorem enc_len : ∀ c : Nat, c < 256 → (encodeRune (char c)).length ≤ 3 := by decide +kernel
theorem str_list (l : List Int) : (strOfNums l).toList = l.map fun x => x.toNat.toUInt8 := by
  rw [Lib.strOfNums_toList]; rfl
section
variable {s : ByteArray} {r n : Nat}
theorem hit (hd : decodeL s.data.toList = (r, n)) (hpos : 0 < s.size) (c m : Nat) (hc : c < 256) (h1 : 1 ≤ m) (h2 : m ≤ s.size) :
    ((strOfNums (encodeRuneZ (char c))).toList = (s.extract 0 m).toList) ↔ (byteOk (r : Int) = true ∧ m = n ∧ (c : Int) = byteZ (r : Int)) := by
  have k := char_lo c hc
  have hlen : s.data.toList.length = s.size := by rw [← Lib.size_eq]
  rw [str_list, ByteArray.toList_eq, show (s.extract 0 m).data.toList = s.data.toList.take m by simp]
  constructor
  · intro h
    have e : s.data.toList = encodeRune (char c) ++ s.data.toList.drop m := by
      rw [show encodeRune (char c) = s.data.toList.take m from h, List.take_append_drop]
    have hde := decode_encode (char c) k.1 k.2.1 k.2.2.1 (s.data.toList.drop m)
    rw [← e, hd] at hde
    have e1 : r = (char c).toNat := congrArg Prod.fst hde
    have e2 : n = (encodeRune (char c)).length := congrArg Prod.snd hde
    have e3 : (encodeRune (char c)).length = m := by
      rw [show encodeRune (char c) = s.data.toList.take m from h, List.length_take]; omega
    have e4 : (r : Int) = char c := by omega
    rw [e4]
    exact ⟨k.2.2.2.1, by omega, k.2.2.2.2.symm⟩
  · rintro ⟨h1, rfl, h3⟩
    have cb := char_byte _ h1
    rw [← h3, Int.toNat_natCast] at cb
    have hne : s.data.toList ≠ [] := by intro e; rw [e] at hlen; simp at hlen; omega
    have hv : ¬ ((decodeL s.data.toList).1 = 65533 ∧ (decodeL s.data.toList).2 = 1) := by
      rw [hd]
      intro hv
      have e5 : (r : Int) = 65533 := by have := hv.1; simp only at this; omega
      rw [e5] at h1
      exact Bool.noConfusion (bad_rune.symm.trans h1)
    have := encode_decode _ hne hv
    rw [hd] at this
    rw [cb.2.2]
    exact this
set_option maxRecDepth 100000 in
theorem one_hit (hd : decodeL s.data.toList = (r, n)) (hpos : 0 < s.size) (h1 : byteOk (r : Int) = true) (hn1 : 1 ≤ n) (hn2 : n ≤ s.size) :
    ∀ (K i : Nat), (i : Int) ≤ byteZ (r : Int) → 257 - i ≤ K → duffelref21_one.l1 K s n i = some (byteZ (r : Int), (n : Int))
  | 0, i, h, hK => by have := (char_byte _ h1).2.1; omega
  | K + 1, i, h, hK => by
    have cb := (char_byte _ h1).2.1
    have hi : i < 256 := by omega
    have ei : (i : Int) % 256 = i := by omega
    rw [duffelref21_one.l1, if_pos (by omega), ei, ref_char i hi, Option.bind_some, ref_put i hi, Option.bind_some, if_pos (by omega), if_pos (by omega), Int.toNat_natCast]
    by_cases g : (i : Int) = byteZ (r : Int)
    · rw [if_pos ((hit hd hpos i n hi hn1 hn2).2 ⟨h1, rfl, g⟩), g]
    · rw [if_neg (fun h => g ((hit hd hpos i n hi hn1 hn2).1 h).2.2), w_small _ (by omega) (by omega), show (i : Int) + 1 = ((i + 1 : Nat) : Int) by omega]
      exact one_hit hd hpos h1 hn1 hn2 K (i + 1) (by omega) (by omega)
theorem one_miss (hd : decodeL s.data.toList = (r, n)) (hpos : 0 < s.size) (m : Nat) (h1 : 1 ≤ m) (h2 : m ≤ s.size) (h3 : m ≤ 3) (hno : ¬ (byteOk (r : Int) = true ∧ m = n)) (K : Nat) :
    ∀ (d i : Nat), i + d = 256 → duffelref21_one.l1 (K + d + 1) s m i = duffelref21_one.l0 K s ((m + 1 : Nat) : Int)
  | 0, i, h => by
    obtain rfl : i = 256 := by omega
    rw [duffelref21_one.l1, if_neg (by omega), w_small _ (by omega) (by omega)]
    rfl
  | d + 1, i, h => by
    have hi : i < 256 := by omega
    have ei : (i : Int) % 256 = i := by omega
    rw [show K + (d + 1) + 1 = (K + d + 1) + 1 by omega, duffelref21_one.l1, if_pos (by omega), ei, ref_char i hi, Option.bind_some, ref_put i hi, Option.bind_some, if_pos (by omega), if_pos (by omega), Int.toNat_natCast,
      if_neg (fun h => hno ⟨((hit hd hpos i m hi h1 h2).1 h).1, ((hit hd hpos i m hi h1 h2).1 h).2.1⟩), w_small _ (by omega) (by omega), show (i : Int) + 1 = ((i + 1 : Nat) : Int) by omega]
    exact one_miss hd hpos m h1 h2 h3 hno K d (i + 1) (by omega)
theorem one_from (hd : decodeL s.data.toList = (r, n)) (hpos : 0 < s.size) (hn : byteOk (r : Int) = true → 1 ≤ n ∧ n ≤ 3 ∧ n ≤ s.size) :
    ∀ (d m K : Nat), m + d = 4 → 1 ≤ m → (byteOk (r : Int) = true → m ≤ n) → 300 * (d + 1) ≤ K → duffelref21_one.l0 K s m = some (if byteOk (r : Int) = true then (byteZ (r : Int), (n : Int)) else (0, 0))
  | 0, m, K, hm, h1, hmn, hK => by
    obtain rfl : m = 4 := by omega
    have hno : ¬ byteOk (r : Int) = true := fun h => by have := hmn h; have := hn h; omega
    obtain ⟨k, rfl⟩ : ∃ k, K = k + 2 := ⟨K - 2, by omega⟩
    rw [if_neg hno, duffelref21_one.l0, if_neg (by omega), duffelref21_one.j1, if_neg (by decide)]
  | d + 1, m, K, hm, h1, hmn, hK => by
    by_cases hs : m ≤ s.size
    · by_cases hh : byteOk (r : Int) = true ∧ m = n
      · obtain ⟨hb, rfl⟩ := hh
        obtain ⟨k, rfl⟩ : ∃ k, K = k + 2 := ⟨K - 2, by omega⟩
        rw [if_pos hb, duffelref21_one.l0, if_pos (by omega), decide_eq_true (by omega), duffelref21_one.j1, if_pos rfl]
        exact one_hit hd hpos hb h1 hs k 0 (char_byte _ hb).1 (by omega)
      · obtain ⟨k, rfl⟩ : ∃ k, K = (k + 256 + 1) + 2 := ⟨K - 259, by omega⟩
        have h9 := one_miss hd hpos m h1 hs (by omega) hh k 256 0 (by omega)
        rw [show ((0 : Nat) : Int) = 0 from rfl] at h9
        rw [duffelref21_one.l0, if_pos (by omega), decide_eq_true (by omega), duffelref21_one.j1, if_pos rfl, h9]
        exact one_from hd hpos hn d (m + 1) k (by omega) (by omega) (fun h => by have := hmn h; have : m ≠ n := fun e => hh ⟨h, e⟩; omega) (by omega)
    · have hno : ¬ byteOk (r : Int) = true := fun h => by have := hmn h; have := hn h; omega
      obtain ⟨k, rfl⟩ : ∃ k, K = k + 2 := ⟨K - 2, by omega⟩
      rw [if_neg hno, duffelref21_one.l0, if_pos (by omega), decide_eq_false (by omega), duffelref21_one.j1, if_neg (by decide)]
end
theorem one_ok (s : ByteArray) (K : Nat) (hK : 1200 ≤ K) (hpos : 0 < s.size) : duffelref21_one.f K s = some (if byteOk ((decodeL s.data.toList).1 : Int) = true then (byteZ ((decodeL s.data.toList).1 : Int), ((decodeL s.data.toList).2 : Int)) else (0, 0)) := by
  have hlen : s.data.toList.length = s.size := by rw [← Lib.size_eq]
  have hne : s.data.toList ≠ [] := by intro e; rw [e] at hlen; simp at hlen; omega
  refine one_from (s := s) (r := (decodeL s.data.toList).1) (n := (decodeL s.data.toList).2) rfl hpos (fun h => ?_) 3 1 K (by omega) (by omega) (fun _ => decodeL_width _) (by omega)
  have hle := decodeL_le _ hne
  have cb := char_byte _ h
  have hv : ¬ ((decodeL s.data.toList).1 = 65533 ∧ (decodeL s.data.toList).2 = 1) := by
    intro hv
    rw [hv.1] at h
    exact Bool.noConfusion (bad_rune.symm.trans h)
  have e := encode_decode _ hne hv
  have e2 := enc_len (byteZ ((decodeL s.data.toList).1 : Int)).toNat (by omega)
  rw [cb.2.2, e, List.length_take] at e2
  exact ⟨decodeL_width _, by omega, by omega⟩
set_option maxRecDepth 100000 in
theorem rbytes : ∀ (N K : Nat) (s : ByteArray) (acc : List Int), s.size ≤ N → N + 1500 ≤ K → acc.length + N ≤ 1000000 →
    duffelref21_Bytes.l0 K s acc = some (bytesR ((dec s.data.toList).map (acc ++ ·)))
  | N, 0, s, acc, _, h, _ => by omega
  | 0, K + 1, s, acc, hN, hK, ha => by
    have hlen : s.data.toList.length = s.size := by rw [← Lib.size_eq]
    have e : s.data.toList = [] := List.eq_nil_of_length_eq_zero (by omega)
    rw [duffelref21_Bytes.l0, if_neg (by omega), e, dec_nil]
    simp [bytesR]
  | N + 1, K + 1, s, acc, hN, hK, ha => by
    have hlen : s.data.toList.length = s.size := by rw [← Lib.size_eq]
    rw [duffelref21_Bytes.l0]
    by_cases hp : 0 < s.size
    · have hne : s.data.toList ≠ [] := by intro e; rw [e] at hlen; simp at hlen; omega
      rw [if_pos (by omega), one_ok s K (by omega) hp, Option.bind_some, dec_step _ hne]
      have hw := decodeL_width s.data.toList
      have hle := decodeL_le _ hne
      generalize (decodeL s.data.toList).1 = r at *
      generalize (decodeL s.data.toList).2 = n at *
      generalize byteOk (r : Int) = q at *
      generalize byteZ (r : Int) = b at *
      by_cases hb : q = true
      · rw [if_pos hb, if_pos hb]
        have ex : (s.extract n s.size).data.toList = s.data.toList.drop n := by
          have h9 : (s.extract n s.size).data.toList = (s.data.toList.drop n).take (s.size - n) := by simp [List.extract_eq_take_drop]
          rw [h9]
          exact List.take_of_length_le (by rw [List.length_drop]; omega)
        have hsz : (s.extract n s.size).size = s.size - n := by rw [ByteArray.size_extract]; omega
        have ih := rbytes N K (s.extract n s.size) (acc ++ [b]) (by omega) (by omega) (by rw [List.length_append]; simp; omega)
        refine (if_neg (by simp only; omega)).trans ((if_pos (by omega)).trans ((if_pos (by simp only; omega)).trans ((if_pos (by simp only; omega)).trans ?_)))
        rw [ex] at ih
        refine ih.trans ?_
        refine congrArg (fun o => some (bytesR o)) ?_
        cases dec (s.data.toList.drop n) with
        | none => rfl
        | some d =>
          show some ((acc ++ [b]) ++ d) = some (acc ++ (b :: d))
          rw [List.append_assoc]
          rfl
      · rw [if_neg hb, if_neg hb]
        exact (if_pos (show ((0 : Int), (0 : Int)).2 = 0 from rfl)).trans rfl
    · have e : s.data.toList = [] := List.eq_nil_of_length_eq_zero (by omega)
      rw [if_neg (by omega), e, dec_nil]
      simp [bytesR]
theorem rtext (L : List Int) (hL : L.length ≤ 1000) (hb : ∀ x ∈ L, 0 ≤ x ∧ x ≤ 255) : ∀ (K i : Nat) (acc : List Int), i ≤ L.length → L.length - i + 1 ≤ K → acc.length ≤ 3 * i →
    duffelref21_Text.l0 K L acc (i : Int) = some (strOfNums (acc ++ (L.drop i).flatMap fun c => encodeRuneZ (char c.toNat)))
  | 0, i, acc, _, h, _ => by omega
  | K + 1, i, acc, hi, hK, ha => by
    rw [duffelref21_Text.l0]
    by_cases g : i < L.length
    · have hx := hb L[i] (List.getElem_mem g)
      obtain ⟨c, hc⟩ := Int.eq_ofNat_of_zero_le hx.1
      have e2 : wrap64 ((i : Int) + 1) = ((i + 1 : Nat) : Int) := by rw [w_small _ (by omega) (by omega)]; omega
      have el := enc_len c (by omega)
      unfold encodeRune at el
      rw [List.length_map] at el
      rw [if_pos (by omega), if_pos (by omega), rd_at L i g, hc, ref_char c (by omega), Option.bind_some, ref_put c (by omega), Option.bind_some, if_pos (by omega), e2,
        rtext L hL hb K (i + 1) _ (by omega) (by omega) (by rw [List.length_append]; omega), List.drop_eq_getElem_cons g, List.flatMap_cons, hc, Int.toNat_natCast, List.append_assoc]
    · rw [if_neg (by omega), List.drop_eq_nil_of_le (by omega), List.flatMap_nil, List.append_nil]
theorem rtext_list (L : List Int) : (strOfNums (L.flatMap fun c => encodeRuneZ (char c.toNat))).toList = textL L := by
  rw [str_list, textL, List.map_flatMap]
  rfl
theorem high_step (L : List Int) (i : Nat) (h : i < L.length) : high (L.take (i + 1)) = (high (L.take i) || decide (128 ≤ L[i])) := by
  unfold high
  rw [List.take_add_one, List.getElem?_eq_getElem h, List.any_append]
  simp
theorem texts_loop (l : List Int) (s : ByteArray) (hl : l.length ≤ 100) (hb : ∀ x ∈ l, 0 ≤ x ∧ x ≤ 255) (c d : List Int) (e f : Int) (hcd : c = d) (hef : e = f) (hc : c.length ≤ 1000) :
    ∀ (K i : Nat), i ≤ l.length → 1500 + (l.length - i) ≤ K → duffellaw21_PageTexts.l0 K l l c e d f (!high (l.take i)) (i : Int) = some true
  | 0, i, _, h => by omega
  | K + 1, i, hi, hK => by
    subst hcd hef
    rw [duffellaw21_PageTexts.l0]
    by_cases g : i < l.length
    · have e2 : wrap64 ((i : Int) + 1) = ((i + 1 : Nat) : Int) := by rw [w_small _ (by omega) (by omega)]; omega
      have ih := texts_loop l s hl hb c c e e rfl rfl hc K (i + 1) (by omega) (by omega)
      rw [high_step l i g] at ih
      rw [if_pos (by omega), e2]
      cases hh : high (l.take i) with
      | true =>
        rw [hh] at ih
        exact (if_neg (by decide)).trans ih
      | false =>
        rw [hh, Bool.false_or] at ih
        refine (if_pos (show (!false) = true from rfl)).trans ?_
        rw [if_pos (by omega), rd_at l i g]
        have e3 : decide (l[i] < 128) = !decide (128 ≤ l[i]) := by
          by_cases q : l[i] < 128
          · rw [decide_eq_true q, decide_eq_false (by omega)]; rfl
          · rw [decide_eq_false q, decide_eq_true (by omega)]; rfl
        rw [e3]
        exact ih
    · obtain rfl : i = l.length := by omega
      rw [if_neg (by omega), text_ok l (by omega) hb, Option.bind_some]
      have ht := rtext l (by omega) hb K 0 [] (by omega) (by omega) (by simp)
      rw [List.drop_zero, List.nil_append] at ht
      have ht2 : duffelref21_Text.f K l = _ := ht
      rw [ht2, Option.bind_some, if_pos (by rw [rtext_list, ByteArray.toList_eq, textB_list]), same_ok c K (by omega) (by omega), Option.bind_some, if_pos rfl, if_pos rfl]
      rw [show page_Plain.f l = some (!high l) from if_pos (by omega), Option.bind_some, List.take_length, if_pos (by simp), same_ok l K (by omega) (by omega), Option.bind_some, if_pos rfl]
      rfl
theorem PageTexts : duffellaw21_PageTexts.Pure := by
  intro l0 a1 hl hcap hwf hs
  have hby : ∀ x ∈ l0.take 100, 0 ≤ x ∧ x ≤ 255 := fun x hx => bounds_u8 (hwf x (List.mem_of_mem_take hx))
  have hn : (l0.take 100).length ≤ 100 := by rw [List.length_take]; omega
  refine ⟨3000, ?_⟩
  unfold duffellaw21_PageTexts.f
  rw [show MyCut.cut_u8.f l0 100 = some (l0.take 100) from MyCut.cut_u8.nat l0 100]
  rw [Option.bind_some]
  generalize l0.take 100 = l at *
  obtain ⟨s, hS, hs2⟩ := short_ok a1
  have hcp : duffelref01_Copy.f l = some l := by
    unfold duffelref01_Copy.f
    exact (if_pos (by simp; omega)).trans (by simp)
  have hrb : duffelref21_Bytes.f 3000 s = some (bytesR (dec s.data.toList)) := by
    have h := rbytes 100 3000 s [] hs2 (by omega) (by simp)
    have e : (dec s.data.toList).map (([] : List Int) ++ ·) = dec s.data.toList := by cases dec s.data.toList <;> simp
    rw [e] at h
    exact h
  rw [hS, Option.bind_some, hcp, Option.bind_some, bytes_ok s (by omega), Option.bind_some, hrb, Option.bind_some]
  have hlen : (bytesR (dec s.data.toList)).1.length ≤ 1000 := by
    cases hd : dec s.data.toList with
    | none => simp [bytesR]
    | some d =>
      have e3 := dec_len _ _ d (Nat.le_refl _) hd
      rw [← Lib.size_eq] at e3
      simp only [bytesR]
      omega
  have := texts_loop l s hn hby (bytesR (dec s.data.toList)).1 (bytesR (dec s.data.toList)).1 (bytesR (dec s.data.toList)).2 (bytesR (dec s.data.toList)).2 rfl rfl hlen 3000 0 (by omega) (by omega)
  exact this
end Go.Proofs.YtknacjoclpagaaaDoor.Pure
