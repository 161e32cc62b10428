/- TextTabs: the plain law. -/
import Derived.Test.YtlliomkjnhbbbaaDoorTDx3
namespace Go.Proofs.YtlliomkjnhbbbaaDoor.Pure
open Go Go.RowKit Go.Proofs.YtlliomkjnhbbbaaDoorW.PrintWords Go.Proofs.YtlliomkjnhbbbaaDoorW.PrintLast
open Go.Proofs.YtlliomkjnhbbbaaDoor.TD Go.Proofs.YtlliomkjnhbbbaaDoor.MyCut Go.Proofs.YtlliomkjnhbbbaaDoor.Tx
theorem u8_of {x : Int} (h : (Lit.int .u8 x).wf = true) : 0 ≤ x ∧ x ≤ 255 := by simpa [Lit.wf, IntKind.min, IntKind.max, IntKind.signed, IntKind.bits] using h
theorem ws (x : Int) (h : -9223372036854775808 ≤ x) (h2 : x ≤ 9223372036854775807) : wrap64 x = x := by
  unfold wrap64; first | omega | (simp only []; omega)
theorem rd_at (l : List Int) (i : Nat) (h : i < l.length) : rd l (i : Int) = l[i] := by
  unfold rd
  rw [Int.toNat_natCast, List.getD_eq_getElem?_getD, List.getElem?_eq_getElem h]; rfl
theorem cut_ok (l : List Int) (n : Nat) : cut_u8.f l (n : Int) = some (l.take n) := by
  unfold cut_u8.f
  by_cases c : (l.length : Int) > (n : Int)
  · rw [if_pos c, if_pos (by omega), Int.toNat_natCast]
  · rw [if_neg c, List.take_of_length_le (by omega)]
theorem step_eq (w c : Int) (h0 : 0 ≤ w) (h1 : w ≤ 100000000) : text_step.f w c = some (stepZ w c) := by
  unfold text_step.f stepZ
  by_cases c9 : c = 9
  · rw [if_pos c9, if_pos c9, Int.tdiv_eq_ediv_of_nonneg h0, ws (w / 8) (by omega) (by omega), ws (w / 8 + 1) (by omega) (by omega), ws _ (by omega) (by omega)]
  rw [if_neg c9, if_neg c9]
  by_cases c8 : c = 8
  · rw [if_pos c8, if_pos c8, ws (w - 1) (by omega) (by omega)]
    congr 1
    unfold Go.Proofs.YtlliomkjnhbbbaaDoorW.PrintWords.mx
    repeat' split
    all_goals omega
  rw [if_neg c8, if_neg c8]
  by_cases c7 : c = 7
  · rw [if_pos c7, if_pos (.inl c7)]
  rw [if_neg c7]
  by_cases c27 : c = 27
  · rw [if_pos c27, if_pos (.inr c27)]
  rw [if_neg c27, if_neg (by omega), ws _ (by omega) (by omega)]
def wideFrom : Int → List Int → Int
  | w, [] => w
  | w, c :: l => wideFrom (stepZ w c) l
theorem wide_loop (L : List Int) (hl : L.length ≤ 1000000) : ∀ (K i : Nat) (w : Int), i ≤ L.length → 0 ≤ w → w ≤ 8 * i → L.length - i + 1 ≤ K →
    text_Wide.l0 K w L (L.length : Int) (i : Int) = some (wideFrom w (L.drop i))
  | 0, i, w, _, _, _, h => by omega
  | K + 1, i, w, hi, h0, h1, hK => by
    rw [text_Wide.l0]
    by_cases c : i < L.length
    · have e2 : wrap64 ((i : Int) + 1) = ((i + 1 : Nat) : Int) := by rw [ws _ (by omega) (by omega)]; omega
      have b := stepZ_bd w L[i] h0
      rw [if_pos (by omega), if_pos (by omega), if_pos (by omega), rd_at L i c, step_eq w _ h0 (by omega), Option.bind_some, e2, List.drop_eq_getElem_cons c, wideFrom]
      exact wide_loop L hl K (i + 1) _ (by omega) b.1 (by omega) (by omega)
    · rw [if_neg (by omega), List.drop_eq_nil_of_le (by omega), wideFrom]
theorem wide_ok (L : List Int) (hl : L.length ≤ 1000000) (K : Nat) (hK : L.length + 1 ≤ K) : text_Wide.f K L = some (wideFrom 0 L) := by
  have h := wide_loop L hl K 0 0 (by omega) (by omega) (by omega) (by omega)
  exact h
theorem same_loop (L : List Int) (hl : L.length ≤ 1000000000) : ∀ (K i : Nat), i ≤ L.length → L.length - i + 1 ≤ K → duffelref01_Same.l0 K L L (i : Int) = some true
  | 0, i, _, h => by omega
  | K + 1, i, hi, hK => by
    rw [duffelref01_Same.l0]
    by_cases c : i < L.length
    · have e2 : wrap64 ((i : Int) + 1) = ((i + 1 : Nat) : Int) := by rw [ws _ (by omega) (by omega)]; omega
      rw [if_pos (by omega), if_pos (by omega), if_pos (by omega), if_pos rfl, e2]
      exact same_loop L hl K (i + 1) (by omega) (by omega)
    · rw [if_neg (by omega)]
theorem same_ok (L : List Int) (hl : L.length ≤ 1000000000) (K : Nat) (hK : L.length + 1 ≤ K) : duffelref01_Same.f K L L = some true := by
  unfold duffelref01_Same.f
  rw [if_pos rfl]
  exact same_loop L hl K 0 (by omega) (by omega)
theorem blanks_run (L : List Int) (i m : Nat) (R : List Int × Int) (hi : i < L.length) (hl : L.length ≤ 1000000) : ∀ (d K : Nat) (out : List Int) (w : Int), 0 ≤ w → w + d ≤ 100000000 → out.length + d ≤ 100000000 → (w + d) % 8 = 0 → (∀ e : Nat, e < d → (w + e) % 8 ≠ 0) → d ≤ 8 → m + d + 1 ≤ K →
    (∀ K', m ≤ K' → duffelref39_Untab.l0 K' L (out ++ List.replicate d 32) (w + d) ((i + 1 : Nat) : Int) = some R) → duffelref39_Untab.l1 K L out w (i : Int) = some R
  | d, 0, _, _, _, _, _, _, _, _, h, _ => by omega
  | 0, K + 1, out, w, h0, h1, ho, hz, hn, _, hK, hR => by
    rw [duffelref39_Untab.l1, Int.tmod_eq_emod_of_nonneg h0, if_pos (by omega)]
    have e2 : wrap64 ((i : Int) + 1) = ((i + 1 : Nat) : Int) := by rw [ws _ (by omega) (by omega)]; omega
    have h := hR K (by omega)
    rw [List.replicate_zero, List.append_nil, show w + ((0 : Nat) : Int) = w from by omega] at h
    rw [e2]; exact h
  | d + 1, K + 1, out, w, h0, h1, ho, hz, hn, hd, hK, hR => by
    have n0 := hn 0 (by omega)
    rw [duffelref39_Untab.l1, Int.tmod_eq_emod_of_nonneg h0, if_neg (by simpa using n0), if_pos (by omega), ws (w + 1) (by omega) (by omega)]
    refine blanks_run L i m R hi hl d K (out ++ [32]) (w + 1) (by omega) (by omega) (by simp; omega) (by rw [← hz]; congr 1; omega) (fun e he => ?_) (by omega) (by omega) (fun K' hK' => ?_)
    · have := hn (e + 1) (by omega)
      rw [show w + 1 + (e : Int) = w + ((e + 1 : Nat) : Int) from by omega]; exact this
    · have h := hR K' hK'
      rw [List.append_assoc, show [(32 : Int)] ++ List.replicate d 32 = List.replicate (d + 1) 32 from rfl, show w + 1 + (d : Int) = w + ((d + 1 : Nat) : Int) from by omega]
      exact h
theorem ref_loop (L : List Int) (hl : L.length ≤ 100000) : ∀ (n i K : Nat) (out : List Int) (w : Int), n = L.length - i → i ≤ L.length → 0 ≤ w → w ≤ 8 * i → out.length ≤ 8 * i → 12 * n + 1 ≤ K →
    duffelref39_Untab.l0 K L out w (i : Int) = some (out ++ untabFrom w (L.drop i), wideFrom w (L.drop i))
  | n, i, 0, _, _, _, _, _, _, _, h => by omega
  | 0, i, K + 1, out, w, hn, hi, h0, h1, ho, hK => by
    rw [duffelref39_Untab.l0, if_neg (by omega), List.drop_eq_nil_of_le (by omega), untabFrom, wideFrom, List.append_nil]
  | n + 1, i, K + 1, out, w, hn, hi, h0, h1, ho, hK => by
    have c : i < L.length := by omega
    have e2 : wrap64 ((i : Int) + 1) = ((i + 1 : Nat) : Int) := by rw [ws _ (by omega) (by omega)]; omega
    have b := stepZ_bd w L[i] h0
    rw [duffelref39_Untab.l0, if_pos (by omega), if_pos (by omega), rd_at L i c, List.drop_eq_getElem_cons c, untabFrom, wideFrom]
    by_cases c9 : L[i] = 9
    · rw [if_pos c9, if_pos (by omega), if_pos c9, c9]
      rw [c9] at b
      have es : stepZ w 9 = (w / 8 + 1) * 8 := by unfold stepZ; rw [if_pos rfl]
      obtain ⟨d, hd⟩ : ∃ d : Nat, (d : Int) = 7 - w % 8 := ⟨(7 - w % 8).toNat, by omega⟩
      have ed : (stepZ w 9 - w).toNat = d + 1 := by rw [es]; omega
      have ew : w + 1 + (d : Int) = stepZ w 9 := by rw [es]; omega
      rw [ws (w + 1) (by omega) (by omega), ed]
      refine blanks_run L i (12 * n + 1) _ c (by omega) d K (out ++ [32]) (w + 1) (by omega) (by omega) (by simp; omega) (by rw [ew, es]; omega) (fun e he => by omega) (by omega) (by omega) (fun K' hK' => ?_)
      rw [ew, List.append_assoc, show [(32 : Int)] ++ List.replicate d 32 = List.replicate (d + 1) 32 from rfl]
      have ih := ref_loop L hl n (i + 1) K' (out ++ List.replicate (d + 1) 32) (stepZ w 9) (by omega) (by omega) b.1 (by omega) (by simp only [List.length_append, List.length_replicate]; omega) hK'
      rw [ih, List.append_assoc]
    · rw [if_neg c9, if_pos (by omega), if_neg c9, Option.bind_some]
      obtain ⟨K, rfl⟩ : ∃ j, K = j + 1 := ⟨K - 1, by omega⟩
      have ih := ref_loop L hl n (i + 1) K (out ++ [L[i]]) (stepZ w L[i]) (by omega) (by omega) b.1 (by omega) (by simp only [List.length_append, List.length_cons, List.length_nil]; omega) (by omega)
      rw [List.append_assoc] at ih
      have key : ∀ b : Bool, (b = true ↔ (L[i] = 8 ∧ w > 0)) → duffelref39_Untab.j2 (K + 1) L (out ++ [L[i]]) w (i : Int) L[i] b = some (out ++ ([L[i]] ++ untabFrom (stepZ w L[i]) (L.drop (i + 1))), wideFrom (stepZ w L[i]) (L.drop (i + 1))) := by
        intro b hb
        rw [duffelref39_Untab.j2, e2]
        by_cases hc : b = true
        · obtain ⟨g1, g2⟩ := hb.1 hc
          have es : stepZ w L[i] = w - 1 := by unfold stepZ; rw [if_neg c9, if_pos g1, if_neg (by omega)]
          rw [if_pos hc, if_pos g1, ws (w - 1) (by omega) (by omega)]
          rw [es] at ih ⊢
          exact ih
        · rw [if_neg hc]
          by_cases g8 : L[i] = 8
          · have hw : w ≤ 0 := by
              apply Classical.byContradiction
              intro h
              exact hc (hb.2 ⟨g8, by omega⟩)
            have es : stepZ w L[i] = w := by unfold stepZ; rw [if_neg c9, if_pos g8, if_pos hw]; omega
            rw [if_pos g8]
            rw [es] at ih ⊢
            exact ih
          rw [if_neg g8]
          by_cases g7 : L[i] = 7
          · have es : stepZ w L[i] = w := by unfold stepZ; rw [if_neg c9, if_neg g8, if_pos (.inl g7)]
            rw [if_pos g7]
            rw [es] at ih ⊢
            exact ih
          rw [if_neg g7]
          by_cases g27 : L[i] = 27
          · have es : stepZ w L[i] = w := by unfold stepZ; rw [if_neg c9, if_neg g8, if_pos (.inr g27)]
            rw [if_pos g27]
            rw [es] at ih ⊢
            exact ih
          · have es : stepZ w L[i] = w + 1 := by unfold stepZ; rw [if_neg c9, if_neg g8, if_neg (by omega)]
            rw [if_neg g27, ws (w + 1) (by omega) (by omega)]
            rw [es] at ih ⊢
            exact ih
      by_cases g8 : L[i] = 8
      · rw [if_pos g8]
        exact key _ (by simp [g8])
      · rw [if_neg g8]
        exact key _ (by simp [g8])
theorem untab_bd : ∀ (L : List Int) (w : Int), 0 ≤ w → (untabFrom w L).length ≤ 8 * L.length
  | [], _, _ => by simp [untabFrom]
  | c :: l, w, h0 => by
    have b := stepZ_bd w c h0
    have ih := untab_bd l (stepZ w c) b.1
    rw [untabFrom, List.length_append]
    have : (if c = 9 then List.replicate (stepZ w 9 - w).toNat 32 else [c]).length ≤ 8 := by
      split
      · rename_i h
        subst h
        rw [List.length_replicate]; omega
      · simp
    simp only [List.length_cons]
    omega
theorem lives_4000 : duffellaw39_lives.f 4000 = some true := by decide +kernel
theorem TextTabs : duffellaw39_TextTabs.Pure := by
  intro l0 _ _ hw
  refine ⟨4000, ?_⟩
  have hL : (l0.take 200).length ≤ 200 := by rw [List.length_take]; omega
  obtain ⟨L, hLL⟩ : ∃ L, l0.take 200 = L := ⟨_, rfl⟩
  have hc : cut_u8.f l0 200 = some L := by rw [← hLL]; exact cut_ok l0 200
  rw [hLL] at hL
  have e1 : duffelref39_Untab.f 4000 L = some (untabFrom 0 L, wideFrom 0 L) := by
    have h := ref_loop L (by omega) L.length 0 4000 [] 0 (by omega) (by omega) (by omega) (by omega) (by simp) (by omega)
    exact h
  have e2 : text_Untab.f L = some (untabFrom 0 L) := by unfold text_Untab.f; rw [if_pos (by omega)]
  have b := untab_bd L 0 (by omega)
  unfold duffellaw39_TextTabs.f
  rw [hc, Option.bind_some, e1, Option.bind_some, e2, Option.bind_some, same_ok _ (by omega) 4000 (by omega), Option.bind_some, if_pos rfl, wide_ok L (by omega) 4000 (by omega), Option.bind_some, if_pos rfl, lives_4000]
  rfl
end Go.Proofs.YtlliomkjnhbbbaaDoor.Pure
