/- TextUntabs: the plain law. -/
import Derived.Test.YtlliomkjnhbbbaaDoorTDx4
import Derived.Test.YtlliomkjnhbbbaaDoorPureTextTabs
namespace Go.Proofs.YtlliomkjnhbbbaaDoor.Pure
open Go Go.RowKit Go.Proofs.YtlliomkjnhbbbaaDoorW.PrintWords Go.Proofs.YtlliomkjnhbbbaaDoorW.PrintLast
open Go.Proofs.YtlliomkjnhbbbaaDoor.TD Go.Proofs.YtlliomkjnhbbbaaDoor.MyCut Go.Proofs.YtlliomkjnhbbbaaDoor.Tx
theorem has_loop (L : List Int) (c : Int) (hl : L.length ≤ 1000000000) : ∀ (K i : Nat), i ≤ L.length → L.length - i + 1 ≤ K → duffelref39_Has.l0 K L c (i : Int) = some (decide (c ∈ L.drop i))
  | 0, i, _, h => by omega
  | K + 1, i, hi, hK => by
    rw [duffelref39_Has.l0]
    by_cases g : i < L.length
    · have e2 : wrap64 ((i : Int) + 1) = ((i + 1 : Nat) : Int) := by rw [ws _ (by omega) (by omega)]; omega
      rw [if_pos (by omega), if_pos (by omega), rd_at L i g, e2, List.drop_eq_getElem_cons g]
      by_cases e : L[i] = c
      · rw [if_pos e]
        congr 1
        exact (decide_eq_true (by rw [e]; exact List.mem_cons_self)).symm
      · rw [if_neg e, has_loop L c hl K (i + 1) (by omega) (by omega)]
        congr 1
        rw [decide_eq_decide, List.mem_cons]
        exact ⟨.inr, fun h => h.elim (fun h => absurd h.symm e) id⟩
    · rw [if_neg (by omega), List.drop_eq_nil_of_le (by omega)]
      rfl
theorem has_ok (L : List Int) (c : Int) (hl : L.length ≤ 1000000000) (K : Nat) (hK : L.length + 1 ≤ K) : duffelref39_Has.f K L c = some (decide (c ∈ L)) := by
  have h := has_loop L c hl K 0 (by omega) (by omega)
  exact h
theorem untab_no9 : ∀ (L : List Int) (w : Int), (9 : Int) ∉ untabFrom w L
  | [], _ => by simp [untabFrom]
  | c :: l, w => by
    rw [untabFrom, List.mem_append]
    rintro (h | h)
    · split at h
      · have := List.eq_of_mem_replicate h
        omega
      · rename_i hc
        rw [List.mem_singleton] at h
        exact hc h.symm
    · exact untab_no9 l _ h
theorem untab_same : ∀ (L : List Int) (w : Int), (9 : Int) ∉ L → untabFrom w L = L
  | [], _, _ => rfl
  | c :: l, w, h => by
    rw [List.mem_cons, not_or] at h
    rw [untabFrom, if_neg (fun e => h.1 e.symm), untab_same l _ h.2]
    rfl
theorem wide_blanks : ∀ (n : Nat) (w : Int) (R : List Int), wideFrom w (List.replicate n 32 ++ R) = wideFrom (w + n) R
  | 0, w, R => by simp
  | n + 1, w, R => by
    rw [List.replicate_succ, List.cons_append, wideFrom, show stepZ w 32 = w + 1 from rfl, wide_blanks n (w + 1) R]
    congr 1
    omega
/-- no byte that goes back or stays -/
def Still (L : List Int) : Prop := ∀ c ∈ L, c ≠ 7 ∧ c ≠ 8 ∧ c ≠ 27
theorem still_step (w c : Int) (h : c ≠ 7 ∧ c ≠ 8 ∧ c ≠ 27) (h9 : c ≠ 9) : stepZ w c = w + 1 := by
  unfold stepZ
  rw [if_neg h9, if_neg h.2.1, if_neg (by omega)]
theorem untab_wide : ∀ (L : List Int) (w : Int), 0 ≤ w → Still L → wideFrom w (untabFrom w L) = wideFrom w L ∧ w + ((untabFrom w L).length : Int) = wideFrom w L
  | [], w, _, _ => by simp [untabFrom, wideFrom]
  | c :: l, w, h0, hs => by
    have b := stepZ_bd w c h0
    have hl : Still l := fun x hx => hs x (List.mem_cons_of_mem _ hx)
    have hc := hs c List.mem_cons_self
    obtain ⟨i1, i2⟩ := untab_wide l (stepZ w c) b.1 hl
    rw [untabFrom, wideFrom]
    by_cases c9 : c = 9
    · subst c9
      have es : stepZ w 9 = (w / 8 + 1) * 8 := by unfold stepZ; rw [if_pos rfl]
      have en : ((stepZ w 9 - w).toNat : Int) = stepZ w 9 - w := by rw [es]; omega
      rw [if_pos rfl, wide_blanks, List.length_append, List.length_replicate]
      have e : w + ((stepZ w 9 - w).toNat : Int) = stepZ w 9 := by rw [en]; omega
      rw [e]
      exact ⟨i1, by omega⟩
    · rw [if_neg c9, List.cons_append, List.nil_append, wideFrom, List.length_cons]
      have es := still_step w c hc c9
      refine ⟨i1, ?_⟩
      omega
theorem lives_3999 : duffellaw39_lives.f 3999 = some true := by decide +kernel
theorem TextUntabs : duffellaw39_TextUntabs.Pure := by
  intro l0 _ _ hw
  refine ⟨4000, ?_⟩
  have hL : (l0.take 200).length ≤ 200 := by rw [List.length_take]; omega
  obtain ⟨L, hLL⟩ : ∃ L, l0.take 200 = L := ⟨_, rfl⟩
  have hc : cut_u8.f l0 200 = some L := by rw [← hLL]; exact cut_ok l0 200
  rw [hLL] at hL
  have b := untab_bd L 0 (by omega)
  have e2 : ∀ l : List Int, l.length ≤ 2000 → text_Untab.f l = some (untabFrom 0 l) := fun l hl => by unfold text_Untab.f; rw [if_pos (by omega)]
  have jt : ∀ x y, duffellaw39_TextUntabs.j0 4000 x y true = some true := by
    intro x y
    rw [duffellaw39_TextUntabs.j0, if_pos rfl, lives_3999]
    rfl
  unfold duffellaw39_TextUntabs.f
  rw [hc, Option.bind_some, e2 L (by omega), Option.bind_some, has_ok _ 9 (by omega) 4000 (by omega), Option.bind_some, decide_eq_false (untab_no9 L 0), if_neg (by simp), has_ok L 7 (by omega) 4000 (by omega), Option.bind_some]
  by_cases h7 : (7 : Int) ∈ L
  · rw [if_pos (decide_eq_true h7)]; exact jt _ _
  rw [decide_eq_false h7, if_neg (by simp), has_ok L 8 (by omega) 4000 (by omega), Option.bind_some]
  by_cases h8 : (8 : Int) ∈ L
  · rw [if_pos (decide_eq_true h8)]; exact jt _ _
  rw [decide_eq_false h8, if_neg (by simp), has_ok L 27 (by omega) 4000 (by omega), Option.bind_some]
  by_cases h27 : (27 : Int) ∈ L
  · rw [decide_eq_true h27]; exact jt _ _
  have hs : Still L := fun c hc => ⟨fun e => h7 (e ▸ hc), fun e => h8 (e ▸ hc), fun e => h27 (e ▸ hc)⟩
  obtain ⟨i1, i2⟩ := untab_wide L 0 (by omega) hs
  have e3 : untabFrom 0 (untabFrom 0 L) = untabFrom 0 L := untab_same _ 0 (untab_no9 L 0)
  rw [decide_eq_false h27, duffellaw39_TextUntabs.j0, if_neg (by simp), wide_ok _ (by omega) 3999 (by omega), Option.bind_some, wide_ok L (by omega) 3999 (by omega), Option.bind_some, if_pos i1, Option.bind_some, if_pos (by omega), e2 _ (by omega), Option.bind_some, e3, same_ok _ (by omega) 3999 (by omega), Option.bind_some, if_pos rfl, lives_3999]
  rfl
end Go.Proofs.YtlliomkjnhbbbaaDoor.Pure
