/- wild.part, of what the printed loops compute: the law of * and ?. -/
import Derived.Test.YtegfcemedkajkaaDoorWildGlob0
namespace Go.Proofs.YtegfcemedkajkaaDoor.Wd
open Go.RowKit Go.Proofs.YtegfcemedkajkaaDoorW.PrintWords Go.Proofs.YtegfcemedkajkaaDoorW.PrintLast Go.Proofs.YtegfcemedkajkaaDoorW.PrintMore
set_option linter.unusedVariables false
set_option linter.unusedSimpArgs false
theorem w_inc (i : Nat) (h : i < 1000000) : wrap64 ((i : Int) + 1) = ((i + 1 : Nat) : Int) := by unfold wrap64; omega
theorem rd_nat (l : List Int) (i : Nat) : rd l (i : Int) = l.getD i 0 := by unfold rd; simp
theorem drop_get (l : List Int) (i : Nat) (h : i < l.length) : l.drop i = l.getD i 0 :: l.drop (i + 1) := by
  rw [List.drop_eq_getElem_cons h, List.getD_eq_getElem?_getD, List.getElem?_eq_getElem h]; rfl
theorem part_l1 (p : List Int) (hp : p.length < 1000000) : ∀ (n i K : Nat), p.length - i ≤ n → i ≤ p.length → n < K → WB.wild_part.l1 K p i = some (glob (p.drop i) [])
  | n, i, 0, _, _, h => by omega
  | n, i, K + 1, h1, h2, h3 => by
    unfold WB.wild_part.l1
    by_cases c : i < p.length
    · rw [if_pos (by omega), if_pos (by omega), rd_nat, drop_get p i c]
      by_cases e : p.getD i 0 = 42
      · rw [if_pos e, e, glob_star, w_inc i (by omega)]
        cases n with
        | zero => omega
        | succ n => exact part_l1 p hp n (i + 1) K (by omega) (by omega) (by omega)
      · rw [if_neg e, glob_lit0 _ _ e]
        congr 1
        exact beq_eq_false_iff_ne.mpr (by omega)
    · have e : i = p.length := by omega
      rw [if_neg (by omega), e, List.drop_length]
      congr 1
      exact beq_iff_eq.mpr rfl
/-- what the star's place says: none, or the list behind it, where it began, what was matched since -/
def SRel (p s : List Int) (i k : Nat) (star frm : Int) (ans : Bool) (f : Nat) : Prop :=
  (star = -1 ∧ frm = 0 ∧ f = 0 ∧ ans = glob (p.drop i) (s.drop k)) ∨
  (∃ (j : Nat) (B C : List Int), star = j ∧ frm = f ∧ j < i ∧ f ≤ k ∧ Lit B C ∧ p.drop (j + 1) = B ++ p.drop i ∧ s.drop f = C ++ s.drop k ∧ ans = starOf (glob (p.drop (j + 1))) (s.drop f))
theorem part_exit (p s : List Int) (hp : p.length < 1000000) (K i k : Nat) (star frm : Int) (ans : Bool) (f : Nat) (hi : i ≤ p.length) (hk : k = s.length) (hK : p.length + 5 ≤ K) (h : SRel p s i k star frm ans f) :
    WB.wild_part.l0 K p s i k star frm = some ans := by
  obtain ⟨K, rfl⟩ : ∃ m, K = m + 1 := ⟨K - 1, by omega⟩
  subst hk
  unfold WB.wild_part.l0
  rw [if_neg (by omega), part_l1 p hp p.length i K (by omega) hi (by omega)]
  congr 1
  rcases h with ⟨_, _, _, h⟩ | ⟨j, B, C, _, _, _, _, hl, e1, e2, h⟩
  · rw [h, List.drop_length]
  · rw [h, e1, e2, List.drop_length, List.append_nil, star_end _ hl]
theorem glob_miss (p s : List Int) (i k : Nat) (hk : k < s.length) (hmis : p.drop i = [] ∨ ∃ b P, p.drop i = b :: P ∧ b ≠ 42 ∧ b ≠ 63 ∧ b ≠ s.getD k 0) : glob (p.drop i) (s.drop k) = false := by
  rw [drop_get s k hk]
  rcases hmis with h | ⟨b, P, h, h1, h2, h3⟩
  · rw [h]; rfl
  · rw [h, glob_lit1 b P h1, decide_eq_false h2, decide_eq_false h3]; rfl
theorem mul_step (a b N : Nat) (h : b < a) : (a - (b + 1)) * N + N = (a - b) * N := by
  have e : a - b = (a - (b + 1)) + 1 := by omega
  rw [e, Nat.succ_mul]
theorem part_l0 (p s : List Int) (hp : p.length < 1000000) (hs : s.length < 1000000) : ∀ (n K i k : Nat) (star frm : Int) (ans : Bool) (f : Nat),
    (s.length - f) * (p.length + s.length + 2) + (p.length - i) + (s.length - k) ≤ n → i ≤ p.length → k ≤ s.length → 3 * n + p.length + 5 ≤ K → SRel p s i k star frm ans f →
    WB.wild_part.l0 K p s i k star frm = some ans := by
  intro n
  induction n with
  | zero =>
    intro K i k star frm ans f hm hi hk hK h
    exact part_exit p s hp K i k star frm ans f hi (by omega) (by omega) h
  | succ n ih =>
    intro K i k star frm ans f hm hi hk hK h
    by_cases hks : k = s.length
    · exact part_exit p s hp K i k star frm ans f hi hks (by omega) h
    have hk2 : k < s.length := by omega
    obtain ⟨K, rfl⟩ : ∃ m, K = m + 3 := ⟨K - 3, by omega⟩
    have hfail : (p.drop i = [] ∨ ∃ b P, p.drop i = b :: P ∧ b ≠ 42 ∧ b ≠ 63 ∧ b ≠ s.getD k 0) → WB.wild_part.j2 (K + 1) p s i k star frm false = some ans := by
      intro hmis
      have hg := glob_miss p s i k hk2 hmis
      unfold WB.wild_part.j2
      rw [if_neg (by decide)]
      rcases h with ⟨rfl, rfl, rfl, h⟩ | ⟨j, B, C, rfl, rfl, hj, hf, hl, e1, e2, h⟩
      · rw [if_neg (by decide), h, hg]
      · rw [if_pos (by omega), w_inc j (by omega), w_inc f (by omega)]
        have hms := mul_step s.length f (p.length + s.length + 2) (by omega)
        refine ih K (j + 1) (f + 1) j _ ans (f + 1) (by omega) (by omega) (by omega) (by omega) (Or.inr ⟨j, [], [], rfl, rfl, by omega, Nat.le_refl _, trivial, rfl, rfl, ?_⟩)
        rw [h, drop_get s f (by omega)]
        apply star_cons
        rw [← drop_get s f (by omega), e1, e2, glob_lit _ _ hl]
        exact hg
    unfold WB.wild_part.l0
    rw [if_pos (by omega)]
    by_cases hip : i < p.length
    · rw [if_pos (by omega), if_pos (by omega), rd_nat]
      have ep := drop_get p i hip
      have es := drop_get s k hk2
      by_cases e : p.getD i 0 = 42
      · rw [e]
        unfold WB.wild_part.j1
        rw [if_pos (by decide), w_inc i (by omega)]
        have hle : (s.length - k) * (p.length + s.length + 2) ≤ (s.length - f) * (p.length + s.length + 2) := by
          apply Nat.mul_le_mul_right
          rcases h with ⟨_, _, rfl, _⟩ | ⟨j, B, C, _, _, _, hf, _⟩ <;> omega
        refine ih (K + 1) (i + 1) k i k ans k (by omega) (by omega) (by omega) (by omega) (Or.inr ⟨i, [], [], rfl, rfl, by omega, Nat.le_refl _, trivial, rfl, rfl, ?_⟩)
        rw [e] at ep
        rcases h with ⟨_, _, _, h⟩ | ⟨j, B, C, _, _, _, hf, hl, e1, e2, h⟩
        · rw [h, ep, glob_star]
        · rw [h, e1, e2, ep, star_new _ _ hl]
      · have hmatch : (p.getD i 0 = 63 ∨ p.getD i 0 = s.getD k 0) → WB.wild_part.j2 (K + 1) p s i k star frm true = some ans := by
          intro hb
          unfold WB.wild_part.j2
          rw [if_pos rfl, w_inc i (by omega), w_inc k (by omega)]
          refine ih K (i + 1) (k + 1) star frm ans f (by omega) (by omega) (by omega) (by omega) ?_
          rcases h with ⟨h1, h2, h3, h⟩ | ⟨j, B, C, h1, h2, hj, hf, hl, e1, e2, h⟩
          · refine Or.inl ⟨h1, h2, h3, ?_⟩
            rw [h, ep, es, glob_lit1 _ _ e]
            rcases hb with hb | hb
            · rw [decide_eq_true hb]; rfl
            · rw [decide_eq_true hb, Bool.or_true]; rfl
          · refine Or.inr ⟨j, B ++ [p.getD i 0], C ++ [s.getD k 0], h1, h2, by omega, by omega, hl.snoc e hb, ?_, ?_, h⟩
            · rw [e1, ep, List.append_assoc]; rfl
            · rw [e2, es, List.append_assoc]; rfl
        unfold WB.wild_part.j1
        rw [if_neg (by rw [beq_eq_false_iff_ne.mpr e]; decide), if_pos (by omega), if_pos (by omega), rd_nat]
        by_cases e63 : p.getD i 0 = 63
        · rw [if_pos e63]
          exact hmatch (Or.inl e63)
        · rw [if_neg e63, if_pos (by omega), if_pos (by omega), rd_nat]
          by_cases ek : p.getD i 0 = s.getD k 0
          · rw [beq_iff_eq.mpr ek]
            exact hmatch (Or.inr ek)
          · rw [beq_eq_false_iff_ne.mpr ek]
            exact hfail (Or.inr ⟨_, _, ep, e, e63, ek⟩)
    · rw [if_neg (by omega)]
      unfold WB.wild_part.j1
      rw [if_neg (by decide), if_neg (by omega)]
      exact hfail (Or.inl (by rw [List.drop_eq_nil_iff]; omega))
/-- which parts a pattern's part matches -/
def partB (p s : List Int) : Bool := decide (p = [42, 46, 42]) || glob p s
def bound (p s : List Int) : Nat := 3 * (s.length * (p.length + s.length + 2) + p.length + s.length) + p.length + 5
theorem part_eq (p s : List Int) (hp : p.length < 1000000) (hs : s.length < 1000000) (hr : ∀ x ∈ p, 0 ≤ x ∧ x < 256) (K : Nat) (hK : bound p s ≤ K) : WB.wild_part.f K p s = some (partB p s) := by
  unfold WB.wild_part.f partB
  rw [Lib.strOfNums_toList]
  by_cases e : p = [42, 46, 42]
  · rw [decide_eq_true e, if_pos (by rw [e]; decide)]; rfl
  · have e2 : ¬ Lib.bytesOf p = ([42, 46, 42] : List UInt8) := fun h => e (bytesOf_inj p [42, 46, 42] hr (by decide) (h.trans (by decide)))
    rw [decide_eq_false e, if_neg e2, Bool.false_or]
    have := part_l0 p s hp hs _ K 0 0 (-1) 0 (glob p s) 0 (Nat.le_refl _) (by omega) (by omega) (by unfold bound at hK; simp at hK ⊢; omega) (Or.inl ⟨rfl, rfl, rfl, rfl⟩)
    exact this
end Go.Proofs.YtegfcemedkajkaaDoor.Wd
