/- wild.part's greedy search is the plain law of * and ?. -/
import Derived.Test.YtegfcemedkajkaaDoorWBx3
import Derived.Test.YtegfcemedkajkaaDoorWildSplit0
namespace Go.Proofs.YtegfcemedkajkaaDoor.Wd
open Go.RowKit Go.Proofs.YtegfcemedkajkaaDoorW.PrintWords Go.Proofs.YtegfcemedkajkaaDoorW.PrintLast Go.Proofs.YtegfcemedkajkaaDoorW.PrintMore
set_option linter.unusedVariables false
set_option linter.unusedSimpArgs false
/-- f of some end of the list -/
def starOf (f : List Int → Bool) : List Int → Bool
  | [] => f []
  | d :: s => f (d :: s) || starOf f s
/-- which texts a pattern matches: 42 any text, 63 any byte -/
def glob : List Int → List Int → Bool
  | [] => fun s => s.isEmpty
  | c :: p => if c = 42 then starOf (glob p) else fun s => match s with
    | [] => false
    | d :: s => (decide (c = 63) || decide (c = d)) && glob p s
theorem starOf_iff (f : List Int → Bool) : ∀ s, starOf f s = true ↔ ∃ u v, s = u ++ v ∧ f v = true
  | [] => by
    constructor
    · intro h; exact ⟨[], [], rfl, h⟩
    · rintro ⟨u, v, h, hv⟩
      have : v = [] := by cases u <;> simp_all
      subst this; exact hv
  | d :: s => by
    unfold starOf
    rw [Bool.or_eq_true, starOf_iff f s]
    constructor
    · rintro (h | ⟨u, v, h, hv⟩)
      · exact ⟨[], d :: s, rfl, h⟩
      · exact ⟨d :: u, v, by rw [h]; rfl, hv⟩
    · rintro ⟨u, v, h, hv⟩
      cases u with
      | nil => left; simp at h; rw [h]; exact hv
      | cons x u => right; simp at h; exact ⟨u, v, h.2, hv⟩
theorem glob_star (p s : List Int) : glob (42 :: p) s = starOf (glob p) s := by rw [glob, if_pos rfl]
theorem glob_lit1 (c : Int) (p : List Int) (h : c ≠ 42) (d : Int) (s : List Int) : glob (c :: p) (d :: s) = ((decide (c = 63) || decide (c = d)) && glob p s) := by
  rw [glob, if_neg h]
theorem glob_lit0 (c : Int) (p : List Int) (h : c ≠ 42) : glob (c :: p) [] = false := by
  rw [glob, if_neg h]
def Lit : List Int → List Int → Prop
  | [], [] => True
  | b :: B, c :: C => b ≠ 42 ∧ (b = 63 ∨ b = c) ∧ Lit B C
  | [], _ :: _ => False
  | _ :: _, [] => False
theorem Lit.len : ∀ {B C : List Int}, Lit B C → B.length = C.length
  | [], [], _ => rfl
  | b :: B, c :: C, h => by simp [Lit.len h.2.2]
  | [], _ :: _, h => h.elim
  | _ :: _, [], h => h.elim
theorem Lit.snoc : ∀ {B C : List Int} {b c : Int}, Lit B C → b ≠ 42 → (b = 63 ∨ b = c) → Lit (B ++ [b]) (C ++ [c])
  | [], [], b, c, _, h1, h2 => ⟨h1, h2, trivial⟩
  | x :: B, y :: C, b, c, h, h1, h2 => ⟨h.1, h.2.1, h.2.2.snoc h1 h2⟩
  | [], _ :: _, _, _, h, _, _ => h.elim
  | _ :: _, [], _, _, h, _, _ => h.elim
theorem glob_lit : ∀ {B C : List Int} (P S : List Int), Lit B C → glob (B ++ P) (C ++ S) = glob P S
  | [], [], P, S, _ => rfl
  | b :: B, c :: C, P, S, h => by
    rw [List.cons_append, List.cons_append, glob_lit1 b _ h.1, glob_lit P S h.2.2]
    rcases h.2.1 with e | e
    · rw [decide_eq_true e]; rfl
    · rw [decide_eq_true e, Bool.or_true]; rfl
  | [], _ :: _, _, _, h => h.elim
  | _ :: _, [], _, _, h => h.elim
theorem glob_pre : ∀ {B C : List Int} (P v : List Int), Lit B C → glob (B ++ P) v = true → ∃ v1 v2, v = v1 ++ v2 ∧ v1.length = B.length ∧ glob P v2 = true
  | [], [], P, v, _, h => ⟨[], v, rfl, rfl, h⟩
  | b :: B, c :: C, P, v, hl, h => by
    rw [List.cons_append] at h
    cases v with
    | nil => rw [glob_lit0 b _ hl.1] at h; cases h
    | cons d v =>
      rw [glob_lit1 b _ hl.1, Bool.and_eq_true] at h
      obtain ⟨v1, v2, rfl, e, g⟩ := glob_pre P v hl.2.2 h.2
      exact ⟨d :: v1, v2, rfl, by simp [e], g⟩
  | [], _ :: _, _, _, h, _ => h.elim
  | _ :: _, [], _, _, h, _ => h.elim
theorem star_more (f : List Int → Bool) (x s : List Int) (h : starOf f s = true) : starOf f (x ++ s) = true := by
  obtain ⟨u, v, rfl, hv⟩ := (starOf_iff f s).1 h
  exact (starOf_iff f _).2 ⟨x ++ u, v, by simp, hv⟩
theorem prefix_of {a b c d : List Int} (h : a ++ b = c ++ d) (hl : a.length ≤ c.length) : ∃ x, c = a ++ x ∧ b = x ++ d := by
  rcases List.append_eq_append_iff.1 h with ⟨x, h1, h2⟩ | ⟨x, h1, h2⟩
  · exact ⟨x, h1, h2⟩
  · have : x = [] := by
      have := congrArg List.length h1
      simp at this
      exact List.eq_nil_of_length_eq_zero (by omega)
    subst this
    simp at h1 h2
    exact ⟨[], by simp [h1], by simp [h2]⟩
theorem star_new {B C : List Int} (P S : List Int) (h : Lit B C) : starOf (glob (B ++ 42 :: P)) (C ++ S) = starOf (glob P) S := by
  apply Bool.eq_iff_iff.2
  constructor
  · intro hs
    obtain ⟨u, v, he, hv⟩ := (starOf_iff _ _).1 hs
    obtain ⟨v1, v2, rfl, hlen, hg⟩ := glob_pre (42 :: P) v h hv
    rw [← List.append_assoc] at he
    obtain ⟨x, _, hS⟩ := prefix_of he (by have := h.len; simp; omega)
    rw [hS]
    rw [glob_star] at hg
    exact star_more _ x v2 hg
  · intro hs
    refine (starOf_iff _ _).2 ⟨[], C ++ S, rfl, ?_⟩
    rw [glob_lit _ _ h, glob_star]
    exact hs
theorem star_end {B C : List Int} (P : List Int) (h : Lit B C) : starOf (glob (B ++ P)) C = glob P [] := by
  apply Bool.eq_iff_iff.2
  constructor
  · intro hs
    obtain ⟨u, v, he, hv⟩ := (starOf_iff _ _).1 hs
    obtain ⟨v1, v2, rfl, hlen, hg⟩ := glob_pre P v h hv
    have e := congrArg List.length he
    have := h.len
    simp at e
    have : v2 = [] := List.eq_nil_of_length_eq_zero (by omega)
    subst this
    exact hg
  · intro hs
    refine (starOf_iff _ _).2 ⟨[], C, rfl, ?_⟩
    have := glob_lit P [] h
    rw [List.append_nil] at this
    rw [this]; exact hs
theorem star_cons (f : List Int → Bool) (d : Int) (s : List Int) (h : f (d :: s) = false) : starOf f (d :: s) = starOf f s := by rw [starOf, h]; rfl
end Go.Proofs.YtegfcemedkajkaaDoor.Wd
