/- Lines, told plainly: which lines bytes have, how they are joined with ends; there and back. No program in sight. -/
import Derived.Test.YtlliomkjnhbbbaaDoorTextIdx0
namespace Go.Proofs.YtlliomkjnhbbbaaDoor.Tx
open Go
set_option linter.unusedVariables false
/-- what stands ahead of the first 26 -/
def cutO : List Int → List Int
  | [] => []
  | c :: r => if c = 26 then [] else c :: cutO r
/-- the lines of bytes, behind those of the line that is open -/
def linesF : List Int → List Int → Bool → List (List Int) × Bool
  | [], now, o => if o then ([now], false) else ([], true)
  | c :: r, now, o => if c = 13 ∧ r.head? = some 10 then linesF r now o else if c = 10 ∨ c = 13 then (now :: (linesF r [] false).1, (linesF r [] false).2) else linesF r (now ++ [c]) true
/-- lines with ends -/
def withF (e : List Int) (whole : Bool) : List (List Int) → List Int
  | [] => []
  | [x] => x ++ (if whole then e else [])
  | x :: y :: r => x ++ e ++ withF e whole (y :: r)
theorem cutO_length : ∀ l : List Int, (cutO l).length ≤ l.length
  | [] => Nat.le_refl _
  | c :: r => by
    have := cutO_length r
    unfold cutO
    split <;> simp <;> omega
theorem cutO_mem : ∀ (l : List Int) (x : Int), x ∈ cutO l → x ∈ l ∧ x ≠ 26
  | [], x, h => by simp [cutO] at h
  | c :: r, x, h => by
    unfold cutO at h
    split at h
    · simp at h
    · rename_i hc
      rcases List.mem_cons.1 h with rfl | h
      · exact ⟨List.mem_cons_self, hc⟩
      · have := cutO_mem r x h
        exact ⟨List.mem_cons_of_mem _ this.1, this.2⟩
theorem cutO_same : ∀ l : List Int, (26 : Int) ∉ l → cutO l = l
  | [], _ => rfl
  | c :: r, h => by
    rw [List.mem_cons, not_or] at h
    rw [cutO, if_neg (fun e => h.1 e.symm), cutO_same r h.2]
theorem cutO_head (c : Int) (r : List Int) (h : c ≠ 26) : (cutO (c :: r)).head? = some c := by rw [cutO, if_neg h]; rfl
theorem cutO_head10 (r : List Int) : (cutO r).head? = some 10 ↔ r.head? = some 10 := by
  cases r with
  | nil => simp [cutO]
  | cons c r =>
    by_cases h : c = 26
    · subst h; simp [cutO]
    · rw [cutO_head c r h]; simp
theorem idx26 : ∀ l : List Int, (idxP (fun x => decide (x = 26)) l = -1 ∧ cutO l = l) ∨ ∃ t : Nat, idxP (fun x => decide (x = 26)) l = t ∧ t ≤ l.length ∧ l.take t = cutO l
  | [] => .inl ⟨rfl, rfl⟩
  | c :: r => by
    by_cases h : c = 26
    · exact .inr ⟨0, by unfold idxP; rw [if_pos (decide_eq_true h)]; rfl, by simp, by rw [cutO, if_pos h]; rfl⟩
    · unfold idxP
      rw [if_neg (by simpa using h), cutO, if_neg h]
      rcases idx26 r with ⟨h1, h2⟩ | ⟨t, h1, h2, h3⟩
      · exact .inl ⟨by rw [h1, if_pos rfl], by rw [h2]⟩
      · exact .inr ⟨t + 1, by rw [h1, if_neg (by omega)]; rfl, by simp; omega, by rw [List.take_succ_cons, h3]⟩
theorem idxEnd : ∀ l : List Int, (idxP isEnd l = -1 ∧ ∀ x ∈ l, isEnd x = false) ∨ ∃ (p : List Int) (e : Int) (r : List Int), l = p ++ e :: r ∧ idxP isEnd l = (p.length : Nat) ∧ (∀ x ∈ p, isEnd x = false) ∧ isEnd e = true
  | [] => .inl ⟨rfl, by simp⟩
  | c :: r => by
    by_cases h : isEnd c = true
    · exact .inr ⟨[], c, r, rfl, by unfold idxP; rw [if_pos h]; rfl, by simp, h⟩
    · have hc : isEnd c = false := by simpa using h
      unfold idxP
      rw [if_neg h]
      rcases idxEnd r with ⟨h1, h2⟩ | ⟨p, e, q, rfl, h1, h2, h3⟩
      · refine .inl ⟨by rw [h1, if_pos rfl], fun x hx => ?_⟩
        rcases List.mem_cons.1 hx with rfl | hx
        · exact hc
        · exact h2 x hx
      · refine .inr ⟨c :: p, e, q, rfl, by rw [h1, if_neg (by omega)]; simp, fun x hx => ?_, h3⟩
        rcases List.mem_cons.1 hx with rfl | hx
        · exact hc
        · exact h2 x hx
theorem end_no {x : Int} (h : isEnd x = false) : x ≠ 13 ∧ x ≠ 10 := by
  have := of_decide_eq_false h
  omega
theorem lines_plain : ∀ (p R now : List Int) (o : Bool), (∀ x ∈ p, isEnd x = false) → linesF (p ++ R) now o = linesF R (now ++ p) (o || !p.isEmpty)
  | [], R, now, o, _ => by simp
  | c :: p, R, now, o, h => by
    have hc := end_no (h c List.mem_cons_self)
    rw [List.cons_append, linesF, if_neg (by omega), if_neg (by omega), lines_plain p R _ true (fun x hx => h x (List.mem_cons_of_mem _ hx)), List.append_assoc]
    simp
theorem lines_none (p : List Int) (h : ∀ x ∈ p, isEnd x = false) (hp : p ≠ []) : linesF p [] false = ([p], false) := by
  have := lines_plain p [] [] false h
  rw [List.append_nil] at this
  rw [this]
  cases p with
  | nil => exact absurd rfl hp
  | cons c p => rfl
/-- the end of a line, two bytes or one -/
def endLen : List Int → Nat
  | 13 :: 10 :: _ => 2
  | _ => 1
theorem lines_end (e : Int) (r now : List Int) (o : Bool) (he : isEnd e = true) : linesF (e :: r) now o = (now :: (linesF ((e :: r).drop (endLen (e :: r))) [] false).1, (linesF ((e :: r).drop (endLen (e :: r))) [] false).2) := by
  have h : e = 13 ∨ e = 10 := of_decide_eq_true he
  by_cases hd : e = 13 ∧ r.head? = some 10
  · obtain ⟨rfl, hr⟩ := hd
    cases r with
    | nil => simp at hr
    | cons c r =>
      have : c = 10 := by simpa using hr
      subst this
      rw [linesF, if_pos ⟨rfl, rfl⟩, linesF, if_neg (by omega), if_pos (.inl rfl)]
      rfl
  · have hl : endLen (e :: r) = 1 := by
      unfold endLen
      split
      · rename_i q heq
        injection heq with h1 h2
        subst h1 h2
        exact absurd ⟨rfl, rfl⟩ hd
      · rfl
    rw [linesF, if_neg hd, if_pos (by omega), hl]
    rfl
theorem lines_bd : ∀ (x now : List Int) (o : Bool), (linesF x now o).1.length ≤ x.length + 1 ∧ ∀ y ∈ (linesF x now o).1, y.length ≤ now.length + x.length
  | [], now, o => by
    unfold linesF
    split <;> simp
  | c :: r, now, o => by
    unfold linesF
    split
    · have h := lines_bd r now o
      refine ⟨by simp; omega, fun y hy => ?_⟩
      have := h.2 y hy
      simp; omega
    · split
      · have h := lines_bd r [] false
        refine ⟨by simp; omega, fun y hy => ?_⟩
        rcases List.mem_cons.1 hy with rfl | hy
        · simp
        · have := h.2 y hy
          simp at this ⊢; omega
      · have h := lines_bd r (now ++ [c]) true
        refine ⟨by simp; omega, fun y hy => ?_⟩
        have := h.2 y hy
        simp at this ⊢; omega
/-- a line without ends -/
def Clean (y : List Int) : Prop := ∀ x ∈ y, x ≠ 13 ∧ x ≠ 10 ∧ x ≠ 26
theorem lines_clean : ∀ (x now : List Int) (o : Bool), (∀ a ∈ x, a ≠ 26) → Clean now → (∀ y ∈ (linesF x now o).1, Clean y)
  | [], now, o, _, hn => by
    unfold linesF
    split
    · intro y hy; rw [List.mem_singleton.1 hy]; exact hn
    · simp
  | c :: r, now, o, hx, hn => by
    have hr : ∀ a ∈ r, a ≠ 26 := fun a ha => hx a (List.mem_cons_of_mem _ ha)
    unfold linesF
    split
    · exact lines_clean r now o hr hn
    · split
      · intro y hy
        rcases List.mem_cons.1 hy with rfl | hy
        · exact hn
        · exact lines_clean r [] false hr (fun x h => by simp at h) y hy
      · rename_i h2
        refine lines_clean r (now ++ [c]) true hr (fun x h => ?_)
        rcases List.mem_append.1 h with h | h
        · exact hn x h
        · rw [List.mem_singleton.1 h]
          exact ⟨by omega, by omega, hx c List.mem_cons_self⟩
/-- whether the last line stands open: then it holds something -/
theorem lines_last : ∀ (x now : List Int) (o : Bool), (o = true → now ≠ []) → (linesF x now o).2 = false → ∃ A z, (linesF x now o).1 = A ++ [z] ∧ z ≠ []
  | [], now, o, hn, h => by
    unfold linesF at h ⊢
    cases o with
    | false => simp at h
    | true => exact ⟨[], now, rfl, hn rfl⟩
  | c :: r, now, o, hn, h => by
    unfold linesF at h ⊢
    split
    · rename_i hd
      rw [if_pos hd] at h
      exact lines_last r now o hn h
    · rename_i hd
      rw [if_neg hd] at h
      split
      · rename_i h2
        rw [if_pos h2] at h
        obtain ⟨A, z, e, hz⟩ := lines_last r [] false (by simp) h
        exact ⟨now :: A, z, by rw [List.cons_append, ← e], hz⟩
      · rename_i h2
        rw [if_neg h2] at h
        exact lines_last r (now ++ [c]) true (by simp) h
/-- an end of the two kinds -/
def GoodEnd (e : List Int) : Prop := e = [10] ∨ e = [13, 10]
theorem end_step (e R now : List Int) (o : Bool) (he : GoodEnd e) : linesF (e ++ R) now o = (now :: (linesF R [] false).1, (linesF R [] false).2) := by
  rcases he with rfl | rfl
  · show linesF (10 :: R) now o = _
    rw [linesF, if_neg (by omega), if_pos (.inl rfl)]
  · show linesF (13 :: 10 :: R) now o = _
    rw [linesF, if_pos ⟨rfl, rfl⟩, linesF, if_neg (by omega), if_pos (.inl rfl)]
theorem clean_no {y : List Int} (h : Clean y) : ∀ x ∈ y, isEnd x = false := fun x hx => decide_eq_false (by have := h x hx; omega)
theorem back_lines (e : List Int) (he : GoodEnd e) : ∀ (ls : List (List Int)) (whole : Bool), (∀ y ∈ ls, Clean y) → (whole = false → ∃ A z, ls = A ++ [z] ∧ z ≠ []) → linesF (withF e whole ls) [] false = (ls, whole)
  | [], whole, _, hl => by
    cases whole with
    | true => rfl
    | false => obtain ⟨A, z, h, _⟩ := hl rfl; simp at h
  | [x], whole, hc, hl => by
    have hx := clean_no (hc x (by simp))
    cases whole with
    | true =>
      rw [withF, if_pos rfl, lines_plain x e [] false hx]
      have := end_step e [] ([] ++ x) (false || !x.isEmpty) he
      rw [List.append_nil] at this
      rw [this]; rfl
    | false =>
      obtain ⟨A, z, h, hz⟩ := hl rfl
      have hxz : x = z := by
        cases A with
        | nil => simpa using h
        | cons a A => simp at h
      rw [withF, if_neg (by simp), List.append_nil, lines_none x hx (by rw [hxz]; exact hz)]
  | x :: y :: r, whole, hc, hl => by
    have hx := clean_no (hc x (by simp))
    have ih := back_lines e he (y :: r) whole (fun q hq => hc q (List.mem_cons_of_mem _ hq)) (fun hw => by
      obtain ⟨A, z, h, hz⟩ := hl hw
      cases A with
      | nil => simp at h
      | cons a A =>
        simp only [List.cons_append, List.cons.injEq] at h
        exact ⟨A, z, h.2, hz⟩)
    rw [withF, List.append_assoc, lines_plain x _ [] false hx, end_step e _ _ _ he, ih]
    rfl
theorem with_mem (e : List Int) (whole : Bool) : ∀ (ls : List (List Int)) (x : Int), x ∈ withF e whole ls → x ∈ e ∨ ∃ y ∈ ls, x ∈ y
  | [], x, h => by simp [withF] at h
  | [y], x, h => by
    rw [withF] at h
    rcases List.mem_append.1 h with h | h
    · exact .inr ⟨y, by simp, h⟩
    · split at h
      · exact .inl h
      · simp at h
  | y :: z :: r, x, h => by
    rw [withF] at h
    rcases List.mem_append.1 h with h | h
    · rcases List.mem_append.1 h with h | h
      · exact .inr ⟨y, by simp, h⟩
      · exact .inl h
    · rcases with_mem e whole (z :: r) x h with h | ⟨q, hq, hx⟩
      · exact .inl h
      · exact .inr ⟨q, List.mem_cons_of_mem _ hq, hx⟩
theorem with_bd (e : List Int) (whole : Bool) (he : e.length ≤ 2) : ∀ (ls : List (List Int)) (B : Nat), (∀ y ∈ ls, y.length ≤ B) → (withF e whole ls).length ≤ ls.length * (B + 2)
  | [], _, _ => by simp [withF]
  | [y], B, h => by
    have := h y (by simp)
    rw [withF, List.length_append]
    split <;> simp <;> omega
  | y :: z :: r, B, h => by
    have h1 := h y (by simp)
    have ih := with_bd e whole he (z :: r) B (fun q hq => h q (List.mem_cons_of_mem _ hq))
    rw [withF, List.length_append, List.length_append, List.length_cons, Nat.succ_mul]
    omega
/-- bytes without 13: joined again they are as they were -/
theorem with_same : ∀ (x now : List Int) (o : Bool), (13 : Int) ∉ x → (o = false → now = []) → withF [10] (linesF x now o).2 (linesF x now o).1 = now ++ x
  | [], now, o, _, hn => by
    unfold linesF
    cases o with
    | false => rw [if_neg (by simp), hn rfl]; rfl
    | true => rw [if_pos rfl]; simp [withF]
  | c :: r, now, o, hx, hn => by
    rw [List.mem_cons, not_or] at hx
    rw [linesF, if_neg (fun h => hx.1 h.1.symm)]
    by_cases h10 : c = 10
    · rw [if_pos (.inl h10)]
      have ih := with_same r [] false hx.2 (fun _ => rfl)
      rw [List.nil_append] at ih
      subst h10
      cases hl : (linesF r [] false).1 with
      | nil =>
        rw [hl] at ih
        have hw : (linesF r [] false).2 = true := by
          cases h2 : (linesF r [] false).2 with
          | true => rfl
          | false =>
            obtain ⟨A, z, h, _⟩ := lines_last r [] false (by simp) h2
            rw [hl] at h; simp at h
        rw [hw]
        have hr : r = [] := by rw [← ih]; rfl
        rw [hr, withF, if_pos rfl]
      | cons y ys =>
        rw [hl] at ih
        show withF [10] (linesF r [] false).2 (now :: y :: ys) = _
        rw [withF, ih, List.append_assoc]
        rfl
    · rw [if_neg (by omega), with_same r (now ++ [c]) true hx.2 (by simp), List.append_assoc]
      rfl
end Go.Proofs.YtlliomkjnhbbbaaDoor.Tx
