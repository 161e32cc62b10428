/- The order of names, in plain Lean. -/
import Derived.Test.YtbjffjbohpoedaaDoorFoldE0
namespace Go.Proofs.YtbjffjbohpoedaaDoor.Fd
open Go.Proofs.YtbjffjbohpoedaaDoor.Wd
set_option linter.unusedVariables false
set_option linter.unusedSimpArgs false
def Byt (l : List Int) : Prop := ∀ x ∈ l, 0 ≤ x ∧ x ≤ 255
theorem Byt.tail {x : Int} {l : List Int} (h : Byt (x :: l)) : Byt l := fun y hy => h y (List.mem_cons_of_mem _ hy)
theorem byte_lt (x y : Int) (hx : 0 ≤ x ∧ x ≤ 255) (hy : 0 ≤ y ∧ y ≤ 255) : (UInt8.ofNat x.toNat < UInt8.ofNat y.toNat) ↔ x < y := by
  rw [UInt8.lt_iff_toNat_lt, UInt8.toNat_ofNat', UInt8.toNat_ofNat']
  omega
theorem cmp_cons (x y : Int) (p q : List Int) (hx : 0 ≤ x ∧ x ≤ 255) (hy : 0 ≤ y ∧ y ≤ 255) : cmpZ (x :: p) (y :: q) = if x < y then -1 else if y < x then 1 else cmpZ p q := by
  show (if UInt8.ofNat x.toNat < UInt8.ofNat y.toNat then (-1 : Int) else if UInt8.ofNat y.toNat < UInt8.ofNat x.toNat then 1 else cmpZ p q) = _
  by_cases h1 : x < y
  · rw [if_pos ((byte_lt x y hx hy).2 h1), if_pos h1]
  · rw [if_neg (fun h => h1 ((byte_lt x y hx hy).1 h)), if_neg h1]
    by_cases h2 : y < x
    · rw [if_pos ((byte_lt y x hy hx).2 h2), if_pos h2]
    · rw [if_neg (fun h => h2 ((byte_lt y x hy hx).1 h)), if_neg h2]
theorem list_cons (x y : Int) (p q : List Int) : compare (x :: p) (y :: q) = (compare x y).then (compare p q) := by
  rw [List.compare_eq_compareLex, List.compareLex_cons_cons]
theorem list_cons2 (x y : List Int) (p q : List (List Int)) : compare (x :: p) (y :: q) = (compare x y).then (compare p q) := by
  rw [List.compare_eq_compareLex, List.compareLex_cons_cons]
/-- a number's sign as an ordering -/
def sgn (z : Int) : Ordering := if z < 0 then .lt else if z = 0 then .eq else .gt
theorem cmp_sgn : ∀ (p q : List Int), Byt p → Byt q → sgn (cmpZ p q) = compare p q
  | [], [], _, _ => by decide
  | [], y :: q, _, _ => rfl
  | x :: p, [], _, _ => rfl
  | x :: p, y :: q, hp, hq => by
    rw [cmp_cons x y p q (hp x (by simp)) (hq y (by simp)), list_cons]
    by_cases h1 : x < y
    · rw [if_pos h1, Int.compare_eq_lt.2 h1]; rfl
    · rw [if_neg h1]
      by_cases h2 : y < x
      · rw [if_pos h2, Int.compare_eq_gt.2 h2]; rfl
      · obtain rfl : x = y := by omega
        rw [if_neg h2, cmp_sgn p q hp.tail hq.tail, Int.compare_eq_eq.2 rfl]; rfl
theorem fold_byt {l : List Int} (h : Byt l) : Byt (l.map fold1) := by
  intro x hx
  obtain ⟨y, hy, rfl⟩ := List.mem_map.1 hx
  have := h y hy
  exact (fold_eq y this.1 this.2).2
def foldAll (X : List (List Int)) : List (List Int) := X.map fun p => p.map fold1
theorem cmpP_sgn : ∀ (X Y : List (List Int)), (∀ p ∈ X, Byt p) → (∀ p ∈ Y, Byt p) →
    compare (foldAll X) (foldAll Y) = (sgn (cmpP X Y)).then (compare X.length Y.length)
  | [], [], _, _ => by decide
  | [], y :: q, _, _ => by
    have e : compare ([] : List (List Int)).length (y :: q).length = .lt := Nat.compare_eq_lt.2 (by simp)
    rw [e]; rfl
  | x :: p, [], _, _ => by
    have e : compare (x :: p).length ([] : List (List Int)).length = .gt := Nat.compare_eq_gt.2 (by simp)
    rw [e]; rfl
  | x :: p, y :: q, hX, hY => by
    have ih := cmpP_sgn p q (fun r hr => hX r (List.mem_cons_of_mem _ hr)) (fun r hr => hY r (List.mem_cons_of_mem _ hr))
    have hs := cmp_sgn (x.map fold1) (y.map fold1) (fold_byt (hX x (by simp))) (fold_byt (hY y (by simp)))
    have el : compare (x :: p).length (y :: q).length = compare p.length q.length := by
      simp only [List.length_cons]
      rcases Nat.lt_trichotomy p.length q.length with h | h | h
      · rw [Nat.compare_eq_lt.2 h, Nat.compare_eq_lt.2 (by omega)]
      · rw [Nat.compare_eq_eq.2 h, Nat.compare_eq_eq.2 (by omega)]
      · rw [Nat.compare_eq_gt.2 h, Nat.compare_eq_gt.2 (by omega)]
    show compare (x.map fold1 :: foldAll p) (y.map fold1 :: foldAll q) = _
    rw [list_cons2, ← hs, ih, el, cmpP]
    by_cases hz : cmpZ (x.map fold1) (y.map fold1) = 0
    · rw [if_pos hz, hz]; rfl
    · rw [if_neg hz]
      unfold sgn
      by_cases hn : cmpZ (x.map fold1) (y.map fold1) < 0
      · rw [if_pos hn]; rfl
      · rw [if_neg hn, if_neg hz]; rfl
def key (a : List Int) : List (List Int) := foldAll (piecesL a)
def ordT (a b : List Int) : Ordering := (compare (key a) (key b)).then (compare a b)
theorem pieces_byt {a : List Int} (h : Byt a) : ∀ p ∈ piecesL a, Byt p := pieces_rng a h
theorem compareZ_sgn (a b : List Int) (ha : Byt a) (hb : Byt b) : sgn (compareZ a b) = ordT a b := by
  unfold ordT key
  rw [cmpP_sgn _ _ (pieces_byt ha) (pieces_byt hb)]
  unfold compareZ
  by_cases h0 : cmpP (piecesL a) (piecesL b) = 0
  · rw [if_pos h0, h0]
    show _ = (compare (piecesL a).length (piecesL b).length).then _
    rcases Nat.lt_trichotomy (piecesL a).length (piecesL b).length with h | h | h
    · rw [Nat.compare_eq_lt.2 h, if_neg (by omega)]
      unfold sgn; rw [if_pos (by omega)]; rfl
    · rw [Nat.compare_eq_eq.2 h, if_pos h, cmp_sgn a b ha hb]; rfl
    · rw [Nat.compare_eq_gt.2 h, if_neg (by omega)]
      unfold sgn; rw [if_neg (by omega), if_neg (by omega)]; rfl
  · rw [if_neg h0]
    unfold sgn
    by_cases hn : cmpP (piecesL a) (piecesL b) < 0
    · rw [if_pos hn]; rfl
    · rw [if_neg hn, if_neg h0]; rfl
theorem less_ord (a b : List Int) (ha : Byt a) (hb : Byt b) : lessB a b = true ↔ ordT a b = .lt := by
  rw [← compareZ_sgn a b ha hb]
  unfold lessB sgn
  rw [decide_eq_true_iff]
  by_cases h : compareZ a b < 0
  · rw [if_pos h]; simp [h]
  · rw [if_neg h]
    by_cases h2 : compareZ a b = 0
    · rw [if_pos h2]; simp [h]
    · rw [if_neg h2]; simp [h]
theorem ordT_swap (a b : List Int) : ordT b a = (ordT a b).swap := by
  unfold ordT
  rw [Std.OrientedOrd.eq_swap (a := key b), Std.OrientedOrd.eq_swap (a := b), Ordering.swap_then]
theorem then_lt {o p : Ordering} : o.then p = .lt ↔ o = .lt ∨ (o = .eq ∧ p = .lt) := by cases o <;> cases p <;> decide
theorem then_eq {o p : Ordering} : o.then p = .eq ↔ o = .eq ∧ p = .eq := by cases o <;> cases p <;> decide
theorem ordT_eq {a b : List Int} (h : ordT a b = .eq) : a = b := Std.LawfulEqOrd.eq_of_compare (then_eq.1 h).2
theorem ordT_self (a : List Int) : ordT a a = .eq := by
  have h := ordT_swap a a
  cases e : ordT a a <;> rw [e] at h <;> first | rfl | cases h
theorem ordT_trans {a b c : List Int} (h1 : ordT a b = .lt) (h2 : ordT b c = .lt) : ordT a c = .lt := by
  unfold ordT at *
  rw [then_lt] at *
  rcases h1 with h1 | ⟨h1, h1'⟩ <;> rcases h2 with h2 | ⟨h2, h2'⟩
  · exact .inl (Std.TransCmp.lt_trans h1 h2)
  · rw [← Std.LawfulEqOrd.eq_of_compare h2]; exact .inl h1
  · rw [Std.LawfulEqOrd.eq_of_compare h1]; exact .inl h2
  · rw [Std.LawfulEqOrd.eq_of_compare h1]; exact .inr ⟨h2, Std.TransCmp.lt_trans h1' h2'⟩
theorem less_self (a : List Int) (ha : Byt a) : lessB a a = false := by
  cases h : lessB a a with
  | false => rfl
  | true => have := (less_ord a a ha ha).1 h; rw [ordT_self] at this; cases this
theorem less_asym (a b : List Int) (ha : Byt a) (hb : Byt b) (h : lessB a b = true) : lessB b a = false := by
  cases h2 : lessB b a with
  | false => rfl
  | true =>
    have h1 := (less_ord a b ha hb).1 h
    have h3 := (less_ord b a hb ha).1 h2
    rw [ordT_swap, h1] at h3
    cases h3
theorem less_trans (a b c : List Int) (ha : Byt a) (hb : Byt b) (hc : Byt c) (h1 : lessB a b = true) (h2 : lessB b c = true) : lessB a c = true :=
  (less_ord a c ha hc).2 (ordT_trans ((less_ord a b ha hb).1 h1) ((less_ord b c hb hc).1 h2))
theorem less_total (a b : List Int) (ha : Byt a) (hb : Byt b) (h1 : lessB a b = false) (h2 : lessB b a = false) : a = b := by
  have e1 : ordT a b ≠ .lt := fun h => by rw [(less_ord a b ha hb).2 h] at h1; cases h1
  have e2 : ordT b a ≠ .lt := fun h => by rw [(less_ord b a hb ha).2 h] at h2; cases h2
  rw [ordT_swap] at e2
  refine ordT_eq ?_
  cases h : ordT a b with
  | eq => rfl
  | lt => exact absurd h e1
  | gt => rw [h] at e2; exact absurd rfl e2
/-- pieces hold no slash -/
theorem split_no (l : List Int) : ∀ p ∈ splitL l, (47 : Int) ∉ p := by
  induction l with
  | nil => intro p hp; simp [splitL] at hp; subst hp; simp
  | cons x xs ih =>
    intro p hp
    unfold splitL at hp
    by_cases h : x = 47
    · rw [if_pos h] at hp
      rcases List.mem_cons.1 hp with rfl | hp
      · simp
      · exact ih p hp
    · rw [if_neg h] at hp
      cases hs : splitL xs with
      | nil => exact absurd hs (splitL_ne xs)
      | cons q qs =>
        rw [hs] at hp ih
        simp only at hp
        rcases List.mem_cons.1 hp with rfl | hp
        · intro hm
          rcases List.mem_cons.1 hm with e | hm
          · exact h e.symm
          · exact ih q (by simp) hm
        · exact ih p (by simp [hp])
theorem split_app (p : List Int) (h : (47 : Int) ∉ p) (r : List Int) : splitL (p ++ 47 :: r) = p :: splitL r := by
  induction p with
  | nil => show splitL (47 :: r) = _; rw [splitL, if_pos rfl]
  | cons x xs ih =>
    have hx : ¬ x = 47 := fun e => h (by simp [e])
    show splitL (x :: (xs ++ 47 :: r)) = _
    rw [splitL, if_neg hx, ih (fun hm => h (List.mem_cons_of_mem _ hm))]
theorem split_one (p : List Int) (h : (47 : Int) ∉ p) : splitL p = [p] := by
  induction p with
  | nil => rfl
  | cons x xs ih =>
    have hx : ¬ x = 47 := fun e => h (by simp [e])
    rw [splitL, if_neg hx, ih (fun hm => h (List.mem_cons_of_mem _ hm))]
theorem split_join : ∀ (p : List Int) (r : List (List Int)), (∀ q ∈ p :: r, (47 : Int) ∉ q) → splitL (joinL (p :: r)) = p :: r
  | p, [], h => by
    show splitL (p ++ []) = _
    rw [List.append_nil, split_one p (h p (by simp))]
  | p, q :: r, h => by
    show splitL (p ++ 47 :: (q ++ joinT r)) = _
    rw [split_app p (h p (by simp))]
    have ih := split_join q r (fun s hs => h s (List.mem_cons_of_mem _ hs))
    show p :: splitL (joinL (q :: r)) = _
    rw [ih]
theorem cutEnd_slash (l : List Int) : cutEnd (l ++ [47]) = l := by
  unfold cutEnd
  have e : (l ++ [47]).length - 1 = l.length := by simp
  rw [e, if_pos ⟨by simp, by simp [List.getD_eq_getElem?_getD]⟩, List.take_left]
theorem pieces_join (P : List (List Int)) (h0 : P ≠ []) (h : ∀ q ∈ P, (47 : Int) ∉ q) : piecesL (joinL P ++ [47]) = P := by
  unfold piecesL
  rw [cutEnd_slash]
  cases P with
  | nil => exact absurd rfl h0
  | cons p r => exact split_join p r h
theorem cmp_prefix : ∀ (l : List (List Int)) (x : List Int), compare l (l ++ [x]) = .lt
  | [], x => rfl
  | y :: l, x => by
    show compare (y :: l) (y :: (l ++ [x])) = _
    have e : compare y y = Ordering.eq := Std.ReflOrd.compare_self
    rw [list_cons2, cmp_prefix l x, e]; rfl
theorem parts_no (a : List Int) : ∀ q ∈ partsF a, (47 : Int) ∉ q := by
  unfold partsF
  split
  · exact split_no _
  · simp
theorem parent_less (a : List Int) (hl : a.length ≤ 900) (ha : Byt a) (h : parentL a ≠ []) : lessB (parentL a) a = true := by
  have hp := parent_rng a hl ha
  refine (less_ord _ _ hp ha).2 ?_
  unfold ordT
  rw [then_lt]
  left
  have h2 : ¬ (partsF a).length < 2 := fun h2 => h (by unfold parentL; rw [if_pos h2])
  have e1 : parentL a = joinL (partsF a).dropLast ++ [47] := by unfold parentL; rw [if_neg h2]
  have hne : (partsF a).dropLast ≠ [] := fun e => by
    have := congrArg List.length e
    rw [List.length_dropLast] at this
    simp at this; omega
  have e2 : piecesL a = partsF a := by
    unfold partsF at h2 ⊢
    by_cases hb : isB a = true
    · rw [if_pos hb]
    · rw [if_neg hb] at h2; simp at h2
  unfold key
  rw [e1, pieces_join _ hne (fun q hq => parts_no a q (List.dropLast_subset _ hq)), e2]
  have hX : partsF a ≠ [] := fun e => by rw [e] at h2; simp at h2
  have e3 : foldAll (partsF a) = foldAll (partsF a).dropLast ++ [((partsF a).getLast hX).map fold1] := by
    conv => lhs; rw [← List.dropLast_concat_getLast hX]
    simp [foldAll]
  rw [e3]
  exact cmp_prefix _ _
end Go.Proofs.YtbjffjbohpoedaaDoor.Fd
