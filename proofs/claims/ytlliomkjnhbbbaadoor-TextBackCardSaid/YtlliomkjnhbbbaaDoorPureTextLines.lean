/- TextLines: the plain law. -/
import Derived.Test.YtlliomkjnhbbbaaDoorTEx4
import Derived.Test.YtlliomkjnhbbbaaDoorTextLines0
namespace Go.Proofs.YtlliomkjnhbbbaaDoor.Pure
open Go Go.RowKit Go.Proofs.YtlliomkjnhbbbaaDoorW.PrintWords Go.Proofs.YtlliomkjnhbbbaaDoorW.PrintLast
open Go.Proofs.YtlliomkjnhbbbaaDoor.TE Go.Proofs.YtlliomkjnhbbbaaDoor.MyCut Go.Proofs.YtlliomkjnhbbbaaDoor.Tx
theorem u8_of {x : Int} (h : (Lit.int .u8 x).wf = true) : 0 ≤ x ∧ x ≤ 255 := by simpa [Lit.wf, IntKind.min, IntKind.max, IntKind.signed, IntKind.bits] using h
theorem ws (x : Int) (h : -9223372036854775808 ≤ x) (h2 : x ≤ 9223372036854775807) : wrap64 x = x := by
  unfold wrap64; first | omega | (simp only []; omega)
theorem rd_at (l : List Int) (i : Nat) (h : i < l.length) : rd l (i : Int) = l[i] := by
  unfold rd
  rw [Int.toNat_natCast, List.getD_eq_getElem?_getD, List.getElem?_eq_getElem h]; rfl
theorem rdl_at (l : List (List Int)) (i : Nat) (h : i < l.length) : rd_L1 l (i : Int) = l[i] := by
  unfold rd_L1
  rw [Int.toNat_natCast, List.getD_eq_getElem?_getD, List.getElem?_eq_getElem h]; rfl
theorem cut_ok (l : List Int) (n : Nat) : cut_u8.f l (n : Int) = some (l.take n) := by
  unfold cut_u8.f
  by_cases c : (l.length : Int) > (n : Int)
  · rw [if_pos c, if_pos (by omega), Int.toNat_natCast]
  · rw [if_neg c, List.take_of_length_le (by omega)]
theorem same_loop (L : List Int) (hl : L.length ≤ 1000000000) : ∀ (K i : Nat), i ≤ L.length → L.length - i + 1 ≤ K → duffelref01_Same.l0 K L L (i : Int) = some true
  | 0, i, _, h => by omega
  | K + 1, i, hi, hK => by
    rw [duffelref01_Same.l0]
    by_cases c : i < L.length
    · have e2 : wrap64 ((i : Int) + 1) = ((i + 1 : Nat) : Int) := by rw [ws _ (by omega) (by omega)]; omega
      rw [if_pos (by omega), if_pos (by omega), if_pos (by omega), if_pos rfl, e2]
      exact same_loop L hl K (i + 1) (by omega) (by omega)
    · rw [if_neg (by omega)]
theorem same_ok (L : List Int) (K : Nat) (hl : L.length ≤ 1000000000) (hK : L.length + 1 ≤ K) : duffelref01_Same.f K L L = some true := by
  unfold duffelref01_Same.f
  rw [if_pos rfl]
  exact same_loop L hl K 0 (by omega) (by omega)
theorem sames_loop (L : List (List Int)) (B : Nat) (hl : L.length ≤ 1000000) (hB : ∀ y ∈ L, y.length ≤ B) (hB2 : B ≤ 1000000) : ∀ (K i : Nat), i ≤ L.length → L.length - i + B + 2 ≤ K → duffelref39_Same.l0 K L L (i : Int) = some true
  | 0, i, _, h => by omega
  | K + 1, i, hi, hK => by
    rw [duffelref39_Same.l0]
    by_cases c : i < L.length
    · have e2 : wrap64 ((i : Int) + 1) = ((i + 1 : Nat) : Int) := by rw [ws _ (by omega) (by omega)]; omega
      have hy := hB _ (List.getElem_mem c)
      rw [if_pos (by omega), if_pos (by omega), if_pos (by omega), rdl_at L i c, same_ok _ K (by omega) (by omega), Option.bind_some, if_pos rfl, e2]
      exact sames_loop L B hl hB hB2 K (i + 1) (by omega) (by omega)
    · rw [if_neg (by omega)]
theorem sames_ok (L : List (List Int)) (B K : Nat) (hl : L.length ≤ 1000000) (hB : ∀ y ∈ L, y.length ≤ B) (hB2 : B ≤ 1000000) (hK : L.length + B + 2 ≤ K) : duffelref39_Same.f K L L = some true := by
  unfold duffelref39_Same.f
  rw [if_pos rfl]
  exact sames_loop L B hl hB hB2 K 0 (by omega) (by omega)
theorem ref_lines (L : List Int) (hl : L.length ≤ 100000) : ∀ (n i K : Nat) (acc : List (List Int)) (now : List Int) (o : Bool), n = L.length - i → i ≤ L.length → acc.length ≤ i → now.length ≤ i → 3 * n + 2 ≤ K →
    duffelref39_Lines.l0 K L acc now o (i : Int) = some (acc ++ (linesF (cutO (L.drop i)) now o).1, (linesF (cutO (L.drop i)) now o).2)
  | n, i, 0, _, _, _, _, _, _, _, h => by omega
  | n, i, 1, _, _, _, _, _, _, _, h => by omega
  | n, i, K + 2, acc, now, o, hn, hi, ha, hw, hK => by
    have fin : ∀ X : List Int, cutO X = [] → duffelref39_Lines.j1 (K + 1) L acc now o (i : Int) false = some (acc ++ (linesF (cutO X) now o).1, (linesF (cutO X) now o).2) := by
      intro X hX
      rw [duffelref39_Lines.j1, if_neg (by simp), hX]
      unfold linesF
      cases o with
      | true => rw [if_pos rfl, if_pos rfl, if_pos (by omega)]
      | false => rw [if_neg (by simp), if_neg (by simp), List.append_nil]
    rw [duffelref39_Lines.l0]
    by_cases c : i < L.length
    · rw [if_pos (by omega), if_pos (by omega), rd_at L i c]
      by_cases c26 : L[i] = 26
      · rw [c26, show ((26 : Int) != 26) = false from rfl]
        refine fin _ ?_
        rw [List.drop_eq_getElem_cons c, cutO, if_pos c26]
      · obtain ⟨n, rfl⟩ : ∃ m, n = m + 1 := ⟨n - 1, by omega⟩
        obtain ⟨K, rfl⟩ : ∃ j, K = j + 1 := ⟨K - 1, by omega⟩
        have e2 : wrap64 ((i : Int) + 1) = ((i + 1 : Nat) : Int) := by rw [ws _ (by omega) (by omega)]; omega
        rw [show (L[i] != 26) = true from bne_iff_ne.2 c26, duffelref39_Lines.j1, if_pos rfl, if_pos (by omega), if_pos (by omega), rd_at L i c, e2, List.drop_eq_getElem_cons c, cutO, if_neg c26, linesF]
        have step : ∀ b : Bool, (b = true ↔ (L[i] = 13 ∧ (cutO (L.drop (i + 1))).head? = some 10)) → duffelref39_Lines.j2 (K + 1) L acc now o (i : Int) b = some (acc ++ (if L[i] = 13 ∧ (cutO (L.drop (i + 1))).head? = some 10 then linesF (cutO (L.drop (i + 1))) now o else if L[i] = 10 ∨ L[i] = 13 then (now :: (linesF (cutO (L.drop (i + 1))) [] false).1, (linesF (cutO (L.drop (i + 1))) [] false).2) else linesF (cutO (L.drop (i + 1))) (now ++ [L[i]]) true).1, (if L[i] = 13 ∧ (cutO (L.drop (i + 1))).head? = some 10 then linesF (cutO (L.drop (i + 1))) now o else if L[i] = 10 ∨ L[i] = 13 then (now :: (linesF (cutO (L.drop (i + 1))) [] false).1, (linesF (cutO (L.drop (i + 1))) [] false).2) else linesF (cutO (L.drop (i + 1))) (now ++ [L[i]]) true).2) := by
          intro b hb
          rw [duffelref39_Lines.j2, e2]
          by_cases hd : L[i] = 13 ∧ (cutO (L.drop (i + 1))).head? = some 10
          · rw [if_pos (hb.2 hd), if_pos hd]
            exact ref_lines L hl n (i + 1) K acc now o (by omega) (by omega) (by omega) (by omega) (by omega)
          · rw [if_neg (fun h => hd (hb.1 h)), if_neg hd, if_pos (by omega), if_pos (by omega), rd_at L i c]
            have ih := ref_lines L hl n (i + 1) K (acc ++ [now]) [] false (by omega) (by omega) (by simp; omega) (by simp) (by omega)
            rw [List.append_assoc] at ih
            by_cases g10 : L[i] = 10
            · rw [if_pos g10, if_pos (by omega), if_pos (.inl g10)]
              exact ih
            · rw [if_neg g10]
              by_cases g13 : L[i] = 13
              · rw [if_pos g13, if_pos (by omega), if_pos (.inr g13)]
                exact ih
              · rw [if_neg g13, if_pos (by omega), if_neg (by omega)]
                exact ref_lines L hl n (i + 1) K acc (now ++ [L[i]]) true (by omega) (by omega) (by omega) (by simp; omega) (by omega)
        by_cases g13 : L[i] = 13
        · rw [if_pos g13]
          by_cases g : i + 1 < L.length
          · rw [if_pos (by omega), if_pos (by omega), rd_at L (i + 1) g]
            refine step _ ?_
            rw [cutO_head10, List.drop_eq_getElem_cons g]
            simp [g13, List.getElem?_eq_getElem g]
          · rw [if_neg (by omega)]
            refine step _ ?_
            rw [List.drop_eq_nil_of_le (by omega)]
            simp [cutO]
        · rw [if_neg g13]
          exact step _ (by simp [g13])
    · rw [if_neg (by omega)]
      refine fin _ ?_
      rw [List.drop_eq_nil_of_le (by omega)]; rfl
theorem ref_lines_ok (L : List Int) (K : Nat) (hl : L.length ≤ 100000) (hK : 3 * L.length + 2 ≤ K) : duffelref39_Lines.f K L = some (linesF (cutO L) [] false) := by
  have h := ref_lines L hl L.length 0 K [] [] false (by omega) (by omega) (by simp) (by simp) hK
  exact h
theorem ends_ok (K : Nat) (e : Int) (r : List Int) (he : isEnd e = true) : text_ends.f (K + 1) (e :: r) = some ((endLen (e :: r) : Nat) : Int) := by
  have h : e = 13 ∨ e = 10 := of_decide_eq_true he
  have one : ∀ b, b = false → endLen (e :: r) = 1 → text_ends.j0 (K + 1) (e :: r) b = some 1 := by
    intro b hb h1
    rw [hb, text_ends.j0, if_neg (by simp), if_pos (by simp only [List.length_cons]; omega), if_pos (by simp only [List.length_cons]; omega)]
    show (if e = 13 then some 1 else if e = 10 then some (1 : Int) else some 0) = some 1
    by_cases h13 : e = 13
    · rw [if_pos h13]
    · rw [if_neg h13, if_pos (by omega)]
  unfold text_ends.f
  cases r with
  | nil =>
    have hl : endLen [e] = 1 := by
      unfold endLen; split
      · rename_i heq; simp at heq
      · rfl
    rw [if_neg (by simp), hl]
    exact one _ rfl hl
  | cons c r =>
    rw [if_pos (by simp only [List.length_cons]; omega), if_pos (by simp only [List.length_cons]; omega)]
    show (if e = 13 then (if 1 < (((e :: c :: r).length : Nat) : Int) then text_ends.j0 (K + 1) (e :: c :: r) (c == 10) else none) else text_ends.j0 (K + 1) (e :: c :: r) false) = _
    by_cases h13 : e = 13
    · rw [if_pos h13, if_pos (by simp only [List.length_cons]; omega)]
      by_cases h10 : c = 10
      · subst h13 h10
        rw [text_ends.j0, if_pos (by decide)]; rfl
      · have hl : endLen (e :: c :: r) = 1 := by
          unfold endLen; split
          · rename_i heq
            simp only [List.cons.injEq] at heq
            exact absurd heq.2.1 h10
          · rfl
        rw [hl]
        exact one _ (beq_eq_false_iff_ne.2 h10) hl
    · have hl : endLen (e :: c :: r) = 1 := by
        unfold endLen; split
        · rename_i heq
          simp only [List.cons.injEq] at heq
          exact absurd heq.1 h13
        · rfl
      rw [if_neg h13, hl]
      exact one _ rfl hl
theorem endLen_le (e : Int) (r : List Int) : 1 ≤ endLen (e :: r) ∧ endLen (e :: r) ≤ (e :: r).length := by
  unfold endLen
  split
  · rename_i heq; rw [heq]; simp
  · simp
theorem cut_loop : ∀ (n K : Nat) (x : List Int) (acc : List (List Int)), x.length ≤ n → n ≤ 100000 → (∀ a ∈ x, 0 ≤ a ∧ a ≤ 255) → acc.length + x.length ≤ 100000 → n + 3 ≤ K →
    text_cut.l0 K x acc = some (acc ++ (linesF x [] false).1, (linesF x [] false).2)
  | n, 0, _, _, _, _, _, _, h => by omega
  | n, K + 1, x, acc, hx, hn, hb, ha, hK => by
    rw [text_cut.l0]
    cases hx0 : x with
    | nil =>
      rw [if_neg (by simp)]
      simp [linesF]
    | cons c r =>
      rw [← hx0]
      have hpos : 0 < x.length := by rw [hx0]; simp
      have hf : bytes_IndexAny.f x (⟨#[13, 10]⟩ : ByteArray) = some (idxP isEnd x) := by
        unfold bytes_IndexAny.f
        refine if_pos ⟨?_, rfl⟩
        simp only [fineB, Bool.and_eq_true, decide_eq_true_eq, List.all_eq_true]
        exact ⟨by omega, hb⟩
      rw [if_pos (by omega), hf, Option.bind_some]
      rcases idxEnd x with ⟨h1, h2⟩ | ⟨p, e, q, rfl, h1, h2, h3⟩
      · rw [h1, if_pos (by omega)]
        have hcl : bytes_Clone.f x = some x := if_pos (by omega)
        rw [hcl, Option.bind_some, if_pos (by omega), lines_none x h2 (by intro h; rw [h] at hpos; simp at hpos)]
      · obtain ⟨n, rfl⟩ : ∃ m, n = m + 1 := ⟨n - 1, by omega⟩
        obtain ⟨K, rfl⟩ : ∃ j, K = j + 1 := ⟨K - 1, by omega⟩
        have hle := endLen_le e q
        have hlen : (p ++ e :: q).length = p.length + (e :: q).length := by simp
        rw [h1, if_neg (by omega), Option.bind_some, if_pos (by omega), if_pos (by omega), Option.bind_some, Int.toNat_natCast, List.take_left' rfl, List.drop_left' rfl, List.nil_append, if_pos (by simp; omega), if_pos (by omega), ends_ok K e q h3, Option.bind_some]
        have ew : wrap64 ((p.length : Int) + (endLen (e :: q) : Int)) = ((p.length + endLen (e :: q) : Nat) : Int) := by rw [ws _ (by omega) (by omega)]; omega
        rw [ew, if_pos (by omega), if_pos (by omega), Int.toNat_natCast]
        have hd : (p ++ e :: q).drop (p.length + endLen (e :: q)) = (e :: q).drop (endLen (e :: q)) := by
          rw [← List.drop_drop, List.drop_left' rfl]
        have hdl : ((e :: q).drop (endLen (e :: q))).length + 1 ≤ (e :: q).length := by rw [List.length_drop]; omega
        rw [hd, cut_loop n (K + 1) _ (acc ++ [p]) (by omega) (by omega) (fun a h => hb a (List.mem_append_right _ (List.mem_of_mem_drop h))) (by simp only [List.length_append, List.length_cons, List.length_nil] at *; omega) (by omega), lines_plain p (e :: q) [] false h2, lines_end e q _ _ h3, List.nil_append, List.append_assoc]
        rfl
theorem cut_line (K : Nat) (x : List Int) (hl : x.length ≤ 90000) (hb : ∀ a ∈ x, 0 ≤ a ∧ a ≤ 255) (hK : x.length + 4 ≤ K) : text_cut.f K x = some (linesF (cutO x) [] false) := by
  unfold text_cut.f
  have hf : bytes_IndexByte.f x 26 = some (idxP (fun a => decide (a = 26)) x) := if_pos ⟨hb, by omega, by omega⟩
  obtain ⟨K, rfl⟩ : ∃ j, K = j + 1 := ⟨K - 1, by omega⟩
  have go : ∀ y : List Int, y = cutO x → text_cut.j0 (K + 1) y = some (linesF (cutO x) [] false) := by
    rintro y rfl
    have h1 := cutO_length x
    rw [text_cut.j0, cut_loop (cutO x).length K (cutO x) [] (by omega) (by omega) (fun a h => hb a (cutO_mem x a h).1) (by simp; omega) (by omega)]
    rfl
  rw [hf, Option.bind_some]
  rcases idx26 x with ⟨h1, h2⟩ | ⟨t, h1, h2, h3⟩
  · rw [h1, if_neg (by omega)]
    exact go x h2.symm
  · rw [h1, if_pos (by omega), if_pos (by omega), if_pos (by omega), Int.toNat_natCast]
    exact go _ h3
theorem with_cons (e : List Int) (whole : Bool) (ls : List (List Int)) (i : Nat) (h : i < ls.length) : withF e whole (ls.drop i) = ls[i] ++ (if whole = true ∨ i + 1 < ls.length then e else []) ++ withF e whole (ls.drop (i + 1)) := by
  rw [List.drop_eq_getElem_cons h]
  by_cases g : i + 1 < ls.length
  · rw [if_pos (.inr g), List.drop_eq_getElem_cons g, withF]
  · rw [List.drop_eq_nil_of_le (by omega), withF, withF, List.append_nil]
    cases whole <;> simp [g]
theorem with_loop (e : List Int) (he : e.length ≤ 2) (ls : List (List Int)) (whole : Bool) (hl : ls.length ≤ 100000) (hB : ∀ y ∈ ls, y.length ≤ 100000) : ∀ (K i : Nat) (out : List Int), i ≤ ls.length → out.length ≤ i * 100002 → ls.length - i + 1 ≤ K →
    text_with.l0 K e ls whole out ls (ls.length : Int) (i : Int) = some (out ++ withF e whole (ls.drop i))
  | 0, i, _, _, _, h => by omega
  | K + 1, i, out, hi, ho, hK => by
    rw [text_with.l0]
    by_cases c : i < ls.length
    · have e2 : wrap64 ((i : Int) + 1) = ((i + 1 : Nat) : Int) := by rw [ws _ (by omega) (by omega)]; omega
      have e3 : wrap64 ((ls.length : Int) - 1) = ((ls.length : Int) - 1) := ws _ (by omega) (by omega)
      have hy := hB _ (List.getElem_mem c)
      rw [if_pos (by omega), if_pos (by omega), if_pos (by omega), rdl_at ls i c, if_pos (by omega), Option.bind_some, e2, e3, with_cons e whole ls i c]
      have hs : (i + 1) * 100002 = i * 100002 + 100002 := Nat.succ_mul _ _
      have hq : (out ++ ls[i]).length = out.length + ls[i].length := List.length_append
      have hq2 : (out ++ ls[i] ++ e).length = out.length + ls[i].length + e.length := by rw [List.length_append, hq]
      by_cases w : whole = true
      · rw [if_pos w, if_pos (by omega), if_pos (.inl w), with_loop e he ls whole hl hB K (i + 1) _ (by omega) (by omega) (by omega)]
        simp only [List.append_assoc]
      · rw [if_neg w]
        by_cases g : i + 1 < ls.length
        · rw [if_pos (by omega), if_pos (by omega), if_pos (.inr g), with_loop e he ls whole hl hB K (i + 1) _ (by omega) (by omega) (by omega)]
          simp only [List.append_assoc]
        · rw [if_neg (by omega), if_neg (by rintro (h | h); exact w h; exact g h), with_loop e he ls whole hl hB K (i + 1) _ (by omega) (by omega) (by omega), List.append_nil, List.append_assoc]
    · rw [if_neg (by omega), List.drop_eq_nil_of_le (by omega), withF, List.append_nil]
theorem rwith_loop (e : List Int) (he : e.length ≤ 2) (ls : List (List Int)) (whole : Bool) (hl : ls.length ≤ 100000) (hB : ∀ y ∈ ls, y.length ≤ 100000) : ∀ (K i : Nat) (out : List Int), i ≤ ls.length → out.length ≤ i * 100002 → ls.length - i + 1 ≤ K →
    duffelref39_With.l0 K e ls whole out (i : Int) = some (out ++ withF e whole (ls.drop i))
  | 0, i, _, _, _, h => by omega
  | K + 1, i, out, hi, ho, hK => by
    rw [duffelref39_With.l0]
    by_cases c : i < ls.length
    · have e2 : wrap64 ((i : Int) + 1) = ((i + 1 : Nat) : Int) := by rw [ws _ (by omega) (by omega)]; omega
      have hy := hB _ (List.getElem_mem c)
      rw [if_pos (by omega), if_pos (by omega), rdl_at ls i c, if_pos (by omega), Option.bind_some, e2, with_cons e whole ls i c]
      have hs : (i + 1) * 100002 = i * 100002 + 100002 := Nat.succ_mul _ _
      have hq : (out ++ ls[i]).length = out.length + ls[i].length := List.length_append
      have hq2 : (out ++ ls[i] ++ e).length = out.length + ls[i].length + e.length := by rw [List.length_append, hq]
      by_cases w : whole = true
      · rw [if_pos w, if_pos (by omega), if_pos (.inl w), rwith_loop e he ls whole hl hB K (i + 1) _ (by omega) (by omega) (by omega)]
        simp only [List.append_assoc]
      · rw [if_neg w]
        by_cases g : i + 1 < ls.length
        · rw [if_pos (by omega), if_pos (by omega), if_pos (.inr g), rwith_loop e he ls whole hl hB K (i + 1) _ (by omega) (by omega) (by omega)]
          simp only [List.append_assoc]
        · rw [if_neg (by omega), if_neg (by rintro (h | h); exact w h; exact g h), rwith_loop e he ls whole hl hB K (i + 1) _ (by omega) (by omega) (by omega), List.append_nil, List.append_assoc]
    · rw [if_neg (by omega), List.drop_eq_nil_of_le (by omega), withF, List.append_nil]
/-- bytes with other ends -/
def turn (e x : List Int) : List Int := withF e (linesF (cutO x) [] false).2 (linesF (cutO x) [] false).1
theorem lines_size (x : List Int) : (linesF (cutO x) [] false).1.length ≤ x.length + 1 ∧ ∀ y ∈ (linesF (cutO x) [] false).1, y.length ≤ x.length := by
  have h1 := cutO_length x
  have h2 := lines_bd (cutO x) [] false
  refine ⟨by omega, fun y hy => ?_⟩
  have := h2.2 y hy
  simp at this
  omega
theorem with_ok (K : Nat) (e x : List Int) (he : e.length ≤ 2) (hl : x.length ≤ 90000) (hb : ∀ a ∈ x, 0 ≤ a ∧ a ≤ 255) (hK : x.length + 5 ≤ K) : text_with.f K x e = some (turn e x) := by
  have h2 := lines_size x
  unfold text_with.f
  rw [cut_line K x hl hb (by omega), Option.bind_some]
  have h := with_loop e he (linesF (cutO x) [] false).1 (linesF (cutO x) [] false).2 (by omega) (fun y hy => by have := h2.2 y hy; omega) K 0 [] (by omega) (by simp) (by omega)
  exact h
theorem rwith_ok (K : Nat) (e x : List Int) (he : e.length ≤ 2) (hl : x.length ≤ 90000) (hK : 3 * x.length + 5 ≤ K) : duffelref39_With.f K x e = some (turn e x) := by
  have h2 := lines_size x
  unfold duffelref39_With.f
  rw [ref_lines_ok x K (by omega) (by omega), Option.bind_some]
  have h := rwith_loop e he (linesF (cutO x) [] false).1 (linesF (cutO x) [] false).2 (by omega) (fun y hy => by have := h2.2 y hy; omega) K 0 [] (by omega) (by simp) (by omega)
  exact h
theorem unix_ok (K : Nat) (x : List Int) (hl : x.length ≤ 90000) (hb : ∀ a ∈ x, 0 ≤ a ∧ a ≤ 255) (hK : x.length + 5 ≤ K) : text_ToUnix.f K x = some (turn [10] x) := by
  unfold text_ToUnix.f
  rw [with_ok K [10] x (by simp) hl hb hK]; rfl
theorem dos_ok (K : Nat) (x : List Int) (hl : x.length ≤ 90000) (hb : ∀ a ∈ x, 0 ≤ a ∧ a ≤ 255) (hK : x.length + 5 ≤ K) : text_ToDos.f K x = some (turn [13, 10] x) := by
  unfold text_ToDos.f
  rw [with_ok K [13, 10] x (by simp) hl hb hK]; rfl
theorem lines_ok (K : Nat) (x : List Int) (hl : x.length ≤ 90000) (hb : ∀ a ∈ x, 0 ≤ a ∧ a ≤ 255) (hK : x.length + 4 ≤ K) : text_Lines.f K x = some (linesF (cutO x) [] false).1 := by
  unfold text_Lines.f
  rw [cut_line K x hl hb hK]; rfl
theorem turn_size (e x : List Int) (he : e.length ≤ 2) : (turn e x).length ≤ (x.length + 1) * (x.length + 2) := by
  have h2 := lines_size x
  refine Nat.le_trans (with_bd e _ he _ x.length h2.2) ?_
  exact Nat.mul_le_mul_right _ h2.1
theorem lives_200000 : duffellaw39_lives.f 200000 = some true := by decide +kernel
theorem TextLines : duffellaw39_TextLines.Pure := by
  intro l0 _ _ hw
  refine ⟨200000, ?_⟩
  have hL : (l0.take 300).length ≤ 300 := by rw [List.length_take]; omega
  have hb : ∀ x ∈ l0.take 300, 0 ≤ x ∧ x ≤ 255 := fun x hx => u8_of (hw x (List.mem_of_mem_take hx))
  obtain ⟨L, hLL⟩ : ∃ L, l0.take 300 = L := ⟨_, rfl⟩
  have hc : cut_u8.f l0 300 = some L := by rw [← hLL]; exact cut_ok l0 300
  rw [hLL] at hL hb
  have hcp : duffelref01_Copy.f L = some L := by unfold duffelref01_Copy.f; rw [if_pos (by simp; omega)]; rfl
  have hs := lines_size L
  have t1 : (turn [10] L).length ≤ 301 * 302 := Nat.le_trans (turn_size [10] L (by simp)) (Nat.mul_le_mul (by omega) (by omega))
  have t2 : (turn [13, 10] L).length ≤ 301 * 302 := Nat.le_trans (turn_size [13, 10] L (by simp)) (Nat.mul_le_mul (by omega) (by omega))
  unfold duffellaw39_TextLines.f
  rw [hc, Option.bind_some, hcp, Option.bind_some, ref_lines_ok L 200000 (by omega) (by omega), Option.bind_some, lines_ok 200000 L (by omega) hb (by omega), Option.bind_some, sames_ok _ 300 200000 (by omega) (fun y hy => by have := hs.2 y hy; omega) (by omega) (by omega), Option.bind_some, if_pos rfl]
  rw [unix_ok 200000 L (by omega) hb (by omega), Option.bind_some, rwith_ok 200000 [10] L (by simp) (by omega) (by omega), Option.bind_some, same_ok _ 200000 (by omega) (by omega), Option.bind_some, if_pos rfl]
  rw [dos_ok 200000 L (by omega) hb (by omega), Option.bind_some, rwith_ok 200000 [13, 10] L (by simp) (by omega) (by omega), Option.bind_some, same_ok _ 200000 (by omega) (by omega), Option.bind_some, if_pos rfl]
  rw [same_ok L 200000 (by omega) (by omega), Option.bind_some, if_pos rfl, lives_200000]
  rfl
end Go.Proofs.YtlliomkjnhbbbaaDoor.Pure
