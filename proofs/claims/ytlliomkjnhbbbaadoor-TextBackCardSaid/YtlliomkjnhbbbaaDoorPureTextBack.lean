/- TextBack: the plain law. -/
import Derived.Test.YtlliomkjnhbbbaaDoorPureTextLines
namespace Go.Proofs.YtlliomkjnhbbbaaDoor.Pure
open Go Go.RowKit Go.Proofs.YtlliomkjnhbbbaaDoorW.PrintWords Go.Proofs.YtlliomkjnhbbbaaDoorW.PrintLast
open Go.Proofs.YtlliomkjnhbbbaaDoor.TE Go.Proofs.YtlliomkjnhbbbaaDoor.MyCut Go.Proofs.YtlliomkjnhbbbaaDoor.Tx
theorem has_loop (L : List Int) (c : Int) (hl : L.length ≤ 1000000000) : ∀ (K i : Nat), i ≤ L.length → L.length - i + 1 ≤ K → duffelref39_Has.l0 K L c (i : Int) = some (decide (c ∈ L.drop i))
  | 0, i, _, h => by omega
  | K + 1, i, hi, hK => by
    rw [duffelref39_Has.l0]
    by_cases g : i < L.length
    · have e2 : wrap64 ((i : Int) + 1) = ((i + 1 : Nat) : Int) := by rw [ws _ (by omega) (by omega)]; omega
      rw [if_pos (by omega), if_pos (by omega), rd_at L i g, e2, List.drop_eq_getElem_cons g]
      by_cases e : L[i] = c
      · rw [if_pos e]
        congr 1
        exact (decide_eq_true (by rw [e]; exact List.mem_cons_self)).symm
      · rw [if_neg e, has_loop L c hl K (i + 1) (by omega) (by omega)]
        congr 1
        rw [decide_eq_decide, List.mem_cons]
        exact ⟨.inr, fun h => h.elim (fun h => absurd h.symm e) id⟩
    · rw [if_neg (by omega), List.drop_eq_nil_of_le (by omega)]
      rfl
theorem has_ok (L : List Int) (c : Int) (K : Nat) (hl : L.length ≤ 1000000000) (hK : L.length + 1 ≤ K) : duffelref39_Has.f K L c = some (decide (c ∈ L)) := by
  have h := has_loop L c hl K 0 (by omega) (by omega)
  exact h
theorem good_no26 {e : List Int} (he : GoodEnd e) : (26 : Int) ∉ e := by rcases he with rfl | rfl <;> simp
theorem all_clean (x : List Int) : ∀ y ∈ (linesF (cutO x) [] false).1, Tx.Clean y :=
  lines_clean (cutO x) [] false (fun a ha => (cutO_mem x a ha).2) (fun a h => by simp at h)
theorem turn_no26 (e x : List Int) (he : GoodEnd e) : (26 : Int) ∉ turn e x := by
  intro h
  rcases with_mem e _ _ _ h with h | ⟨y, hy, h⟩
  · exact good_no26 he h
  · exact (all_clean x y hy 26 h).2.2 rfl
theorem turn_lines (e x : List Int) (he : GoodEnd e) : linesF (cutO (turn e x)) [] false = linesF (cutO x) [] false := by
  rw [cutO_same _ (turn_no26 e x he)]
  exact back_lines e he _ _ (all_clean x) (fun h => lines_last (cutO x) [] false (by simp) h)
theorem turn_turn (e d x : List Int) (hd : GoodEnd d) : turn e (turn d x) = turn e x := by
  unfold turn
  have h := turn_lines d x hd
  unfold turn at h
  rw [h]
theorem turn_bytes (e x : List Int) (he : GoodEnd e) (hb : ∀ a ∈ x, 0 ≤ a ∧ a ≤ 255) : ∀ a ∈ turn e x, 0 ≤ a ∧ a ≤ 255 := by
  have key : ∀ (z now : List Int) (o : Bool), (∀ a ∈ z, 0 ≤ a ∧ a ≤ 255) → (∀ a ∈ now, 0 ≤ a ∧ a ≤ 255) → ∀ y ∈ (linesF z now o).1, ∀ a ∈ y, 0 ≤ a ∧ a ≤ 255 := by
    intro z
    induction z with
    | nil =>
      intro now o _ hn y hy
      unfold linesF at hy
      split at hy
      · rw [List.mem_singleton.1 hy]; exact hn
      · simp at hy
    | cons c r ih =>
      intro now o hz hn y hy
      have hr : ∀ a ∈ r, 0 ≤ a ∧ a ≤ 255 := fun a h => hz a (List.mem_cons_of_mem _ h)
      unfold linesF at hy
      split at hy
      · exact ih now o hr hn y hy
      · split at hy
        · rcases List.mem_cons.1 hy with rfl | hy
          · exact hn
          · exact ih [] false hr (fun a h => by simp at h) y hy
        · refine ih (now ++ [c]) true hr (fun a h => ?_) y hy
          rcases List.mem_append.1 h with h | h
          · exact hn a h
          · rw [List.mem_singleton.1 h]; exact hz c List.mem_cons_self
  intro a ha
  rcases with_mem e _ _ _ ha with h | ⟨y, hy, h⟩
  · rcases he with rfl | rfl
    · rw [List.mem_singleton.1 h]; omega
    · simp at h; omega
  · exact key (cutO x) [] false (fun a h => hb a (cutO_mem x a h).1) (fun a h => by simp at h) y hy a h
def tot : List (List Int) → Nat
  | [] => 0
  | x :: r => x.length + tot r
theorem with_tot (e : List Int) (whole : Bool) (he : e.length ≤ 2) : ∀ ls : List (List Int), (withF e whole ls).length ≤ tot ls + 2 * ls.length
  | [] => by simp [withF]
  | [y] => by
    rw [withF, List.length_append, tot, tot]
    split <;> simp <;> omega
  | y :: z :: r => by
    have ih := with_tot e whole he (z :: r)
    rw [withF, List.length_append, List.length_append, tot, List.length_cons]
    omega
theorem lines_tot : ∀ (x now : List Int) (o : Bool), tot (linesF x now o).1 ≤ now.length + x.length
  | [], now, o => by
    unfold linesF
    split <;> simp [tot]
  | c :: r, now, o => by
    unfold linesF
    split
    · have h := lines_tot r now o
      simp only [List.length_cons]; omega
    · split
      · have h := lines_tot r [] false
        simp only [tot, List.length_cons, List.length_nil] at *; omega
      · have h := lines_tot r (now ++ [c]) true
        simp only [List.length_append, List.length_cons, List.length_nil] at *; omega
theorem turn_bd (e x : List Int) (he : GoodEnd e) : (turn e x).length ≤ 3 * x.length + 2 := by
  have h1 := with_tot e (linesF (cutO x) [] false).2 (by rcases he with rfl | rfl <;> simp) (linesF (cutO x) [] false).1
  have h2 := lines_tot (cutO x) [] false
  have h3 := cutO_length x
  have h4 := lines_size x
  unfold turn
  simp only [List.length_nil] at h2
  omega
theorem unix_no13 (x : List Int) : (13 : Int) ∉ turn [10] x := by
  intro h
  rcases with_mem [10] _ _ _ h with h | ⟨y, hy, h⟩
  · simp at h
  · exact (all_clean x y hy 13 h).1 rfl
theorem unix_same (x : List Int) (h13 : (13 : Int) ∉ x) (h26 : (26 : Int) ∉ x) : turn [10] x = x := by
  unfold turn
  rw [cutO_same x h26, with_same x [] false h13 (fun _ => rfl)]
  rfl
theorem lives_199999 : duffellaw39_lives.f 199999 = some true := by decide +kernel
theorem TextBack : duffellaw39_TextBack.Pure := by
  intro l0 _ _ hw
  refine ⟨200000, ?_⟩
  have hL : (l0.take 300).length ≤ 300 := by rw [List.length_take]; omega
  have hb : ∀ x ∈ l0.take 300, 0 ≤ x ∧ x ≤ 255 := fun x hx => u8_of (hw x (List.mem_of_mem_take hx))
  obtain ⟨L, hLL⟩ : ∃ L, l0.take 300 = L := ⟨_, rfl⟩
  have hc : cut_u8.f l0 300 = some L := by rw [← hLL]; exact cut_ok l0 300
  rw [hLL] at hL hb
  have gu : GoodEnd [10] := .inl rfl
  have gd : GoodEnd [13, 10] := .inr rfl
  have hs := lines_size L
  have bu := turn_bytes [10] L gu hb
  have bd := turn_bytes [13, 10] L gd hb
  have zu := turn_bd [10] L gu
  have zd := turn_bd [13, 10] L gd
  have su := turn_lines [10] L gu
  have sd := turn_lines [13, 10] L gd
  unfold duffellaw39_TextBack.f
  rw [hc, Option.bind_some, unix_ok 200000 L (by omega) hb (by omega), Option.bind_some, dos_ok 200000 L (by omega) hb (by omega), Option.bind_some, unix_ok 200000 _ (by omega) bd (by omega), Option.bind_some, turn_turn [10] [13, 10] L gd, same_ok _ 200000 (by omega) (by omega), Option.bind_some, if_pos rfl]
  rw [dos_ok 200000 _ (by omega) bu (by omega), Option.bind_some, turn_turn [13, 10] [10] L gu, same_ok _ 200000 (by omega) (by omega), Option.bind_some, if_pos rfl]
  rw [lines_ok 200000 _ (by omega) bu (by omega), Option.bind_some, su, lines_ok 200000 L (by omega) hb (by omega), Option.bind_some, sames_ok _ 300 200000 (by omega) (fun y hy => by have := hs.2 y hy; omega) (by omega) (by omega), Option.bind_some, if_pos rfl]
  rw [lines_ok 200000 _ (by omega) bd (by omega), Option.bind_some, sd, Option.bind_some, sames_ok _ 300 200000 (by omega) (fun y hy => by have := hs.2 y hy; omega) (by omega) (by omega), Option.bind_some]
  rw [duffellaw39_TextBack.j0, if_neg (by simp), has_ok L 13 199999 (by omega) (by omega), Option.bind_some]
  have tail : ((duffelref39_Has.f 199999 (turn [10] L) 13).bind fun t295 => (if t295 = true then (some false) else ((duffelref39_Has.f 199999 (turn [10] L) 26).bind fun t296 => (if t296 = true then (some false) else ((duffellaw39_lives.f 199999).bind fun t297 => (some t297)))))) = some true := by
    rw [has_ok _ 13 199999 (by omega) (by omega), Option.bind_some, decide_eq_false (unix_no13 L), if_neg (by simp), has_ok _ 26 199999 (by omega) (by omega), Option.bind_some, decide_eq_false (turn_no26 [10] L gu), if_neg (by simp), lives_199999]
    rfl
  by_cases h13 : (13 : Int) ∈ L
  · rw [if_pos (decide_eq_true h13)]
    exact tail
  · rw [decide_eq_false h13, if_neg (by simp), has_ok L 26 199999 (by omega) (by omega), Option.bind_some]
    by_cases h26 : (26 : Int) ∈ L
    · rw [if_pos (decide_eq_true h26)]
      exact tail
    · rw [decide_eq_false h26, if_neg (by simp), unix_same L h13 h26, same_ok L 199999 (by omega) (by omega), Option.bind_some, if_pos rfl]
      rw [unix_same L h13 h26] at tail
      exact tail
end Go.Proofs.YtlliomkjnhbbbaaDoor.Pure
