/- The reference's part (all beginnings at once), of what the printed loops compute: the same plain law. -/
import Derived.Test.YtegfcemedkajkaaDoorWildRef0
namespace Go.Proofs.YtegfcemedkajkaaDoor.Wd
open Go.RowKit Go.Proofs.YtegfcemedkajkaaDoorW.PrintWords Go.Proofs.YtegfcemedkajkaaDoorW.PrintLast Go.Proofs.YtegfcemedkajkaaDoorW.PrintMore
set_option linter.unusedVariables false
set_option linter.unusedSimpArgs false
/-- some beginning that stands goes on to the end -/
def Some_ (p : List Int) (N : List Bool) (t : List Int) : Prop := ∃ i, i ≤ p.length ∧ N.getD i false = true ∧ glob (p.drop i) t = true
/-- closed under stars, below i -/
def ClosedTo (p : List Int) (N : List Bool) (i : Nat) : Prop := ∀ j, j < i → N.getD j false = true → p.getD j 0 = 42 → N.getD (j + 1) false = true
theorem rdb_nat (l : List Bool) (i : Nat) : rdOf false l (i : Int) = l.getD i false := by unfold rdOf; simp
theorem getD_set (N : List Bool) (m j : Nat) (h : m < N.length) : (N.set m true).getD j false = if j = m then true else N.getD j false := by
  simp only [List.getD_eq_getElem?_getD, List.getElem?_set]
  by_cases e : m = j
  · subst e; simp [h]
  · have e2 : ¬ j = m := fun x => e x.symm
    simp [e, e2]
theorem star_self (f : List Int → Bool) (t : List Int) (h : f t = true) : starOf f t = true := (starOf_iff f t).2 ⟨[], t, rfl, h⟩
theorem some_set (p : List Int) (N : List Bool) (i : Nat) (t : List Int) (hi : i < p.length) (hN : N.length = p.length + 1) (h : N.getD i false = true) (e : p.getD i 0 = 42) : Some_ p (N.set (i + 1) true) t ↔ Some_ p N t := by
  constructor
  · rintro ⟨j, hj, h1, h2⟩
    rw [getD_set _ _ _ (by omega)] at h1
    by_cases c : j = i + 1
    · subst c
      refine ⟨i, by omega, h, ?_⟩
      rw [drop_get p i hi, e, glob_star]
      exact star_self _ _ h2
    · rw [if_neg c] at h1; exact ⟨j, hj, h1, h2⟩
  · rintro ⟨j, hj, h1, h2⟩
    refine ⟨j, hj, ?_, h2⟩
    rw [getD_set _ _ _ (by omega)]
    split
    · rfl
    · exact h1
theorem stars_ev (p : List Int) (hp : p.length < 1000000) : ∀ (n i : Nat) (N : List Bool), p.length - i = n → i ≤ p.length → N.length = p.length + 1 → ClosedTo p N i →
    ∃ M : List Bool, Ev (fun K => WB.duffelref29_stars.l0 K p N (i : Int)) M ∧ M.length = p.length + 1 ∧ ClosedTo p M p.length ∧ ∀ t, Some_ p M t ↔ Some_ p N t
  | 0, i, N, h, hi, hN, hc => by
    have e : i = p.length := by omega
    subst e
    refine ⟨N, Ev.step (f := fun _ => some N) (fun K => ?_) (Ev.now _), hN, hc, fun t => Iff.rfl⟩
    show WB.duffelref29_stars.l0 (K + 1) p _ _ = _
    rw [WB.duffelref29_stars.l0]
    rw [if_neg (by omega)]
  | n + 1, i, N, h, hi, hN, hc => by
    have c : i < p.length := by omega
    by_cases hb : N.getD i false = true
    · by_cases e : p.getD i 0 = 42
      · have hc' : ClosedTo p (N.set (i + 1) true) (i + 1) := by
          intro j hj h1 h2
          rw [getD_set _ _ _ (by omega)]
          rw [getD_set _ _ _ (by omega), if_neg (by omega)] at h1
          by_cases c2 : j = i
          · rw [if_pos (by omega)]
          · rw [if_neg (by omega)]; exact hc j (by omega) h1 h2
        obtain ⟨M, h1, h2, h3, h4⟩ := stars_ev p hp n (i + 1) (N.set (i + 1) true) (by omega) (by omega) (by simp; exact hN) hc'
        refine ⟨M, Ev.step (fun K => ?_) h1, h2, h3, fun t => (h4 t).trans (some_set p N i t c hN hb e)⟩
        show WB.duffelref29_stars.l0 (K + 1) p _ _ = _
        rw [WB.duffelref29_stars.l0]
        rw [if_pos (by omega), if_pos (by omega), if_pos (by omega), rdb_nat, if_pos hb, rd_nat, if_pos e, w_inc i (by omega), if_pos (by omega), if_pos (by omega), Int.toNat_natCast]
      · have hc' : ClosedTo p N (i + 1) := by
          intro j hj h1 h2
          by_cases c2 : j = i
          · subst c2; exact absurd h2 e
          · exact hc j (by omega) h1 h2
        obtain ⟨M, h1, h2, h3, h4⟩ := stars_ev p hp n (i + 1) N (by omega) (by omega) hN hc'
        refine ⟨M, Ev.step (fun K => ?_) h1, h2, h3, h4⟩
        show WB.duffelref29_stars.l0 (K + 1) p _ _ = _
        rw [WB.duffelref29_stars.l0]
        rw [if_pos (by omega), if_pos (by omega), if_pos (by omega), rdb_nat, if_pos hb, rd_nat, if_neg e, w_inc i (by omega)]
    · have hc' : ClosedTo p N (i + 1) := by
        intro j hj h1 h2
        by_cases c2 : j = i
        · subst c2; exact absurd h1 hb
        · exact hc j (by omega) h1 h2
      obtain ⟨M, h1, h2, h3, h4⟩ := stars_ev p hp n (i + 1) N (by omega) (by omega) hN hc'
      refine ⟨M, Ev.step (fun K => ?_) h1, h2, h3, h4⟩
      show WB.duffelref29_stars.l0 (K + 1) p _ _ = _
      rw [WB.duffelref29_stars.l0]
      rw [if_pos (by omega), if_pos (by omega), if_pos (by omega), rdb_nat, if_neg hb, w_inc i (by omega)]
theorem stars_ev0 (p : List Int) (hp : p.length < 1000000) (N : List Bool) (hN : N.length = p.length + 1) :
    ∃ M : List Bool, Ev (fun K => WB.duffelref29_stars.f K p N) M ∧ M.length = p.length + 1 ∧ ClosedTo p M p.length ∧ ∀ t, Some_ p M t ↔ Some_ p N t :=
  stars_ev p hp p.length 0 N (by omega) (by omega) hN (fun j hj => by omega)
/-- one byte read: from a beginning to a beginning -/
def Goes (p : List Int) (d : Int) (j m : Nat) : Prop := (p.getD j 0 = 42 ∧ m = j) ∨ (p.getD j 0 ≠ 42 ∧ (p.getD j 0 = 63 ∨ p.getD j 0 = d) ∧ m = j + 1)
def NextTo (p : List Int) (d : Int) (N X : List Bool) (i : Nat) : Prop := ∀ m, X.getD m false = true ↔ ∃ j, j < i ∧ N.getD j false = true ∧ Goes p d j m
theorem next_skip {p : List Int} {d : Int} {N X : List Bool} {i : Nat} (h : NextTo p d N X i) (hn : ∀ m, ¬ (N.getD i false = true ∧ Goes p d i m)) : NextTo p d N X (i + 1) := by
  intro m
  rw [h m]
  constructor
  · rintro ⟨j, h1, h2⟩; exact ⟨j, by omega, h2⟩
  · rintro ⟨j, h1, h2⟩
    by_cases c : j = i
    · subst c; exact absurd h2 (hn m)
    · exact ⟨j, by omega, h2⟩
theorem next_set {p : List Int} {d : Int} {N X : List Bool} {i m0 : Nat} (h : NextTo p d N X i) (hN : N.getD i false = true) (hg : Goes p d i m0) (hu : ∀ m, Goes p d i m → m = m0) (hl : m0 < X.length) : NextTo p d N (X.set m0 true) (i + 1) := by
  intro m
  rw [getD_set _ _ _ hl]
  by_cases c : m = m0
  · subst c
    rw [if_pos rfl]
    exact ⟨fun _ => ⟨i, by omega, hN, hg⟩, fun _ => rfl⟩
  · rw [if_neg c, h m]
    constructor
    · rintro ⟨j, h1, h2⟩; exact ⟨j, by omega, h2⟩
    · rintro ⟨j, h1, h2, h3⟩
      by_cases e : j = i
      · subst e; exact absurd (hu m h3) c
      · exact ⟨j, by omega, h2, h3⟩
theorem next_some {p : List Int} {d : Int} {N X : List Bool} {t : List Int} (hx : NextTo p d N X p.length) (hc : ClosedTo p N p.length) : Some_ p X t ↔ Some_ p N (d :: t) := by
  constructor
  · rintro ⟨m, hm, h1, h2⟩
    obtain ⟨j, hj, h3, h4⟩ := (hx m).1 h1
    refine ⟨j, by omega, h3, ?_⟩
    rw [drop_get p j hj]
    rcases h4 with ⟨e, rfl⟩ | ⟨e, e2, rfl⟩
    · rw [drop_get p m hj, e, glob_star] at h2
      rw [e, glob_star, starOf, h2, Bool.or_true]
    · rw [glob_lit1 _ _ e, h2]
      rcases e2 with e2 | e2
      · rw [decide_eq_true e2]; rfl
      · rw [decide_eq_true e2, Bool.or_true]; rfl
  · rintro ⟨i, hi, h1, h2⟩
    -- the last of the stars that stand one behind the other takes the byte or lets it by
    have key : ∀ n i, p.length - i = n → i ≤ p.length → N.getD i false = true → glob (p.drop i) (d :: t) = true → Some_ p X t := by
      intro n
      induction n with
      | zero =>
        intro i hn hi h1 h2
        have e : i = p.length := by omega
        rw [e, List.drop_length] at h2
        cases h2
      | succ n ih =>
        intro i hn hi h1 h2
        have c : i < p.length := by omega
        rw [drop_get p i c] at h2
        by_cases e : p.getD i 0 = 42
        · rw [e, glob_star, starOf, Bool.or_eq_true] at h2
          rcases h2 with h2 | h2
          · exact ih (i + 1) (by omega) (by omega) (hc i c h1 e) h2
          · refine ⟨i, hi, (hx i).2 ⟨i, c, h1, .inl ⟨e, rfl⟩⟩, ?_⟩
            rw [drop_get p i c, e, glob_star]; exact h2
        · rw [glob_lit1 _ _ e, Bool.and_eq_true, Bool.or_eq_true] at h2
          refine ⟨i + 1, by omega, (hx _).2 ⟨i, c, h1, .inr ⟨e, ?_, rfl⟩⟩, h2.2⟩
          rcases h2.1 with h | h
          · exact .inl (of_decide_eq_true h)
          · exact .inr (of_decide_eq_true h)
    exact key _ i rfl hi h1 h2
theorem some_nil {p : List Int} {N : List Bool} (hc : ClosedTo p N p.length) : Some_ p N [] ↔ N.getD p.length false = true := by
  constructor
  · rintro ⟨i, hi, h1, h2⟩
    have key : ∀ n i, p.length - i = n → i ≤ p.length → N.getD i false = true → glob (p.drop i) [] = true → N.getD p.length false = true := by
      intro n
      induction n with
      | zero =>
        intro i hn hi h1 h2
        have e : i = p.length := by omega
        rw [← e]; exact h1
      | succ n ih =>
        intro i hn hi h1 h2
        have c : i < p.length := by omega
        rw [drop_get p i c] at h2
        by_cases e : p.getD i 0 = 42
        · rw [e, glob_star] at h2
          exact ih (i + 1) (by omega) (by omega) (hc i c h1 e) h2
        · rw [glob_lit0 _ _ e] at h2; cases h2
    exact key _ i rfl hi h1 h2
  · intro h
    exact ⟨p.length, Nat.le_refl _, h, by rw [List.drop_length]; rfl⟩
theorem w_len (n : Nat) (h : n < 1000000) : wrap64 ((n : Int) + 1) = ((n + 1 : Nat) : Int) := w_inc n h
theorem getD_replicate (n m : Nat) : (List.replicate n false).getD m false = false := by
  rw [List.getD_eq_getElem?_getD, List.getElem?_replicate]
  split <;> rfl
theorem rpart_l1 (p s : List Int) (hp : p.length < 1000000) (hs : s.length < 1000000) (N : List Bool) (hN : N.length = p.length + 1) (k : Nat) (hk : k < s.length) (r : Bool)
    (hend : ∀ X : List Bool, X.length = p.length + 1 → NextTo p (s.getD k 0) N X p.length → ∃ M : List Bool, Ev (fun K => WB.duffelref29_stars.f K p X) M ∧ Ev (fun K => WB.duffelref29_part.l0 K p s M ((k + 1 : Nat) : Int)) r) :
    ∀ (n i : Nat) (X : List Bool), p.length - i = n → i ≤ p.length → X.length = p.length + 1 → NextTo p (s.getD k 0) N X i → Ev (fun K => WB.duffelref29_part.l1 K p s N (k : Int) X (i : Int)) r
  | 0, i, X, h, hi, hX, hn => by
    have e : i = p.length := by omega
    subst e
    obtain ⟨M, h1, h2⟩ := hend X hX hn
    refine Ev.step (f := fun K => (WB.duffelref29_stars.f K p X).bind fun t => WB.duffelref29_part.l0 K p s t ((k + 1 : Nat) : Int)) (fun K => ?_) (Ev.bind h1 h2)
    show WB.duffelref29_part.l1 (K + 1) p s _ _ _ _ = _
    rw [WB.duffelref29_part.l1]
    rw [if_neg (by omega), w_inc k (by omega)]
  | n + 1, i, X, h, hi, hX, hn => by
    have c : i < p.length := by omega
    have go := fun X' (hX' : X'.length = p.length + 1) hn' => rpart_l1 p s hp hs N hN k hk r hend n (i + 1) X' (by omega) (by omega) hX' hn'
    by_cases hb : N.getD i false = true
    · by_cases e : p.getD i 0 = 42
      · refine Ev.step (fun K => ?_) (go (X.set i true) (by simp; exact hX) (next_set hn hb (.inl ⟨e, rfl⟩) (fun m hm => by rcases hm with hm | hm; exact hm.2; exact absurd e hm.1) (by omega)))
        show WB.duffelref29_part.l1 (K + 1) p s _ _ _ _ = _
        rw [WB.duffelref29_part.l1]
        rw [if_pos (by omega), if_pos (by omega), if_pos (by omega), rdb_nat, if_pos hb, rd_nat, if_pos e, if_pos (by omega), w_inc i (by omega), Int.toNat_natCast]
      · have hset : (p.getD i 0 = 63 ∨ p.getD i 0 = s.getD k 0) → Ev (fun K => WB.duffelref29_part.l1 K p s N (k : Int) (X.set (i + 1) true) ((i + 1 : Nat) : Int)) r := fun hg =>
          go (X.set (i + 1) true) (by simp; exact hX) (next_set hn hb (.inr ⟨e, hg, rfl⟩) (fun m hm => by rcases hm with hm | hm; exact absurd hm.1 e; exact hm.2.2) (by omega))
        by_cases e63 : p.getD i 0 = 63
        · refine Ev.step (fun K => ?_) (hset (.inl e63))
          show WB.duffelref29_part.l1 (K + 1) p s _ _ _ _ = _
          rw [WB.duffelref29_part.l1]
          rw [if_pos (by omega), if_pos (by omega), if_pos (by omega), rdb_nat, if_pos hb, rd_nat, if_neg e, if_pos e63, w_inc i (by omega), if_pos (by omega), if_pos (by omega), Int.toNat_natCast]
        · by_cases ek : p.getD i 0 = s.getD k 0
          · refine Ev.step (fun K => ?_) (hset (.inr ek))
            show WB.duffelref29_part.l1 (K + 1) p s _ _ _ _ = _
            rw [WB.duffelref29_part.l1]
            rw [if_pos (by omega), if_pos (by omega), if_pos (by omega), rdb_nat, if_pos hb, rd_nat, if_neg e, if_neg e63, if_pos (by omega), if_pos (by omega), rd_nat, if_pos ek, w_inc i (by omega), if_pos (by omega), if_pos (by omega), Int.toNat_natCast]
          · refine Ev.step (fun K => ?_) (go X hX (next_skip hn (fun m hm => by rcases hm.2 with hg | hg; exact e hg.1; exact hg.2.1.elim e63 ek)))
            show WB.duffelref29_part.l1 (K + 1) p s _ _ _ _ = _
            rw [WB.duffelref29_part.l1]
            rw [if_pos (by omega), if_pos (by omega), if_pos (by omega), rdb_nat, if_pos hb, rd_nat, if_neg e, if_neg e63, if_pos (by omega), if_pos (by omega), rd_nat, if_neg ek, w_inc i (by omega)]
    · refine Ev.step (fun K => ?_) (go X hX (next_skip hn (fun m hm => hb hm.1)))
      show WB.duffelref29_part.l1 (K + 1) p s _ _ _ _ = _
      rw [WB.duffelref29_part.l1]
      rw [if_pos (by omega), if_pos (by omega), if_pos (by omega), rdb_nat, if_neg hb, w_inc i (by omega)]
theorem rpart_l0 (p s : List Int) (hp : p.length < 1000000) (hs : s.length < 1000000) : ∀ (n k : Nat) (N : List Bool) (r : Bool), s.length - k = n → k ≤ s.length → N.length = p.length + 1 → ClosedTo p N p.length →
    (r = true ↔ Some_ p N (s.drop k)) → Ev (fun K => WB.duffelref29_part.l0 K p s N (k : Int)) r
  | 0, k, N, r, h, hk, hN, hc, hr => by
    have e : k = s.length := by omega
    subst e
    rw [List.drop_length, some_nil hc] at hr
    have er : r = N.getD p.length false := Bool.eq_iff_iff.2 hr
    rw [er]
    refine Ev.step (f := fun _ => some (N.getD p.length false)) (fun K => ?_) (Ev.now _)
    show WB.duffelref29_part.l0 (K + 1) p s _ _ = _
    rw [WB.duffelref29_part.l0]
    rw [if_neg (by omega), if_pos (by omega), if_pos (by omega), rdb_nat]
  | n + 1, k, N, r, h, hk, hN, hc, hr => by
    have c : k < s.length := by omega
    rw [drop_get s k c] at hr
    have h1 := rpart_l1 p s hp hs N hN k c r (fun X hX hn => by
      obtain ⟨M, m1, m2, m3, m4⟩ := stars_ev0 p hp X hX
      exact ⟨M, m1, rpart_l0 p s hp hs n (k + 1) M r (by omega) (by omega) m2 m3 (hr.trans ((next_some hn hc).symm.trans (m4 _).symm))⟩)
      p.length 0 (List.replicate (p.length + 1) false) (by omega) (by omega) (by simp) (fun m => by
        rw [getD_replicate]
        exact ⟨fun h => (by cases h), fun ⟨j, hj, _⟩ => (by omega)⟩)
    refine Ev.step (fun K => ?_) h1
    show WB.duffelref29_part.l0 (K + 1) p s _ _ = _
    rw [WB.duffelref29_part.l0]
    rw [if_pos (by omega), w_len p.length hp, if_pos (by omega), Int.toNat_natCast, if_pos (by omega)]
    rfl
theorem rpart_ev (p s : List Int) (hp : p.length < 1000000) (hs : s.length < 1000000) (hr : ∀ x ∈ p, 0 ≤ x ∧ x < 256) : Ev (fun K => WB.duffelref29_part.f K p s) (partB p s) := by
  unfold partB
  by_cases e : p = [42, 46, 42]
  · rw [decide_eq_true e, Bool.true_or]
    refine Ev.congr (f := fun _ => some true) (fun K => ?_) (Ev.now _)
    unfold WB.duffelref29_part.f
    rw [Lib.strOfNums_toList, if_pos (by rw [e]; decide)]
  · have e2 : ¬ Lib.bytesOf p = ([42, 46, 42] : List UInt8) := fun h => e (bytesOf_inj p [42, 46, 42] hr (by decide) (h.trans (by decide)))
    rw [decide_eq_false e, Bool.false_or]
    obtain ⟨M, m1, m2, m3, m4⟩ := stars_ev0 p hp ((List.replicate (p.length + 1) false).set 0 true) (by simp)
    have hl := rpart_l0 p s hp hs s.length 0 M (glob p s) (by omega) (by omega) m2 m3 (by
      rw [m4, List.drop_zero]
      constructor
      · intro h
        exact ⟨0, by omega, by rw [getD_set _ _ _ (by simp), if_pos rfl], by rw [List.drop_zero]; exact h⟩
      · rintro ⟨i, hi, h1, h2⟩
        rw [getD_set _ _ _ (by simp), getD_replicate] at h1
        by_cases c : i = 0
        · subst c; rwa [List.drop_zero] at h2
        · rw [if_neg c] at h1; cases h1)
    refine Ev.congr (fun K => ?_) (Ev.bind (f := fun K M => WB.duffelref29_part.l0 K p s M 0) m1 hl)
    unfold WB.duffelref29_part.f
    rw [Lib.strOfNums_toList, if_neg e2, w_len p.length hp, if_pos (by omega), Int.toNat_natCast, if_pos (by omega), Option.bind_some]
    refine (if_pos (by simp)).trans ?_
    rfl
/-- The reference's Match. -/
theorem rmatch_l0 (X Y : List (List Int)) (gX : Good X) (gY : Good Y) (hn : X.length = Y.length) : ∀ (n i : Nat), X.length - i = n → i ≤ X.length → (∀ j, j < i → partB (X.getD j []) (Y.getD j []) = true) →
    Ev (fun K => WB.duffelref29_Match.l0 K X Y (i : Int)) (eqParts X Y)
  | 0, i, h, hi, ha => by
    have e : i = X.length := by omega
    subst e
    rw [eqParts_true hn ha]
    refine Ev.step (f := fun _ => some true) (fun K => ?_) (Ev.now _)
    show WB.duffelref29_Match.l0 (K + 1) X Y _ = _
    rw [WB.duffelref29_Match.l0]
    rw [if_neg (by omega)]
  | n + 1, i, h, hi, ha => by
    have c : i < X.length := by omega
    have hp := gX.2 _ (mem_getD c)
    have hs := (gY.2 _ (mem_getD (show i < Y.length by omega))).1
    have hpe := rpart_ev (X.getD i []) (Y.getD i []) hp.1 hs hp.2
    have r1 : ∀ Z : List (List Int), WB.rd_L1 Z (i : Int) = Z.getD i [] := fun Z => by unfold WB.rd_L1; rw [Int.toNat_natCast]
    have hlen := gX.1
    cases hb : partB (X.getD i []) (Y.getD i []) with
    | true =>
      rw [hb] at hpe
      have ih := rmatch_l0 X Y gX gY hn n (i + 1) (by omega) (by omega) (fun j hj => by
        by_cases e : j = i
        · subst e; exact hb
        · exact ha j (by omega))
      refine Ev.step (f := fun K => (WB.duffelref29_part.f K (X.getD i []) (Y.getD i [])).bind fun t => if t = true then WB.duffelref29_Match.l0 K X Y ((i + 1 : Nat) : Int) else some false) (fun K => ?_) (Ev.bind hpe (Ev.congr (fun K => if_pos rfl) ih))
      show WB.duffelref29_Match.l0 (K + 1) X Y _ = _
      rw [WB.duffelref29_Match.l0]
      rw [if_pos (by omega), if_pos (by omega), if_pos (by omega), r1, r1, show wrap64 ((i : Int) + 1) = ((i + 1 : Nat) : Int) from by unfold wrap64; omega]
    | false =>
      rw [hb] at hpe
      rw [eqParts_false c hb]
      refine Ev.step (f := fun K => (WB.duffelref29_part.f K (X.getD i []) (Y.getD i [])).bind fun t => if t = true then WB.duffelref29_Match.l0 K X Y ((i + 1 : Nat) : Int) else some false) (fun K => ?_) (Ev.bind hpe (Ev.congr (fun K => if_neg (by decide)) (Ev.now false)))
      show WB.duffelref29_Match.l0 (K + 1) X Y _ = _
      rw [WB.duffelref29_Match.l0]
      rw [if_pos (by omega), if_pos (by omega), if_pos (by omega), r1, r1, show wrap64 ((i : Int) + 1) = ((i + 1 : Nat) : Int) from by unfold wrap64; omega]
theorem rmatch_ev (l0 l1 : List Int) (n0 : l0.length < 1000000) (n1 : l1.length < 1000000) (r0 : ∀ x ∈ l0, 0 ≤ x ∧ x ≤ 255) (r1 : ∀ x ∈ l1, 0 ≤ x ∧ x ≤ 255) : Ev (fun K => WB.duffelref29_Match.f K l0 l1) (matchB l0 l1) := by
  have g0 := good_parts l0 n0 r0
  have g1 := good_parts l1 n1 r1
  obtain ⟨m, hm⟩ := parts_pos l1
  refine Ev.congr (fun K => by unfold WB.duffelref29_Match.f; rfl) (Ev.bind (parts_ev l0 n0 r0) (Ev.bind (parts_ev l1 n1 r1) ?_))
  unfold matchB
  generalize partsL l0 = X at *
  generalize partsL l1 = Y at *
  have e1 : wrap64 (((m + 1 : Nat) : Int) - 1) = (m : Int) := by have := g1.1; unfold wrap64; omega
  by_cases c : X.length = 1
  · rw [if_pos c, hm, Nat.add_sub_cancel]
    have hp := g0.2 _ (mem_getD (X := X) (i := 0) (by omega))
    have hs := (g1.2 _ (mem_getD (show m < Y.length by omega))).1
    refine Ev.congr (fun K => ?_) (Ev.bind (rpart_ev (X.getD 0 []) (Y.getD m []) hp.1 hs hp.2) (Ev.now _))
    refine (if_pos (by omega)).trans ((if_pos (by omega)).trans ?_)
    rw [e1]
    refine (if_pos (by omega)).trans ((if_pos (by omega)).trans ?_)
    show (WB.duffelref29_part.f K (X.getD (0 : Int).toNat []) (Y.getD (m : Int).toNat [])).bind _ = _
    rw [Int.toNat_natCast]; rfl
  · rw [if_neg c]
    by_cases hn : X.length = Y.length
    · refine Ev.congr (fun K => ?_) (rmatch_l0 X Y g0 g1 hn X.length 0 (by omega) (by omega) (fun j hj => by omega))
      exact (if_neg (by omega)).trans (if_pos (by omega))
    · have e : eqParts X Y = false := by unfold eqParts; rw [decide_eq_false hn]; rfl
      rw [e]
      refine Ev.congr (fun K => ?_) (Ev.now false)
      exact (if_neg (by omega)).trans (if_neg (by omega))
end Go.Proofs.YtegfcemedkajkaaDoor.Wd
