/- folder.Parent, compare, Less, lives, walked. -/
import Derived.Test.YtbjffjbohpoedaaDoorFoldJ0
import Derived.Deep.RegionLaw
import Derived.Deep.RegionHeld3
import Derived.Lib.BytesEntry
import Derived.Lib.Bytealg
import Derived.Laws.Externs
namespace Go.Proofs.YtbjffjbohpoedaaDoor.Fd
open Go.Proofs.YtbjffjbohpoedaaDoor.Wd
open Go.RowKit Go.Proofs.YtbjffjbohpoedaaDoorW.PrintWords Go.Proofs.YtbjffjbohpoedaaDoorW.PrintLast Go.Proofs.YtbjffjbohpoedaaDoorW.PrintMore
set_option linter.unusedVariables false
set_option linter.unusedSimpArgs false
def RPost (w : World) (l : List Int) (e : Ending) (w' : World) : Prop := ∃ A c, e = .returned (.slice A l.length c) ∧ Arg w' A c l ∧ Below w.heap.size w w'
theorem Arg.none (w : World) : Arg w none 0 [] := ⟨Kd.C_of_reads (d := (0 : Int)) (h1 := fun _ => rfl) ⟨rfl, by simp, fun h => absurd h (by simp)⟩, Nat.le_refl _, by omega, fun _ => rfl, by simp, by simp⟩
theorem sum_len (N : Nat) : ∀ X : List (List Int), (∀ p ∈ X, p.length ≤ N) → (X.map List.length).sum ≤ N * X.length
  | [], _ => by simp
  | p :: r, h => by
    have h1 := h p (by simp)
    have h2 := sum_len N r (fun q hq => h q (by simp [hq]))
    simp only [List.map_cons, List.sum_cons, List.length_cons, Nat.mul_succ]
    omega
set_option maxHeartbeats 1000000 in
theorem join_any (b c : Nat) (b2 : Nat) (X : List (List Int)) (w : World) (h : Kd.C (Kd.slice 5 (Kd.int .u8)) w (some ⟨b, 0, none⟩) X.length X) (hc : X.length ≤ c) (h0 : 0 < X.length) (hx : X.length ≤ 1000) (hne : ∀ p ∈ X, p ≠ []) (hp : ∀ p ∈ X, p.length ≤ 1000)
    (hr : ∀ p ∈ X, ∀ x ∈ p, 0 ≤ x ∧ x ≤ 255) (hs : Kd.C (Kd.int .u8) w (some ⟨b2, 0, none⟩) 1 [47]) :
    Calls Tryd.prog 36 #[.slice (some ⟨b, 0, none⟩) X.length c, .slice (some ⟨b2, 0, none⟩) 1 1] w fun e w' => ∃ v, e = .returned v ∧ Fresh w.heap.size w' v (joinL X) ∧ Below w.heap.size w w' := by
  have hJ : ∀ x ∈ joinL X, 0 ≤ x ∧ x < 256 := by
    intro x hx
    rcases joinL_mem X x hx with rfl | ⟨p, hp, hx⟩
    · omega
    · have := hr p hp x hx; omega
  have el : ∀ j (hj : j < X.length), ∃ A c, w.cell? ⟨b, j, none⟩ = some (.slice A X[j].length c) ∧ Kd.C (Kd.int .u8) w A X[j].length X[j] := by
    intro j hj
    obtain ⟨ad, A, c, e, h1, h2, h3⟩ := FR.at_L1 h (j : Int) (by omega) (by omega)
    have e2 : FR.rd_L1 X (j : Int) = X[j] := by unfold FR.rd_L1; rw [Int.toNat_natCast, List.getD_eq_getElem?_getD, List.getElem?_eq_getElem hj]; rfl
    obtain rfl := Option.some.inj e
    rw [e2] at h1 h3
    rw [Int.toNat_natCast, add_zero] at h1
    exact ⟨A, c, h1, h3⟩
  by_cases h1 : X.length = 1
  · obtain ⟨p, rfl⟩ : ∃ p, X = [p] := List.length_eq_one_iff.1 h1
    obtain ⟨A, c1, hc1, hC⟩ := el 0 (by simp)
    have hpn := hne p (by simp)
    have hp0 : 0 < p.length := List.length_pos_iff.2 hpn
    have hh := holds_of (c := c1) hC (hr p (by simp))
    obtain ⟨ad, ead, _⟩ := (Kd.reads_of_C (d := (0 : Int)) hC).2.2 hp0
    subst ead
    obtain ⟨pp, cp, e1, e2, e3⟩ := hh
    injection e1 with e4 e5 e6
    subst e4
    have hl : (Lib.bytesOf p).length = p.length := Lib.bytesOf_length p
    refine (Tryd.bytes_Join_one b 0 c ad c1 (Lib.bytesOf p) _ w (by rw [hl]; exact hc1) (e3 ad rfl) (by omega) (by have := hp p (by simp); omega)).mono ?_
    rintro e w' ⟨v, rfl, hf, hb⟩
    refine ⟨v, rfl, fresh_of ?_ hJ, hb⟩
    rw [joinL_bytes]
    show Lib.FreshBytes _ _ _ (Lib.join [Lib.bytesOf p] [47])
    rw [Lib.join_one]
    exact hf
  · have hlens : Lib.lens (X.map Lib.bytesOf) ≤ 1000 * X.length := by
      have := sum_len 1000 X hp
      unfold Lib.lens
      rw [List.map_map, show (List.length ∘ Lib.bytesOf) = List.length from funext fun p => Lib.bytesOf_length p]
      exact this
    have hP : Lib.PartsAt w ⟨b, 0, none⟩ ((List.range X.length).map fun j => (w.cell? ⟨b, j, none⟩).getD .nilIface) (X.map Lib.bytesOf) := by
      refine ⟨by simp, fun i v hv => ?_, fun i v l hv hl => ?_⟩
      · have hi : i < X.length := by have := (List.getElem?_eq_some_iff.1 hv).1; simpa using this
        obtain ⟨A, c, h1, h2⟩ := el i hi
        rw [List.getElem?_map, List.getElem?_range hi, Option.map_some] at hv
        rw [add_zero, ← hv, h1]; rfl
      · have hi : i < X.length := by have := (List.getElem?_eq_some_iff.1 hv).1; simpa using this
        obtain ⟨A, c, h1, h2⟩ := el i hi
        rw [List.getElem?_map, List.getElem?_range hi, Option.map_some, h1] at hv
        rw [List.getElem?_map, List.getElem?_eq_getElem hi, Option.map_some] at hl
        obtain rfl := Option.some.inj hl
        obtain rfl := Option.some.inj hv
        exact holds_of h2 (hr _ (List.getElem_mem hi))
    refine (Tryd.bytes_Join_many b 0 X.length c _ (X.map Lib.bytesOf) (.slice (some ⟨b2, 0, none⟩) 1 1) [47] w (by simp) (by omega) hP hc (holds_of (p := [47]) hs (by simp)) (by omega) (by simp; omega)).mono ?_
    rintro e w' ⟨v, rfl, hf, hb⟩
    exact ⟨v, rfl, fresh_of (by rw [joinL_bytes]; exact hf) hJ, hb⟩
theorem step_append_fresh {ops : Array Oper} {o : Oper} {a : Act} {W : World} {K : Act → World → Prop} {Q : Exit → Act → World → Prop} {E : Prop} (hg : o.guard = Option.none) (s x : Operand)
    (ho : o.op = .call { callee := .builtin .append, args := #[s, x], argTypes := #[22, 22] }) (B : Nat) (v : Value) (l : List Int) (y : Int) (hs : a.eval s = v) (ad : Addr) (hx : a.eval x = .slice (some ad) 1 1)
    (h : Fresh B W v l) (hl : l.length ≤ 1000000) (hB : B ≤ W.heap.size) (hc : W.cell? ad = some (.int .u8 y)) (hK : ∀ v' w', Fresh B w' v' (l ++ [y]) → Below B W w' → K (a.put o.dst v') w') :
    if Region.wanted o (yielded ops a.tmps) = true then Oper.wp Tryd.prog o a W K Q else E := by
  have hw : Region.wanted o (yielded ops a.tmps) = true := by simp [Region.wanted, hg]
  rw [if_pos hw]
  obtain ⟨v2, w2, hrun, h1, h2⟩ := append_fresh y o.type h hl hB ad hc
  unfold Oper.wp
  simp [execOp, ho, resolve, invoke, builtin, hs, hx, hrun, Result.andThen]
  exact hK v2 w2 h1 h2
def parentL (L : List Int) : List Int := if (partsF L).length < 2 then [] else joinL (partsF L).dropLast ++ [47]
theorem rows_take (A : Option Addr) (c n : Nat) (hn : n ≤ c) (hn63 : n ≤ 9223372036854775807) (hc0 : n = 0 ∨ 0 < c) : ∀ (m : Nat) (W : World), m = n + 1 → m ≤ c → (Instr.slice 35 (.slice A m c) Option.none (some (.int .i64 (n : Int))) Option.none).run Tryd.prog W = .ok (.slice A n c) W := by
  intro m W hm hmc
  subst hm
  obtain ⟨i0, hi0, hz0⟩ := Option.map_eq_some_iff.1 infoB
  simp only [Prod.mk.injEq] at hz0
  have hel : Tryd.prog.elem 35 = 22 := by kernel_rfl
  have hu : Tryd.prog.underlying 35 = some (.slice (Tryd.prog.elem 35)) := by rw [hel]; exact Tryd.underlying35
  have hsz : (sizeOf (Tryd.prog.elem 35)).run Tryd.prog W = .ok 1 W := by rw [hel]; simp [sizeOf, typeInfo, hi0, hz0.2.1]
  have h2 := run_slice_h (P := Tryd.prog) (t := 35) (w := W) (a := A) (len := n + 1) (cap := c) hu .i64 (n : Int) (by omega) (by omega)
  rw [h2, hsz]
  simp only [Result.andThen_ok, sliced, Int.toNat_natCast, Nat.mul_one]
  rw [if_neg (by omega)]
  cases A with
  | none => simp
  | some ad =>
    have e : ad.add 0 = ad := by unfold Addr.add; split <;> simp_all
    simp [e]
theorem cell_lit (W : World) (y : Int) : (W.alloc (.cells #[.int .u8 y] 5)).cell? ⟨W.heap.size, 0, Option.none⟩ = some (.int .u8 y) := by
  rw [cell_of_row _ _ 0 _ _ _ (heap_alloc_new W _)]; rfl
theorem parts_facts (L : List Int) (hl : L.length ≤ 900) (hr : ∀ x ∈ L, 0 ≤ x ∧ x ≤ 255) : (partsF L).length ≤ 901 ∧ (∀ p ∈ partsF L, p ≠ []) ∧ (∀ p ∈ partsF L, p.length ≤ 900) ∧ (∀ p ∈ partsF L, ∀ x ∈ p, 0 ≤ x ∧ x ≤ 255) := by
  unfold partsF
  by_cases h : isB L = true
  · rw [if_pos h]
    refine ⟨by have := pieces_len L; omega, fun p hp e => ?_, fun p hp => ?_, pieces_rng L hr⟩
    · unfold isB at h
      rw [Bool.and_eq_true] at h
      have h2 := h.2
      rw [List.any_eq_true.2 ⟨p, hp, decide_eq_true (.inl e)⟩] at h2
      exact absurd h2 (by decide)
    · have := splitL_each (cutEnd L) p hp
      have := cutEnd_len L
      omega
  · rw [if_neg h]; simp
theorem parent_rng (L : List Int) (hl : L.length ≤ 900) (hr : ∀ x ∈ L, 0 ≤ x ∧ x ≤ 255) : ∀ x ∈ parentL L, 0 ≤ x ∧ x ≤ 255 := by
  intro x hx
  unfold parentL at hx
  split at hx
  · cases hx
  · rcases List.mem_append.1 hx with hx | hx
    · rcases joinL_mem _ x hx with rfl | ⟨p, hp, hx⟩
      · omega
      · exact (parts_facts L hl hr).2.2.2 p (List.dropLast_subset _ hp) x hx
    · rw [List.mem_singleton.1 hx]; omega
theorem joinL_len (X : List (List Int)) : (joinL X).length ≤ (X.map List.length).sum + X.length := by
  cases X with
  | nil => simp [joinL]
  | cons p r => unfold joinL; rw [List.length_append, joinT_len]; simp; omega
theorem splitL_sum (l : List Int) : ((splitL l).map List.length).sum ≤ l.length := by
  induction l with
  | nil => simp [splitL]
  | cons x xs ih =>
    unfold splitL
    split
    · simp; omega
    · split
      · rename_i q qs hs; rw [hs] at ih; simp at ih ⊢; omega
      · simp
theorem parent_len (L : List Int) : (parentL L).length ≤ 2 * L.length + 3 := by
  unfold parentL
  split
  · simp
  · have h1 := joinL_len (partsF L).dropLast
    have h2 : ((partsF L).dropLast.map List.length).sum ≤ ((partsF L).map List.length).sum := by
      rw [List.dropLast_eq_take]
      have e := List.take_append_drop ((partsF L).length - 1) (partsF L)
      conv => rhs; rw [← e, List.map_append, List.sum_append]
      omega
    have h3 : ((partsF L).map List.length).sum ≤ L.length := by
      unfold partsF
      split
      · have := splitL_sum (cutEnd L); have := cutEnd_len L; unfold piecesL; omega
      · simp
    have h4 : (partsF L).length ≤ L.length + 1 := by
      unfold partsF
      split
      · exact pieces_len L
      · simp
    have h5 : (partsF L).dropLast.length ≤ (partsF L).length := by rw [List.length_dropLast]; omega
    rw [List.length_append]
    simp
    omega
theorem cell_kept {W W' : World} {k : Nat} {v : Value} (h : W.cell? ⟨k, 0, Option.none⟩ = some v) (hb : Below W.heap.size W W') : W'.cell? ⟨k, 0, Option.none⟩ = some v := (hb.cell (p := ⟨k, 0, Option.none⟩) (World.block_lt_of_cell? W _ h)).trans h
theorem fresh_lower {B B' : Nat} {w : World} {v : Value} {l : List Int} (h : Fresh B w v l) (hb : B' ≤ B) : Fresh B' w v l := by
  obtain ⟨g, cap, e, h1, h2⟩ := h
  exact ⟨g, cap, e, Nat.le_trans hb h1, h2⟩
theorem own_some {w : World} {base n : Nat} {v : Value} {X : List (List Int)} (h : Kd.R (Kd.slice 5 (Kd.int .u8)) 22 w base (fun _ => True) v X) (hn : X.length = n) (h0 : 0 < n) : ∃ g c, v = .slice (some ⟨g, 0, Option.none⟩) n c ∧ n ≤ c ∧ g < w.heap.size ∧ Kd.C (Kd.slice 5 (Kd.int .u8)) w (some ⟨g, 0, Option.none⟩) X.length X := by
  obtain ⟨A, c, rfl, hc, hC⟩ := Kd.R_reads h
  obtain ⟨ad, e, _⟩ := hC.2.2 (by omega)
  subst e
  obtain ⟨g, rfl⟩ := Kd.R_head h
  obtain ⟨_, inner, ho, _⟩ := h
  exact ⟨g, c, by rw [hn], by omega, (own_lt ho g rfl), hC⟩
set_option maxHeartbeats 8000000 in
set_option maxRecDepth 100000 in
theorem parent_any (A : Option Addr) (c : Nat) (L : List Int) (w : World) (h : Arg w A c L) (hl : L.length ≤ 900) : Calls Tryd.prog 12 #[.slice A L.length c] w (RPost w (parentL L)) := by
  have PA := Aside0.mk (parts_any A c L w h)
  have PF := Aside0.mk (parts_facts L hl h.rng)
  have PR := Aside0.mk (parent_rng L hl h.rng)
  have PL := Aside0.mk (parent_len L)
  have HL := Aside0.mk hl
  have SL := Aside0.mk slash_any
  clear h hl
  obtain ⟨X, hX⟩ : ∃ X, partsF L = X := ⟨_, rfl⟩
  have EP : Aside0 (parentL L = if X.length < 2 then [] else joinL X.dropLast ++ [47]) := ⟨by unfold parentL; rw [hX]⟩
  rw [hX] at PA PF
  clear hX
  by_cases h2 : X.length < 2
  · rw [if_pos h2] at EP
    have d1 : decide ((X.length : Int) < 2) = true := decide_eq_true (by omega)
    clear h2 PF
    go_enter Tryd.func12, Tryd.ntmps12
    go_wp2_with (go_at_call 21; (with_reducible refine PA.out.mono ?_); rintro e w1 ⟨v, rfl, hR, hb⟩; obtain ⟨A1, c1, rfl⟩ := Kd.R_slice hR; have B1 := Aside0.mk hb; clear hb hR)
    go_ret
    exact ⟨Option.none, 0, by rw [EP.out]; rfl, by rw [EP.out]; exact Arg.none _, B1.out⟩
  · rw [if_neg h2] at EP
    obtain ⟨n, hn⟩ : ∃ n, X.length = n + 1 := ⟨X.length - 1, by omega⟩
    have d1 : decide ((X.length : Int) < 2) = false := decide_eq_false (by omega)
    have d2 : decide ((n : Int) + 1 < 2) = false := decide_eq_false (by omega)
    have hsub : IntKind.i64.wrap (((n + 1 : Nat) : Int) - 1) = (n : Int) := by rw [IntKind.wrap_i64]; have := PF.out.1; omega
    have hw64 : wrap64 (n : Int) = (n : Int) := w_in _ (by omega) (by have := PF.out.1; omega)
    have hwi : IntKind.i64.wrap (n : Int) = (n : Int) := by rw [IntKind.wrap_i64]; have := PF.out.1; omega
    have hdl : X.dropLast.length = n := by rw [List.length_dropLast]; omega
    have N1 : Aside0 (1 ≤ n) := ⟨by omega⟩
    have HN := Aside0.mk hn
    have HDL := Aside0.mk hdl
    have JA : Aside0 (∀ (b c b2 : Nat) (W : World), Kd.C (Kd.slice 5 (Kd.int .u8)) W (some ⟨b, 0, Option.none⟩) n X.dropLast → n ≤ c → Kd.C (Kd.int .u8) W (some ⟨b2, 0, Option.none⟩) 1 [47] →
        Calls Tryd.prog 36 #[.slice (some ⟨b, 0, Option.none⟩) n c, .slice (some ⟨b2, 0, Option.none⟩) 1 1] W fun e w' => ∃ v, e = .returned v ∧ Fresh W.heap.size w' v (joinL X.dropLast) ∧ Below W.heap.size W w') := ⟨by
      intro b c b2 W h1 h3 h4
      have pf := PF.out
      have := join_any b c b2 X.dropLast W (by rw [hdl]; exact h1) (by omega) (by omega) (by omega) (fun p hp => pf.2.1 p (List.dropLast_subset _ hp)) (fun p hp => by have := pf.2.2.1 p (List.dropLast_subset _ hp); omega) (fun p hp => pf.2.2.2 p (List.dropLast_subset _ hp)) h4
      rwa [hdl] at this⟩
    have XC : Aside0 (∀ (W : World) (A1 : Option Addr), Kd.C (Kd.slice 5 (Kd.int .u8)) W A1 X.length X → Kd.C (Kd.slice 5 (Kd.int .u8)) W A1 n X.dropLast) := ⟨by
      intro W A1 h1
      have := Kd.C_take (m := n) h1 (by omega)
      rw [List.dropLast_eq_take, show X.length - 1 = n by omega]
      have e : (X.take n).length = n := by rw [List.length_take]; omega
      rwa [e] at this⟩
    clear h2 hdl
    have LJ : Aside0 ((joinL X.dropLast).length ≤ 1000000) := ⟨by have := PL.out; rw [EP.out, List.length_append] at this; have := HL.out; omega⟩
    have RT := Aside0.mk (fun g c1 (hc : n + 1 ≤ c1) W => rows_take (some ⟨g, 0, Option.none⟩) c1 n (by omega) (by have := PF.out.1; omega) (.inr (by omega)) (n + 1) W rfl hc)
    clear hn
    go_enter Tryd.func12, Tryd.ntmps12
    go_wp2_with (go_at_call 21; (with_reducible refine PA.out.mono ?_); rintro e w1 ⟨v, rfl, hR, hb⟩; obtain ⟨g, c1, rfl, hc1, hg, hC⟩ := own_some hR HN.out (by omega); have HC := Aside0.mk (XC.out _ _ hC); have HC1 := Aside0.mk hc1; have q1 : (n : Int) ≤ (c1 : Int) := (by omega); have B1 := Aside0.mk hb; clear hb hR hg hC hc1)
    go_region_law (first
      | (go_simp; go_at_call 37; (with_reducible refine (SL.out _).mono ?_); rintro e w2 ⟨b2, rfl, hc, hS, hb⟩; have HS := Aside0.mk hS; have B2 : Aside0 (Below w.heap.size w w2) := ⟨below_step (by repeat (first | exact B1.out | apply below_drew | apply below_alloc)) hb⟩; have HC2 : Aside0 (Kd.C (Kd.slice 5 (Kd.int .u8)) w2 (some ⟨g, 0, Option.none⟩) n X.dropLast) := ⟨Kd.C_below (by repeat (first | exact HC.out | apply Kd.C_alloc | apply Kd.C_drew)) hb⟩; (try have HT := Aside0.mk (cell_kept (cell_lit w1.drew 47) hb)); clear hc hS hb)
      | (go_simp; go_at_call 36; (with_reducible refine (JA.out g c1 b2 _ (by repeat (first | exact HC2.out | apply Kd.C_alloc | apply Kd.C_drew)) (by have := HC1.out; omega) (by repeat (first | exact HS.out | apply Kd.C_alloc | apply Kd.C_drew))).mono ?_); rintro e w3 ⟨v3, rfl, hF, hb⟩; have HF : Aside0 (Fresh w2.heap.size w3 v3 (joinL X.dropLast)) := ⟨fresh_lower hF (by first | exact Nat.le_refl _ | exact (below_alloc (Below.refl _ _) _).size)⟩; have HB3 : Aside0 (w2.heap.size ≤ w3.heap.size) := ⟨Nat.le_trans (by first | exact Nat.le_refl _ | exact (below_alloc (Below.refl _ _) _).size) hb.size⟩; have B3 : Aside0 (Below w.heap.size w w3) := ⟨below_step (by repeat (first | exact B2.out | apply below_drew | apply below_alloc)) hb⟩; (first | (have HT := Aside0.mk (cell_kept HT.out hb)) | (have HT := Aside0.mk (cell_kept (cell_lit w2 47) hb)) | skip); clear hF hb)
      | (refine step_append_fresh rfl (.tmp 15) (.tmp 16) rfl w2.heap.size v3 (joinL X.dropLast) 47 rfl _ rfl (by first | exact HF.out | exact (HF.out.below (below_alloc (Below.refl _ _) _))) LJ.out (by first | exact HB3.out | exact (Nat.le_trans HB3.out (below_alloc (Below.refl _ _) _).size)) (by first | exact cell_lit w3 47 | exact HT.out) ?_; intro v5 w5 hF5 hb5; have HF5 := Aside0.mk hF5; have B5 : Aside0 (Below w.heap.size w w5) := ⟨Below.trans (by repeat (first | exact B3.out | apply below_drew | apply below_alloc)) (hb5.mono B2.out.size)⟩; clear hF5 hb5)
      | fail)
    all_goals
      obtain ⟨A5, c5, rfl, hA5⟩ := HF5.out.arg (by rw [← EP.out]; exact PR.out) (by rw [← EP.out]; have := PL.out; have := HL.out; omega)
      have HA5 := Aside0.mk hA5
      clear hA5
      go_wp2
      go_ret
      exact ⟨A5, c5, by rw [EP.out]; rfl, by rw [EP.out]; exact HA5.out, B5.out⟩
end Go.Proofs.YtbjffjbohpoedaaDoor.Fd
