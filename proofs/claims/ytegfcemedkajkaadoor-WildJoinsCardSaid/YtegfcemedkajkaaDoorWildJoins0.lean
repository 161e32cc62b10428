/- WildJoins, walked: two patterns, one behind the other. -/
import Derived.Test.YtegfcemedkajkaaDoorPureWild0
import Derived.Test.YtegfcemedkajkaaDoorWCx3
import Derived.Deep.LoopGhost
import Derived.Deep.DeepCutAuto
import Derived.Deep.CutBlock
namespace Go.Proofs.YtegfcemedkajkaaDoor.Wd
open Go.RowKit Go.Proofs.YtegfcemedkajkaaDoor.MyCut Go.Proofs.YtegfcemedkajkaaDoor.WC Go.Proofs.YtegfcemedkajkaaDoor.Pure Go.Proofs.YtegfcemedkajkaaDoorW.PrintWords Go.Proofs.YtegfcemedkajkaaDoorW.PrintLast Go.Proofs.YtegfcemedkajkaaDoorW.PrintMore
set_option linter.unusedVariables false
set_option linter.unusedSimpArgs false
def TPost (w : World) (e : Ending) (w' : World) : Prop := e = .returned (.bool true) ∧ Below w.heap.size w w'
/-- a row literal of four slices -/
theorem C_four (W : World) (b : Nat) (hb : W.heap.size = b) (A0 A1 A2 A3 : Option Addr) (c0 c1 c2 c3 : Nat) (p q s t : List Int) (h0 : Kd.C (Kd.int .u8) W A0 p.length p) (k0 : p.length ≤ c0) (h1 : Kd.C (Kd.int .u8) W A1 q.length q) (k1 : q.length ≤ c1)
    (h2 : Kd.C (Kd.int .u8) W A2 s.length s) (k2 : s.length ≤ c2) (h3 : Kd.C (Kd.int .u8) W A3 t.length t) (k3 : t.length ≤ c3) :
    RowAt (W.alloc (.cells #[.slice A0 p.length c0, .slice A1 q.length c1, .slice A2 s.length c2, .slice A3 t.length c3] 22)) (some ⟨b, 0, none⟩) [p, q, s, t] := by
  subst hb
  refine ⟨rfl, by simp, fun _ => ⟨_, rfl, fun j x hj => ?_⟩⟩
  have cell : ∀ i u, (#[Value.slice A0 p.length c0, .slice A1 q.length c1, .slice A2 s.length c2, .slice A3 t.length c3] : Array Value)[i]? = some u → (W.alloc (.cells #[.slice A0 p.length c0, .slice A1 q.length c1, .slice A2 s.length c2, .slice A3 t.length c3] 22)).cell? ((⟨W.heap.size, 0, none⟩ : Addr).add i) = some u := by
    intro i u hu
    have e : (⟨W.heap.size, 0, none⟩ : Addr).add i = ⟨W.heap.size, i, none⟩ := by unfold Addr.add; split <;> simp_all
    rw [e, MyWords.cell_new]
    exact hu
  have one : ∀ (A : Option Addr) (c : Nat) (x : List Int), Kd.C (Kd.int .u8) W A x.length x → x.length ≤ c → (#[Value.slice A0 p.length c0, .slice A1 q.length c1, .slice A2 s.length c2, .slice A3 t.length c3] : Array Value)[j]? = some (.slice A x.length c) →
      ∃ cs : List Value, cs.length = 1 ∧ (Kd.slice 5 (Kd.int .u8)).K (W.alloc (.cells #[.slice A0 p.length c0, .slice A1 q.length c1, .slice A2 s.length c2, .slice A3 t.length c3] 22)) x cs ∧
        ∀ i u, cs[i]? = some u → (W.alloc (.cells #[.slice A0 p.length c0, .slice A1 q.length c1, .slice A2 s.length c2, .slice A3 t.length c3] 22)).cell? ((⟨W.heap.size, 0, none⟩ : Addr).add (j * 1 + i)) = some u := by
    intro A c x h k e
    refine ⟨[.slice A x.length c], rfl, ⟨A, c, rfl, k, Kd.C_alloc h _⟩, fun i u hu => ?_⟩
    cases i with
    | zero => rw [Nat.mul_one, Nat.add_zero]; exact (cell j _ e).trans (by simpa using hu)
    | succ i => simp at hu
  match j, hj with
  | 0, hj => obtain rfl : p = x := by simpa using hj
             exact one A0 c0 p h0 k0 rfl
  | 1, hj => obtain rfl : q = x := by simpa using hj
             exact one A1 c1 q h1 k1 rfl
  | 2, hj => obtain rfl : s = x := by simpa using hj
             exact one A2 c2 s h2 k2 rfl
  | 3, hj => obtain rfl : t = x := by simpa using hj
             exact one A3 c3 t h3 k3 rfl
  | j + 4, hj => simp at hj
set_option maxHeartbeats 4000000 in
theorem copy_mine (A : Option Addr) (c : Nat) (b : List Int) (w : World) (hb : Kd.C (Kd.int .u8) w A b.length b) (hl : b.length ≤ 1000000000) : Calls Tryd.prog 17 #[.slice A b.length c] w (Mine w b) := by
  have h1 := Aside0.mk (Kd.reads_of_C (d := (0 : Int)) hb)
  have h2 := Aside0.mk hl
  clear hb hl
  go_enter Tryd.func17, Tryd.ntmps17
  go_wp2_with (at_builtin; refine print_append_row (w0 := w) w.heap.size rfl (.tmp 4) (.tmp 5) 22 5 .u8 1 rfl Tryd.underlying22 infoE (by decide) _ [] b A b.length c rfl rfl (own_nil _ _ _ _) h1.out (Below.refl _ _) (Nat.le_refl _) (by have := h2.out; simp; omega) ?_; intro v2 w1 hown hbel hgr hat; have OW := Aside0.mk hown; have BE := Aside0.mk hbel; clear hown hbel hgr hat)
  go_ret
  exact ⟨_, rfl, OW.out, BE.out⟩
def okB (x : Int) : Bool := decide (x ≠ 47 ∧ x ≠ 92)
def cleanL (l : List Int) : Prop := ∀ j, j < l.length → l.getD j 0 ≠ 47 ∧ l.getD j 0 ≠ 92
set_option maxHeartbeats 16000000 in
set_option maxRecDepth 100000 in
theorem joins_calls (A0 : Option Addr) (c0 : Nat) (l0 : List Int) (A1 : Option Addr) (c1 : Nat) (l1 : List Int) (A2 : Option Addr) (c2 : Nat) (l2 : List Int) (A3 : Option Addr) (c3 : Nat) (l3 : List Int) (w : World)
    (h0 : Kd.C (Kd.int .u8) w A0 l0.length l0) (k0 : l0.length ≤ c0) (h1 : Kd.C (Kd.int .u8) w A1 l1.length l1) (k1 : l1.length ≤ c1) (h2 : Kd.C (Kd.int .u8) w A2 l2.length l2) (k2 : l2.length ≤ c2) (h3 : Kd.C (Kd.int .u8) w A3 l3.length l3) (k3 : l3.length ≤ c3)
    (p q s t : List Int) (e0 : MyCut.cut_u8.f l0 20 = some p) (e1 : MyCut.cut_u8.f l1 20 = some q) (e2 : MyCut.cut_u8.f l2 40 = some s) (e3 : MyCut.cut_u8.f l3 40 = some t) (f0 : Fine p) (f1 : Fine q) (f2 : Fine s) (f3 : Fine t)
    (hsm : p.length + q.length < 1000000 ∧ s.length + t.length < 1000000)
    (hjoin : cleanL p → cleanL q → cleanL s → cleanL t → ¬ (strOfNums p).toList = ([42, 46, 42] : List UInt8) → ¬ (strOfNums q).toList = ([42, 46, 42] : List UInt8) → matchB p s = true → matchB q t = true → matchB (p ++ q) (s ++ t) = true)
    (hfew : ∃ k, duffelref29_Few.f k [p, q, s, t] 4 40 = some [p, q, s, t]) : Calls Tryd.prog 5 #[.slice A0 l0.length c0, .slice A1 l1.length c1, .slice A2 l2.length c2, .slice A3 l3.length c3] w (TPost w) := by
  obtain ⟨kf, hfew⟩ := hfew
  have p0 := Aside0.mk (MyCut.C_cut_u8 h0 e0)
  have p1 := Aside0.mk (MyCut.C_cut_u8 h1 e1)
  have p2 := Aside0.mk (MyCut.C_cut_u8 h2 e2)
  have p3 := Aside0.mk (MyCut.C_cut_u8 h3 e3)
  have q0 := Aside0.mk (MyCut.le_cut_u8 k0 e0)
  have q1 := Aside0.mk (MyCut.le_cut_u8 k1 e1)
  have q2 := Aside0.mk (MyCut.le_cut_u8 k2 e2)
  have q3 := Aside0.mk (MyCut.le_cut_u8 k3 e3)
  have C0 := Aside0.mk (fun W : World => MyCut.cut_u8.calls A0 c0 l0 20 p W k0 e0)
  have C1 := Aside0.mk (fun W : World => MyCut.cut_u8.calls A1 c1 l1 20 q W k1 e1)
  have C2 := Aside0.mk (fun W : World => MyCut.cut_u8.calls A2 c2 l2 40 s W k2 e2)
  have C3 := Aside0.mk (fun W : World => MyCut.cut_u8.calls A3 c3 l3 40 t W k3 e3)
  have FW := Aside0.mk (duffelref29_Few.calls kf _ 4 [p, q, s, t] 4 40 [p, q, s, t] _ (C_four w _ rfl A0 A1 A2 A3 c0 c1 c2 c3 p q s t p0.out q0.out p1.out q1.out p2.out q2.out p3.out q3.out) (by simp) hfew)
  have F0 := Aside0.mk f0
  have F1 := Aside0.mk f1
  have F2 := Aside0.mk f2
  have F3 := Aside0.mk f3
  clear h0 h1 h2 h3 k0 k1 k2 k3 e0 e1 e2 e3 hfew f0 f1 f2 f3
  go_enter Tryd.func5, Tryd.ntmps5
  go_wp2_with (first
    | (go_at_call 9; (with_reducible refine (C0.out _).mono ?_); rintro e w' ⟨rfl, hs⟩; subst hs)
    | (go_at_call 9; (with_reducible refine (C1.out _).mono ?_); rintro e w' ⟨rfl, hs⟩; subst hs)
    | (go_at_call 9; (with_reducible refine (C2.out _).mono ?_); rintro e w' ⟨rfl, hs⟩; subst hs)
    | (go_at_call 9; (with_reducible refine (C3.out _).mono ?_); rintro e w' ⟨rfl, hs⟩; subst hs)
    | (go_at_call 16; refine FW.out.mono ?_; rintro e w1 ⟨v, rfl, hS, hb⟩; obtain ⟨A, c, hv, hc, hR⟩ := Kd.S_reads hS; subst hv; have HB := Aside0.mk (below_step (below_alloc (Below.refl _ _) _) hb); have HR := Aside0.mk hR; clear hS hb hR hc))
  have LV := Aside0.mk (fun W : World => lives_any W)
  clear C0 C1 C2 C3 FW
  obtain ⟨X, hX⟩ : ∃ X : List (List Int), X = [p, q, s, t] := ⟨_, rfl⟩
  have HRX : Aside0 (RowAt w1 A X ∧ X.length = 4 ∧ ∀ i, i < 4 → (X.getD i []).length < 1000000) := ⟨by
    subst hX
    refine ⟨HR.out, rfl, fun i hi => ?_⟩
    match i, hi with
    | 0, _ => exact F0.out.1
    | 1, _ => exact F1.out.1
    | 2, _ => exact F2.out.1
    | 3, _ => exact F3.out.1⟩
  have HX := Aside0.mk hX
  clear HR hX
  go_loop [10] (fun v10 => ∃ i : Nat, v10 = .int .i64 (i : Int) ∧ Aside0 (i ≤ 4) ∧ Aside0 (∀ m, m < i → cleanL (X.getD m []))) (fun v10 => 4 - (intOf v10).toNat)
  case atStart => exact ⟨0, rfl, ⟨by omega⟩, ⟨fun m hm => by omega⟩⟩
  case round =>
    obtain ⟨i, rfl, HI, HA⟩ := hrel
    by_cases ci : i < 4
    · have g1 : decide ((i : Int) < 4) = true := decide_eq_true (by omega)
      have g2 : (i : Int) < 4 := by omega
      have g3 := wr_inc i (by omega)
      obtain ⟨ad, A', c', rfl, hcell, hle, hC⟩ := HRX.out.1.at_ i (by rw [HRX.out.2.1]; exact ci)
      have hlen := HRX.out.2.2 i ci
      have HCI := Aside0.mk ci
      have HC := Aside0.mk hC
      have HL := Aside0.mk hlen
      clear ci hC hlen hle
      generalize hx : X.getD i [] = x at *
      have Hx := Aside0.mk hx
      clear hx
      go_wp2
      go_loop [11] (fun v11 => ∃ k : Nat, v11 = .int .i64 (k : Int) ∧ Aside0 (k ≤ x.length) ∧ Aside0 (∀ j, j < k → x.getD j 0 ≠ 47 ∧ x.getD j 0 ≠ 92)) (fun v11 => x.length - (intOf v11).toNat)
      case atStart => exact ⟨0, rfl, ⟨by omega⟩, ⟨fun m hm => by omega⟩⟩
      case round =>
        obtain ⟨k, rfl, HK, HJ⟩ := hrel
        by_cases ck : k < x.length
        · have d1 : decide ((k : Int) < (x.length : Int)) = true := decide_eq_true (by omega)
          have d2 : (k : Int) < (x.length : Int) := by omega
          have d3 := wr_inc k (by have := HL.out; omega)
          obtain ⟨ad2, hA2, hc2⟩ := Kd.at_int HC.out (k : Int) (by omega) (by omega)
          cases hA2
          rw [rd_nat, Int.toNat_natCast] at hc2
          have HCK := Aside0.mk ck
          generalize hy : x.getD k 0 = y at *
          have Hy := Aside0.mk hy
          clear hy
          by_cases y1 : y = 47
          · have b1 : (y == 47) = true := beq_iff_eq.mpr y1
            clear y1
            go_wp2_with (go_at_call 12; (with_reducible refine (LV.out _).mono ?_); rintro e w2 ⟨rfl, hb⟩; have HB2 := Aside0.mk (below_step HB.out hb); clear hb)
            go_ret
            exact ⟨rfl, HB2.out⟩
          · have b1 : (y == 47) = false := beq_eq_false_iff_ne.mpr y1
            by_cases y2 : y = 92
            · have b2 : (y == 92) = true := beq_iff_eq.mpr y2
              clear y1 y2
              go_wp2_with (go_at_call 12; (with_reducible refine (LV.out _).mono ?_); rintro e w2 ⟨rfl, hb⟩; have HB2 := Aside0.mk (below_step HB.out hb); clear hb)
              go_ret
              exact ⟨rfl, HB2.out⟩
            · have b2 : (y == 92) = false := beq_eq_false_iff_ne.mpr y2
              have HY := Aside0.mk (And.intro y1 y2)
              clear y1 y2
              go_wp2
              go_round
              case rel =>
                refine ⟨k + 1, by go_num, ⟨HCK.out⟩, ⟨fun j hj => ?_⟩⟩
                by_cases e : j = k
                · subst e; rw [Hy.out]; exact HY.out
                · exact HJ.out j (by omega)
              case measure => have := HCK.out; simp [intOf]; omega
        · have d1 : decide ((k : Int) < (x.length : Int)) = false := decide_eq_false (by omega)
          have HCK := Aside0.mk ck
          go_wp2
          go_round
          case rel =>
            refine ⟨i + 1, by go_num, ⟨by have := HCI.out; omega⟩, ⟨fun m hm => ?_⟩⟩
            by_cases e : m = i
            · subst e; rw [Hx.out]; exact fun j hj => HJ.out j (by have := HCK.out; omega)
            · exact HA.out m (by omega)
          case measure => have := HCI.out; simp [intOf]; omega
    · have g1 : decide ((i : Int) < 4) = false := decide_eq_false (by omega)
      have cl : ∀ m, m < 4 → cleanL (X.getD m []) := fun m hm => HA.out m (by have := HI.out; omega)
      rw [HX.out] at cl
      have c0' : cleanL p := cl 0 (by omega)
      have c1' : cleanL q := cl 1 (by omega)
      have c2' : cleanL s := cl 2 (by omega)
      have c3' : cleanL t := cl 3 (by omega)
      have JM := Aside0.mk (hjoin c0' c1' c2' c3')
      have v0 := Kd.C_string (P := Tryd.prog) (A := A0) (c := c0) Tryd.underlying22 Tryd.underlying5 Tryd.underlying9 (Kd.C_below p0.out HB.out)
      have v1 := Kd.C_string (P := Tryd.prog) (A := A1) (c := c1) Tryd.underlying22 Tryd.underlying5 Tryd.underlying9 (Kd.C_below p1.out HB.out)
      clear cl c0' c1' c2' c3' HA HI ci
      by_cases ep : (strOfNums p).toList = ([42, 46, 42] : List UInt8)
      · have x1 : ((strOfNums p).toList == ([42, 46, 42] : List UInt8)) = true := beq_iff_eq.mpr ep
        clear ep
        go_wp2_with (go_at_call 12; (with_reducible refine (LV.out _).mono ?_); rintro e w2 ⟨rfl, hb⟩; have HB2 := Aside0.mk (below_step HB.out hb); clear hb)
        go_ret
        exact ⟨rfl, HB2.out⟩
      have x1 : ((strOfNums p).toList == ([42, 46, 42] : List UInt8)) = false := beq_eq_false_iff_ne.mpr ep
      have EP := Aside0.mk ep
      clear ep
      by_cases eq : (strOfNums q).toList = ([42, 46, 42] : List UInt8)
      · have x2 : ((strOfNums q).toList == ([42, 46, 42] : List UInt8)) = true := beq_iff_eq.mpr eq
        clear eq
        go_wp2_with (go_at_call 12; (with_reducible refine (LV.out _).mono ?_); rintro e w2 ⟨rfl, hb⟩; have HB2 := Aside0.mk (below_step HB.out hb); clear hb)
        go_ret
        exact ⟨rfl, HB2.out⟩
      have x2 : ((strOfNums q).toList == ([42, 46, 42] : List UInt8)) = false := beq_eq_false_iff_ne.mpr eq
      have EQ := Aside0.mk eq
      clear eq
      have M1 := Aside0.mk (match_calls A0 c0 p A2 c2 s w1 (Kd.C_below p0.out HB.out) (Kd.C_below p2.out HB.out) F0.out F2.out)
      have M2 := Aside0.mk (fun (W : World) (hW : Below w.heap.size w W) => match_calls A1 c1 q A3 c3 t W (Kd.C_below p1.out hW) (Kd.C_below p3.out hW) F1.out F3.out)
      cases m1 : matchB p s with
      | false =>
        rw [m1] at M1
        clear m1
        go_wp2_with (first
          | (go_at_call 10; (with_reducible refine (M1.out).mono ?_); rintro e w2 ⟨rfl, hb⟩; have HB2 := Aside0.mk (below_step HB.out hb); clear hb)
          | (go_at_call 12; (with_reducible refine (LV.out _).mono ?_); rintro e w3 ⟨rfl, hb⟩; have HB3 := Aside0.mk (below_step HB2.out hb); clear hb))
        go_ret
        exact ⟨rfl, HB3.out⟩
      | true =>
        rw [m1] at M1
        have N1 := Aside0.mk m1
        clear m1
        cases m2 : matchB q t with
        | false =>
          rw [m2] at M2
          clear m2
          go_wp2_with (first
            | (go_at_call 10; (with_reducible refine (M1.out).mono ?_); rintro e w2 ⟨rfl, hb⟩; have HB2 := Aside0.mk (below_step HB.out hb); clear hb M1)
            | (go_at_call 10; (with_reducible refine (M2.out _ HB2.out).mono ?_); rintro e w3 ⟨rfl, hb⟩; have HB3 := Aside0.mk (below_step HB2.out hb); clear hb)
            | (go_at_call 12; (with_reducible refine (LV.out _).mono ?_); rintro e w4 ⟨rfl, hb⟩; have HB4 := Aside0.mk (below_step HB3.out hb); clear hb))
          go_ret
          exact ⟨rfl, HB4.out⟩
        | true =>
          rw [m2] at M2
          have hm := JM.out EP.out EQ.out N1.out m2
          have hpq := F0.out.1
          have hq' := F1.out.1
          have hs' := F2.out.1
          have ht' := F3.out.1
          obtain ⟨pq, PQ⟩ : ∃ pq : List Int, Aside0 (pq = p ++ q) := ⟨_, ⟨rfl⟩⟩
          obtain ⟨st, ST⟩ : ∃ st : List Int, Aside0 (st = s ++ t) := ⟨_, ⟨rfl⟩⟩
          have fpq : Fine pq := by
            rw [PQ.out]; exact ⟨by rw [List.length_append]; exact hsm.1, fun x hx => (List.mem_append.mp hx).elim (F0.out.2 x) (F1.out.2 x)⟩
          have fst : Fine st := by
            rw [ST.out]; exact ⟨by rw [List.length_append]; exact hsm.2, fun x hx => (List.mem_append.mp hx).elim (F2.out.2 x) (F3.out.2 x)⟩
          rw [← PQ.out, ← ST.out] at hm
          have M3 : Aside0 (∀ (B : Option Addr) (cB : Nat) (D : Option Addr) (cD : Nat) (W : World), Kd.C (Kd.int .u8) W B pq.length pq → Kd.C (Kd.int .u8) W D st.length st → Calls Tryd.prog 10 #[.slice B pq.length cB, .slice D st.length cD] W fun e w' => e = .returned (.bool true) ∧ Below W.heap.size W w') :=
            ⟨fun B cB D cD W hB hD => by rw [← hm]; exact match_calls B cB pq D cD st W hB hD fpq fst⟩
          have K1 : Aside0 (∀ W : World, Below w.heap.size w W → Calls Tryd.prog 17 #[.slice A0 p.length c0] W (Mine W p)) := ⟨fun W hW => copy_mine A0 c0 p W (Kd.C_below p0.out hW) (by omega)⟩
          have K2 : Aside0 (∀ W : World, Below w.heap.size w W → Calls Tryd.prog 17 #[.slice A2 s.length c2] W (Mine W s)) := ⟨fun W hW => copy_mine A2 c2 s W (Kd.C_below p2.out hW) (by omega)⟩
          have L1 := Aside0.mk (show (p.length + q.length) * 1 ≤ 140737488355328 by omega)
          have L2 := Aside0.mk (show (s.length + t.length) * 1 ≤ 140737488355328 by omega)
          clear m2 hpq hq' hs' ht' hm fpq fst
          go_wp2_with (first
            | (go_at_call 10; (with_reducible refine (M1.out).mono ?_); rintro e w2 ⟨rfl, hb⟩; have HB2 := Aside0.mk (below_step HB.out hb); clear hb M1)
            | (go_at_call 10; (with_reducible refine (M2.out _ HB2.out).mono ?_); rintro e w3 ⟨rfl, hb⟩; have HB3 := Aside0.mk (below_step HB2.out hb); clear hb M2)
            | (go_at_call 17; (with_reducible refine (K1.out _ HB3.out).mono ?_); rintro e w4 ⟨v4, rfl, ho4, hb4⟩; obtain ⟨B4, c4, rfl⟩ := own_slice ho4; have O4 := Aside0.mk ho4; have B34 := Aside0.mk hb4; clear ho4 hb4 K1)
            | (at_builtin; refine print_append_row (w0 := w3) w3.heap.size rfl (.tmp 80) (.tmp 81) 22 5 .u8 1 rfl Tryd.underlying22 infoE (by decide) _ p q A1 q.length c1 rfl rfl O4.out (Kd.reads_of_C (d := (0 : Int)) (Kd.C_below p1.out (below_step HB3.out B34.out))) B34.out B34.out.size L1.out ?_; intro v5 w5 ho5 hb5 hgr hat; rw [← PQ.out] at ho5; obtain ⟨B5, c5, rfl⟩ := own_slice ho5; have C5 := Aside0.mk (own_C ho5).2.1; have HB5 := Aside0.mk (below_step HB3.out hb5); clear ho5 hb5 hgr hat)
            | (go_at_call 17; (with_reducible refine (K2.out _ HB5.out).mono ?_); rintro e w6 ⟨v6, rfl, ho6, hb6⟩; obtain ⟨B6, c6, rfl⟩ := own_slice ho6; have O6 := Aside0.mk ho6; have B56 := Aside0.mk hb6; clear ho6 hb6 K2)
            | (at_builtin; refine print_append_row (w0 := w5) w5.heap.size rfl (.tmp 84) (.tmp 85) 22 5 .u8 1 rfl Tryd.underlying22 infoE (by decide) _ s t A3 t.length c3 rfl rfl O6.out (Kd.reads_of_C (d := (0 : Int)) (Kd.C_below p3.out (below_step HB5.out B56.out))) B56.out B56.out.size L2.out ?_; intro v7 w7 ho7 hb7 hgr hat; rw [← ST.out] at ho7; obtain ⟨B7, c7, rfl⟩ := own_slice ho7; have C7 := Aside0.mk (own_C ho7).2.1; have C5' := Aside0.mk (Kd.C_below C5.out hb7); have HB7 := Aside0.mk (below_step HB5.out hb7); clear ho7 hb7 hgr hat)
            | (go_at_call 10; (with_reducible refine (M3.out _ _ _ _ _ C5'.out C7.out).mono ?_); rintro e w8 ⟨rfl, hb⟩; have HB8 := Aside0.mk (below_step HB7.out hb); clear hb)
            | (go_at_call 12; (with_reducible refine (LV.out _).mono ?_); rintro e w9 ⟨rfl, hb⟩; have HB9 := Aside0.mk (below_step HB8.out hb); clear hb))
          go_ret
          exact ⟨rfl, HB9.out⟩
end Go.Proofs.YtegfcemedkajkaaDoor.Wd
