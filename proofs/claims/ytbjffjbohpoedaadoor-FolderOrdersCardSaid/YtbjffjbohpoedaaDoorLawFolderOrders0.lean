/- FolderOrders, walked. -/
import Derived.Test.YtbjffjbohpoedaaDoorFoldRef0
import Derived.Test.YtbjffjbohpoedaaDoorFRx5
namespace Go.Proofs.YtbjffjbohpoedaaDoor.Fd
open Go.Proofs.YtbjffjbohpoedaaDoor.Wd
open Go.RowKit Go.Proofs.YtbjffjbohpoedaaDoorW.PrintWords Go.Proofs.YtbjffjbohpoedaaDoorW.PrintLast Go.Proofs.YtbjffjbohpoedaaDoorW.PrintMore
set_option linter.unusedVariables false
set_option linter.unusedSimpArgs false
theorem same_loop (L : List Int) (hl : L.length ≤ 1000000) : ∀ (K i : Nat), i ≤ L.length → L.length - i + 1 ≤ K → FR.duffelref01_Same.l0 K L L (i : Int) = some true
  | 0, i, _, h => by omega
  | K + 1, i, hi, hK => by
    rw [FR.duffelref01_Same.l0]
    by_cases g : i < L.length
    · have e2 : wrap64 ((i : Int) + 1) = ((i + 1 : Nat) : Int) := by rw [w_in _ (by omega) (by omega)]; omega
      rw [if_pos (by omega), if_pos (by omega), if_pos (by omega), if_pos rfl, e2]
      exact same_loop L hl K (i + 1) (by omega) (by omega)
    · rw [if_neg (by omega)]
theorem same_any (A : Option Addr) (c : Nat) (A' : Option Addr) (c' : Nat) (a b : List Int) (w : World) (e : a = b) (ha : Arg w A c a) (hb : Arg w A' c' b) :
    Calls Tryd.prog 11 #[.slice A a.length c, .slice A' b.length c'] w fun e w' => e = .returned (.bool true) ∧ Below w.heap.size w w' := by
  subst e
  have hK : FR.duffelref01_Same.f (a.length + 1) a a = some true := by
    unfold FR.duffelref01_Same.f
    rw [if_pos rfl]
    exact same_loop a (by have := ha.len; omega) _ 0 (by omega) (by omega)
  exact (FR.duffelref01_Same.calls (a.length + 1) A c a A' c' a true w ha.C ha.le hb.C hb.le hK).mono fun e w' ⟨h1, h2⟩ => ⟨h1, Drawn0.below h2⟩
theorem cut_arg {w : World} {A : Option Addr} {c : Nat} {l : List Int} (n : Nat) (hC : Kd.C (Kd.int .u8) w A l.length l) (hc : l.length ≤ c) (hk : c ≤ 9223372036854775807) (hn : A = Option.none → c = 0) (hr : ∀ x ∈ l, 0 ≤ x ∧ x ≤ 255) (h100 : n ≤ 100000) : Arg w A c (l.take n) :=
  ⟨MyCut.C_cut_u8 hC (MyCut.cut_u8.nat l n), MyCut.le_cut_u8 hc (MyCut.cut_u8.nat l n), hk, hn, fun x hx => hr x (List.mem_of_mem_take hx), by rw [List.length_take]; omega⟩
def K2 (F : FuncId) (A : Option Addr) (c : Nat) (a : List Int) (A' : Option Addr) (c' : Nat) (b : List Int) (w : World) (r : Bool) : Prop :=
  ∀ W, Below w.heap.size w W → Calls Tryd.prog F #[.slice A a.length c, .slice A' b.length c'] W fun e w' => e = .returned (.bool r) ∧ Below W.heap.size W w'
theorem K2.go {F : FuncId} {A : Option Addr} {c : Nat} {a : List Int} {A' : Option Addr} {c' : Nat} {b : List Int} {w : World} {r : Bool} (h : K2 F A c a A' c' b w r) (W : World) (hb : Below w.heap.size w W) : Calls Tryd.prog F #[.slice A a.length c, .slice A' b.length c'] W fun e w' => e = .returned (.bool r) ∧ Below W.heap.size W w' := h W hb
set_option maxHeartbeats 8000000 in
set_option maxRecDepth 100000 in
theorem orders_any (A0 : Option Addr) (c0 : Nat) (l0 : List Int) (A1 : Option Addr) (c1 : Nat) (l1 : List Int) (A2 : Option Addr) (c2 : Nat) (l2 : List Int) (w : World)
    (m0 : l0.length ≤ c0) (m1 : l1.length ≤ c1) (m2 : l2.length ≤ c2) (h0 : Arg w A0 c0 (l0.take 40)) (h1 : Arg w A1 c1 (l1.take 40)) (h2 : Arg w A2 c2 (l2.take 40)) :
    Calls Tryd.prog 3 #[.slice A0 l0.length c0, .slice A1 l1.length c1, .slice A2 l2.length c2] w fun e w' => e = .returned (.bool true) ∧ Below w.heap.size w w' := by
  have CUT0 := Aside0.mk (fun W => MyCut.cut_u8.calls A0 c0 l0 40 (l0.take 40) W m0 (MyCut.cut_u8.nat l0 40))
  have CUT1 := Aside0.mk (fun W => MyCut.cut_u8.calls A1 c1 l1 40 (l1.take 40) W m1 (MyCut.cut_u8.nat l1 40))
  have CUT2 := Aside0.mk (fun W => MyCut.cut_u8.calls A2 c2 l2 40 (l2.take 40) W m2 (MyCut.cut_u8.nat l2 40))
  have n0 : (l0.take 40).length ≤ 40 := by rw [List.length_take]; omega
  have n1 : (l1.take 40).length ≤ 40 := by rw [List.length_take]; omega
  obtain ⟨a, ha⟩ : ∃ a, l0.take 40 = a := ⟨_, rfl⟩
  obtain ⟨b, hb⟩ : ∃ b, l1.take 40 = b := ⟨_, rfl⟩
  obtain ⟨d, hd⟩ : ∃ d, l2.take 40 = d := ⟨_, rfl⟩
  rw [ha] at CUT0 h0 n0
  rw [hb] at CUT1 h1 n1
  rw [hd] at CUT2 h2
  clear ha hb hd
  have LAB : Aside0 (K2 9 A0 c0 a A1 c1 b w (lessB a b)) := ⟨fun W hb => less_any A0 c0 a A1 c1 b W (h0.below hb) (h1.below hb)⟩
  have LBC : Aside0 (K2 9 A1 c1 b A2 c2 d w (lessB b d)) := ⟨fun W hb => less_any A1 c1 b A2 c2 d W (h1.below hb) (h2.below hb)⟩
  have LAC : Aside0 (K2 9 A0 c0 a A2 c2 d w (lessB a d)) := ⟨fun W hb => less_any A0 c0 a A2 c2 d W (h0.below hb) (h2.below hb)⟩
  have LBA : Aside0 (K2 9 A1 c1 b A0 c0 a w (lessB b a)) := ⟨fun W hb => less_any A1 c1 b A0 c0 a W (h1.below hb) (h0.below hb)⟩
  have LAA : Aside0 (K2 9 A0 c0 a A0 c0 a w false) := ⟨fun W hb => less_self a h0.rng ▸ less_any A0 c0 a A0 c0 a W (h0.below hb) (h0.below hb)⟩
  have RAB : Aside0 (K2 10 A0 c0 a A1 c1 b w (lessB a b)) := ⟨fun W hb => rless_any A0 c0 a A1 c1 b W (h0.below hb) (h1.below hb) (by omega) (by omega)⟩
  have SAB : Aside0 (a = b → K2 11 A0 c0 a A1 c1 b w true) := ⟨fun e W hb => same_any A0 c0 A1 c1 a b W e (h0.below hb) (h1.below hb)⟩
  have PAR : Aside0 (∀ W, Below w.heap.size w W → Calls Tryd.prog 12 #[.slice A0 a.length c0] W (RPost W (parentL a))) := ⟨fun W hb => parent_any A0 c0 a W (h0.below hb) (by omega)⟩
  have LPA : Aside0 (parentL a ≠ [] → ∀ W A5 c5, Arg W A5 c5 (parentL a) → Below w.heap.size w W → Calls Tryd.prog 9 #[.slice A5 (parentL a).length c5, .slice A0 a.length c0] W fun e w' => e = .returned (.bool true) ∧ Below W.heap.size W w') :=
    ⟨fun hp W A5 c5 h5 hb => parent_less a (by omega) h0.rng hp ▸ less_any A5 c5 _ A0 c0 a W h5 (h0.below hb)⟩
  have LIV := Aside0.mk lives_any
  have hz : lessB a b = true → lessB b d = true → lessB a d = true := less_trans a b d h0.rng h1.rng h2.rng
  have hq : lessB a b = true → lessB b a = false := less_asym a b h0.rng h1.rng
  have hs : lessB a b = false → lessB b a = false → a = b := less_total a b h0.rng h1.rng
  have HB := Aside0.mk (Below.refl w.heap.size w)
  clear h0 h1 h2 m0 m1 m2 n0 n1
  generalize lessB a b = x at *
  generalize lessB b d = y at *
  generalize lessB a d = z at *
  generalize lessB b a = q at *
  generalize parentL a = p at *
  have key : ∀ (x' y' z' q' : Bool), x = x' → y = y' → z = z' → q = q' → (x' = true ∧ q' = false ∧ (y' = true → z' = true)) ∨ (x' = false ∧ (q' = true ∨ (q' = false ∧ a = b))) := by
    rintro x' y' z' q' rfl rfl rfl rfl
    cases x with
    | true => exact .inl ⟨rfl, hq rfl, fun h => hz rfl h⟩
    | false => cases q with
      | true => exact .inr ⟨rfl, .inl rfl⟩
      | false => exact .inr ⟨rfl, .inr ⟨rfl, hs rfl rfl⟩⟩
  have key2 := key x y z q rfl rfl rfl rfl
  clear key hz hq hs
  have hpp : (p = []) ∨ (p ≠ [] ∧ ((p.length : Int) == 0) = false ∧ (p.length == 0) = false) := by
    by_cases h : p = []
    · exact .inl h
    · have : p.length ≠ 0 := fun e => h (List.eq_nil_of_length_eq_zero e)
      exact .inr ⟨h, beq_eq_false_iff_ne.mpr (by omega), beq_eq_false_iff_ne.mpr this⟩
  have fin : ∀ (P5 : Prop), P5 → P5 := fun _ h => h
  rcases key2 with ⟨rfl, rfl, hyz⟩ | ⟨rfl, hqq⟩
  · cases y with
    | true =>
      obtain rfl := hyz rfl
      clear hyz
      rcases hpp with rfl | ⟨hp, p1, p2⟩
      · clear LPA
        go_enter Tryd.func3, Tryd.ntmps3
        go_wp2_with (first
          | (go_at_call 8; (with_reducible refine (CUT0.out _).mono ?_); rintro e w1 ⟨rfl, rfl⟩)
          | (go_at_call 8; (with_reducible refine (CUT1.out _).mono ?_); rintro e w1 ⟨rfl, rfl⟩)
          | (go_at_call 8; (with_reducible refine (CUT2.out _).mono ?_); rintro e w1 ⟨rfl, rfl⟩)
          | (go_at_call 9; (with_reducible refine (LAB.out.go _ HB.out).mono ?_); rintro e w1 ⟨rfl, hb⟩; have HB := Aside0.mk (below_step HB.out hb); clear hb)
          | (go_at_call 9; (with_reducible refine (LBC.out.go _ HB.out).mono ?_); rintro e w1 ⟨rfl, hb⟩; have HB := Aside0.mk (below_step HB.out hb); clear hb)
          | (go_at_call 9; (with_reducible refine (LAC.out.go _ HB.out).mono ?_); rintro e w1 ⟨rfl, hb⟩; have HB := Aside0.mk (below_step HB.out hb); clear hb)
          | (go_at_call 9; (with_reducible refine (LBA.out.go _ HB.out).mono ?_); rintro e w1 ⟨rfl, hb⟩; have HB := Aside0.mk (below_step HB.out hb); clear hb)
          | (go_at_call 9; (with_reducible refine (LAA.out.go _ HB.out).mono ?_); rintro e w1 ⟨rfl, hb⟩; have HB := Aside0.mk (below_step HB.out hb); clear hb)
          | (go_at_call 10; (with_reducible refine (RAB.out.go _ HB.out).mono ?_); rintro e w1 ⟨rfl, hb⟩; have HB := Aside0.mk (below_step HB.out hb); clear hb)
          | (go_at_call 11; (with_reducible refine (SAB.out.go _ HB.out).mono ?_); rintro e w1 ⟨rfl, hb⟩; have HB := Aside0.mk (below_step HB.out hb); clear hb)
          | (go_at_call 12; (with_reducible refine (PAR.out _ HB.out).mono ?_); rintro e w1 ⟨A5, c5, rfl, h5, hb⟩; have H5 := Aside0.mk h5; have HB := Aside0.mk (below_step HB.out hb); clear h5 hb)
          | (go_at_call 9; (with_reducible refine (LPA.out _ _ _ H5.out HB.out).mono ?_); rintro e w1 ⟨rfl, hb⟩; have HB := Aside0.mk (below_step HB.out hb); clear hb)
          | (go_at_call 13; (with_reducible refine (LIV.out _).mono ?_); rintro e w1 ⟨rfl, hb⟩; have HB := Aside0.mk (below_step HB.out hb); clear hb))
        go_ret
        exact ⟨rfl, HB.out⟩
      · have LPA := Aside0.mk (LPA.out hp)
        clear hp
        go_enter Tryd.func3, Tryd.ntmps3
        go_wp2_with (first
          | (go_at_call 8; (with_reducible refine (CUT0.out _).mono ?_); rintro e w1 ⟨rfl, rfl⟩)
          | (go_at_call 8; (with_reducible refine (CUT1.out _).mono ?_); rintro e w1 ⟨rfl, rfl⟩)
          | (go_at_call 8; (with_reducible refine (CUT2.out _).mono ?_); rintro e w1 ⟨rfl, rfl⟩)
          | (go_at_call 9; (with_reducible refine (LAB.out.go _ HB.out).mono ?_); rintro e w1 ⟨rfl, hb⟩; have HB := Aside0.mk (below_step HB.out hb); clear hb)
          | (go_at_call 9; (with_reducible refine (LBC.out.go _ HB.out).mono ?_); rintro e w1 ⟨rfl, hb⟩; have HB := Aside0.mk (below_step HB.out hb); clear hb)
          | (go_at_call 9; (with_reducible refine (LAC.out.go _ HB.out).mono ?_); rintro e w1 ⟨rfl, hb⟩; have HB := Aside0.mk (below_step HB.out hb); clear hb)
          | (go_at_call 9; (with_reducible refine (LBA.out.go _ HB.out).mono ?_); rintro e w1 ⟨rfl, hb⟩; have HB := Aside0.mk (below_step HB.out hb); clear hb)
          | (go_at_call 9; (with_reducible refine (LAA.out.go _ HB.out).mono ?_); rintro e w1 ⟨rfl, hb⟩; have HB := Aside0.mk (below_step HB.out hb); clear hb)
          | (go_at_call 10; (with_reducible refine (RAB.out.go _ HB.out).mono ?_); rintro e w1 ⟨rfl, hb⟩; have HB := Aside0.mk (below_step HB.out hb); clear hb)
          | (go_at_call 11; (with_reducible refine (SAB.out.go _ HB.out).mono ?_); rintro e w1 ⟨rfl, hb⟩; have HB := Aside0.mk (below_step HB.out hb); clear hb)
          | (go_at_call 12; (with_reducible refine (PAR.out _ HB.out).mono ?_); rintro e w1 ⟨A5, c5, rfl, h5, hb⟩; have H5 := Aside0.mk h5; have HB := Aside0.mk (below_step HB.out hb); clear h5 hb)
          | (go_at_call 9; (with_reducible refine (LPA.out _ _ _ H5.out HB.out).mono ?_); rintro e w1 ⟨rfl, hb⟩; have HB := Aside0.mk (below_step HB.out hb); clear hb)
          | (go_at_call 13; (with_reducible refine (LIV.out _).mono ?_); rintro e w1 ⟨rfl, hb⟩; have HB := Aside0.mk (below_step HB.out hb); clear hb))
        go_ret
        exact ⟨rfl, HB.out⟩
    | false =>
      clear hyz
      rcases hpp with rfl | ⟨hp, p1, p2⟩
      · clear LPA
        go_enter Tryd.func3, Tryd.ntmps3
        go_wp2_with (first
          | (go_at_call 8; (with_reducible refine (CUT0.out _).mono ?_); rintro e w1 ⟨rfl, rfl⟩)
          | (go_at_call 8; (with_reducible refine (CUT1.out _).mono ?_); rintro e w1 ⟨rfl, rfl⟩)
          | (go_at_call 8; (with_reducible refine (CUT2.out _).mono ?_); rintro e w1 ⟨rfl, rfl⟩)
          | (go_at_call 9; (with_reducible refine (LAB.out.go _ HB.out).mono ?_); rintro e w1 ⟨rfl, hb⟩; have HB := Aside0.mk (below_step HB.out hb); clear hb)
          | (go_at_call 9; (with_reducible refine (LBC.out.go _ HB.out).mono ?_); rintro e w1 ⟨rfl, hb⟩; have HB := Aside0.mk (below_step HB.out hb); clear hb)
          | (go_at_call 9; (with_reducible refine (LAC.out.go _ HB.out).mono ?_); rintro e w1 ⟨rfl, hb⟩; have HB := Aside0.mk (below_step HB.out hb); clear hb)
          | (go_at_call 9; (with_reducible refine (LBA.out.go _ HB.out).mono ?_); rintro e w1 ⟨rfl, hb⟩; have HB := Aside0.mk (below_step HB.out hb); clear hb)
          | (go_at_call 9; (with_reducible refine (LAA.out.go _ HB.out).mono ?_); rintro e w1 ⟨rfl, hb⟩; have HB := Aside0.mk (below_step HB.out hb); clear hb)
          | (go_at_call 10; (with_reducible refine (RAB.out.go _ HB.out).mono ?_); rintro e w1 ⟨rfl, hb⟩; have HB := Aside0.mk (below_step HB.out hb); clear hb)
          | (go_at_call 11; (with_reducible refine (SAB.out.go _ HB.out).mono ?_); rintro e w1 ⟨rfl, hb⟩; have HB := Aside0.mk (below_step HB.out hb); clear hb)
          | (go_at_call 12; (with_reducible refine (PAR.out _ HB.out).mono ?_); rintro e w1 ⟨A5, c5, rfl, h5, hb⟩; have H5 := Aside0.mk h5; have HB := Aside0.mk (below_step HB.out hb); clear h5 hb)
          | (go_at_call 9; (with_reducible refine (LPA.out _ _ _ H5.out HB.out).mono ?_); rintro e w1 ⟨rfl, hb⟩; have HB := Aside0.mk (below_step HB.out hb); clear hb)
          | (go_at_call 13; (with_reducible refine (LIV.out _).mono ?_); rintro e w1 ⟨rfl, hb⟩; have HB := Aside0.mk (below_step HB.out hb); clear hb))
        go_ret
        exact ⟨rfl, HB.out⟩
      · have LPA := Aside0.mk (LPA.out hp)
        clear hp
        go_enter Tryd.func3, Tryd.ntmps3
        go_wp2_with (first
          | (go_at_call 8; (with_reducible refine (CUT0.out _).mono ?_); rintro e w1 ⟨rfl, rfl⟩)
          | (go_at_call 8; (with_reducible refine (CUT1.out _).mono ?_); rintro e w1 ⟨rfl, rfl⟩)
          | (go_at_call 8; (with_reducible refine (CUT2.out _).mono ?_); rintro e w1 ⟨rfl, rfl⟩)
          | (go_at_call 9; (with_reducible refine (LAB.out.go _ HB.out).mono ?_); rintro e w1 ⟨rfl, hb⟩; have HB := Aside0.mk (below_step HB.out hb); clear hb)
          | (go_at_call 9; (with_reducible refine (LBC.out.go _ HB.out).mono ?_); rintro e w1 ⟨rfl, hb⟩; have HB := Aside0.mk (below_step HB.out hb); clear hb)
          | (go_at_call 9; (with_reducible refine (LAC.out.go _ HB.out).mono ?_); rintro e w1 ⟨rfl, hb⟩; have HB := Aside0.mk (below_step HB.out hb); clear hb)
          | (go_at_call 9; (with_reducible refine (LBA.out.go _ HB.out).mono ?_); rintro e w1 ⟨rfl, hb⟩; have HB := Aside0.mk (below_step HB.out hb); clear hb)
          | (go_at_call 9; (with_reducible refine (LAA.out.go _ HB.out).mono ?_); rintro e w1 ⟨rfl, hb⟩; have HB := Aside0.mk (below_step HB.out hb); clear hb)
          | (go_at_call 10; (with_reducible refine (RAB.out.go _ HB.out).mono ?_); rintro e w1 ⟨rfl, hb⟩; have HB := Aside0.mk (below_step HB.out hb); clear hb)
          | (go_at_call 11; (with_reducible refine (SAB.out.go _ HB.out).mono ?_); rintro e w1 ⟨rfl, hb⟩; have HB := Aside0.mk (below_step HB.out hb); clear hb)
          | (go_at_call 12; (with_reducible refine (PAR.out _ HB.out).mono ?_); rintro e w1 ⟨A5, c5, rfl, h5, hb⟩; have H5 := Aside0.mk h5; have HB := Aside0.mk (below_step HB.out hb); clear h5 hb)
          | (go_at_call 9; (with_reducible refine (LPA.out _ _ _ H5.out HB.out).mono ?_); rintro e w1 ⟨rfl, hb⟩; have HB := Aside0.mk (below_step HB.out hb); clear hb)
          | (go_at_call 13; (with_reducible refine (LIV.out _).mono ?_); rintro e w1 ⟨rfl, hb⟩; have HB := Aside0.mk (below_step HB.out hb); clear hb))
        go_ret
        exact ⟨rfl, HB.out⟩
  · rcases hqq with rfl | ⟨rfl, hab⟩
    · rcases hpp with rfl | ⟨hp, p1, p2⟩
      · clear LPA
        go_enter Tryd.func3, Tryd.ntmps3
        go_wp2_with (first
          | (go_at_call 8; (with_reducible refine (CUT0.out _).mono ?_); rintro e w1 ⟨rfl, rfl⟩)
          | (go_at_call 8; (with_reducible refine (CUT1.out _).mono ?_); rintro e w1 ⟨rfl, rfl⟩)
          | (go_at_call 8; (with_reducible refine (CUT2.out _).mono ?_); rintro e w1 ⟨rfl, rfl⟩)
          | (go_at_call 9; (with_reducible refine (LAB.out.go _ HB.out).mono ?_); rintro e w1 ⟨rfl, hb⟩; have HB := Aside0.mk (below_step HB.out hb); clear hb)
          | (go_at_call 9; (with_reducible refine (LBC.out.go _ HB.out).mono ?_); rintro e w1 ⟨rfl, hb⟩; have HB := Aside0.mk (below_step HB.out hb); clear hb)
          | (go_at_call 9; (with_reducible refine (LAC.out.go _ HB.out).mono ?_); rintro e w1 ⟨rfl, hb⟩; have HB := Aside0.mk (below_step HB.out hb); clear hb)
          | (go_at_call 9; (with_reducible refine (LBA.out.go _ HB.out).mono ?_); rintro e w1 ⟨rfl, hb⟩; have HB := Aside0.mk (below_step HB.out hb); clear hb)
          | (go_at_call 9; (with_reducible refine (LAA.out.go _ HB.out).mono ?_); rintro e w1 ⟨rfl, hb⟩; have HB := Aside0.mk (below_step HB.out hb); clear hb)
          | (go_at_call 10; (with_reducible refine (RAB.out.go _ HB.out).mono ?_); rintro e w1 ⟨rfl, hb⟩; have HB := Aside0.mk (below_step HB.out hb); clear hb)
          | (go_at_call 11; (with_reducible refine (SAB.out.go _ HB.out).mono ?_); rintro e w1 ⟨rfl, hb⟩; have HB := Aside0.mk (below_step HB.out hb); clear hb)
          | (go_at_call 12; (with_reducible refine (PAR.out _ HB.out).mono ?_); rintro e w1 ⟨A5, c5, rfl, h5, hb⟩; have H5 := Aside0.mk h5; have HB := Aside0.mk (below_step HB.out hb); clear h5 hb)
          | (go_at_call 9; (with_reducible refine (LPA.out _ _ _ H5.out HB.out).mono ?_); rintro e w1 ⟨rfl, hb⟩; have HB := Aside0.mk (below_step HB.out hb); clear hb)
          | (go_at_call 13; (with_reducible refine (LIV.out _).mono ?_); rintro e w1 ⟨rfl, hb⟩; have HB := Aside0.mk (below_step HB.out hb); clear hb))
        go_ret
        exact ⟨rfl, HB.out⟩
      · have LPA := Aside0.mk (LPA.out hp)
        clear hp
        go_enter Tryd.func3, Tryd.ntmps3
        go_wp2_with (first
          | (go_at_call 8; (with_reducible refine (CUT0.out _).mono ?_); rintro e w1 ⟨rfl, rfl⟩)
          | (go_at_call 8; (with_reducible refine (CUT1.out _).mono ?_); rintro e w1 ⟨rfl, rfl⟩)
          | (go_at_call 8; (with_reducible refine (CUT2.out _).mono ?_); rintro e w1 ⟨rfl, rfl⟩)
          | (go_at_call 9; (with_reducible refine (LAB.out.go _ HB.out).mono ?_); rintro e w1 ⟨rfl, hb⟩; have HB := Aside0.mk (below_step HB.out hb); clear hb)
          | (go_at_call 9; (with_reducible refine (LBC.out.go _ HB.out).mono ?_); rintro e w1 ⟨rfl, hb⟩; have HB := Aside0.mk (below_step HB.out hb); clear hb)
          | (go_at_call 9; (with_reducible refine (LAC.out.go _ HB.out).mono ?_); rintro e w1 ⟨rfl, hb⟩; have HB := Aside0.mk (below_step HB.out hb); clear hb)
          | (go_at_call 9; (with_reducible refine (LBA.out.go _ HB.out).mono ?_); rintro e w1 ⟨rfl, hb⟩; have HB := Aside0.mk (below_step HB.out hb); clear hb)
          | (go_at_call 9; (with_reducible refine (LAA.out.go _ HB.out).mono ?_); rintro e w1 ⟨rfl, hb⟩; have HB := Aside0.mk (below_step HB.out hb); clear hb)
          | (go_at_call 10; (with_reducible refine (RAB.out.go _ HB.out).mono ?_); rintro e w1 ⟨rfl, hb⟩; have HB := Aside0.mk (below_step HB.out hb); clear hb)
          | (go_at_call 11; (with_reducible refine (SAB.out.go _ HB.out).mono ?_); rintro e w1 ⟨rfl, hb⟩; have HB := Aside0.mk (below_step HB.out hb); clear hb)
          | (go_at_call 12; (with_reducible refine (PAR.out _ HB.out).mono ?_); rintro e w1 ⟨A5, c5, rfl, h5, hb⟩; have H5 := Aside0.mk h5; have HB := Aside0.mk (below_step HB.out hb); clear h5 hb)
          | (go_at_call 9; (with_reducible refine (LPA.out _ _ _ H5.out HB.out).mono ?_); rintro e w1 ⟨rfl, hb⟩; have HB := Aside0.mk (below_step HB.out hb); clear hb)
          | (go_at_call 13; (with_reducible refine (LIV.out _).mono ?_); rintro e w1 ⟨rfl, hb⟩; have HB := Aside0.mk (below_step HB.out hb); clear hb))
        go_ret
        exact ⟨rfl, HB.out⟩
    · have SAB := Aside0.mk (SAB.out hab)
      clear hab
      rcases hpp with rfl | ⟨hp, p1, p2⟩
      · clear LPA
        go_enter Tryd.func3, Tryd.ntmps3
        go_wp2_with (first
          | (go_at_call 8; (with_reducible refine (CUT0.out _).mono ?_); rintro e w1 ⟨rfl, rfl⟩)
          | (go_at_call 8; (with_reducible refine (CUT1.out _).mono ?_); rintro e w1 ⟨rfl, rfl⟩)
          | (go_at_call 8; (with_reducible refine (CUT2.out _).mono ?_); rintro e w1 ⟨rfl, rfl⟩)
          | (go_at_call 9; (with_reducible refine (LAB.out.go _ HB.out).mono ?_); rintro e w1 ⟨rfl, hb⟩; have HB := Aside0.mk (below_step HB.out hb); clear hb)
          | (go_at_call 9; (with_reducible refine (LBC.out.go _ HB.out).mono ?_); rintro e w1 ⟨rfl, hb⟩; have HB := Aside0.mk (below_step HB.out hb); clear hb)
          | (go_at_call 9; (with_reducible refine (LAC.out.go _ HB.out).mono ?_); rintro e w1 ⟨rfl, hb⟩; have HB := Aside0.mk (below_step HB.out hb); clear hb)
          | (go_at_call 9; (with_reducible refine (LBA.out.go _ HB.out).mono ?_); rintro e w1 ⟨rfl, hb⟩; have HB := Aside0.mk (below_step HB.out hb); clear hb)
          | (go_at_call 9; (with_reducible refine (LAA.out.go _ HB.out).mono ?_); rintro e w1 ⟨rfl, hb⟩; have HB := Aside0.mk (below_step HB.out hb); clear hb)
          | (go_at_call 10; (with_reducible refine (RAB.out.go _ HB.out).mono ?_); rintro e w1 ⟨rfl, hb⟩; have HB := Aside0.mk (below_step HB.out hb); clear hb)
          | (go_at_call 11; (with_reducible refine (SAB.out.go _ HB.out).mono ?_); rintro e w1 ⟨rfl, hb⟩; have HB := Aside0.mk (below_step HB.out hb); clear hb)
          | (go_at_call 12; (with_reducible refine (PAR.out _ HB.out).mono ?_); rintro e w1 ⟨A5, c5, rfl, h5, hb⟩; have H5 := Aside0.mk h5; have HB := Aside0.mk (below_step HB.out hb); clear h5 hb)
          | (go_at_call 9; (with_reducible refine (LPA.out _ _ _ H5.out HB.out).mono ?_); rintro e w1 ⟨rfl, hb⟩; have HB := Aside0.mk (below_step HB.out hb); clear hb)
          | (go_at_call 13; (with_reducible refine (LIV.out _).mono ?_); rintro e w1 ⟨rfl, hb⟩; have HB := Aside0.mk (below_step HB.out hb); clear hb))
        go_ret
        exact ⟨rfl, HB.out⟩
      · have LPA := Aside0.mk (LPA.out hp)
        clear hp
        go_enter Tryd.func3, Tryd.ntmps3
        go_wp2_with (first
          | (go_at_call 8; (with_reducible refine (CUT0.out _).mono ?_); rintro e w1 ⟨rfl, rfl⟩)
          | (go_at_call 8; (with_reducible refine (CUT1.out _).mono ?_); rintro e w1 ⟨rfl, rfl⟩)
          | (go_at_call 8; (with_reducible refine (CUT2.out _).mono ?_); rintro e w1 ⟨rfl, rfl⟩)
          | (go_at_call 9; (with_reducible refine (LAB.out.go _ HB.out).mono ?_); rintro e w1 ⟨rfl, hb⟩; have HB := Aside0.mk (below_step HB.out hb); clear hb)
          | (go_at_call 9; (with_reducible refine (LBC.out.go _ HB.out).mono ?_); rintro e w1 ⟨rfl, hb⟩; have HB := Aside0.mk (below_step HB.out hb); clear hb)
          | (go_at_call 9; (with_reducible refine (LAC.out.go _ HB.out).mono ?_); rintro e w1 ⟨rfl, hb⟩; have HB := Aside0.mk (below_step HB.out hb); clear hb)
          | (go_at_call 9; (with_reducible refine (LBA.out.go _ HB.out).mono ?_); rintro e w1 ⟨rfl, hb⟩; have HB := Aside0.mk (below_step HB.out hb); clear hb)
          | (go_at_call 9; (with_reducible refine (LAA.out.go _ HB.out).mono ?_); rintro e w1 ⟨rfl, hb⟩; have HB := Aside0.mk (below_step HB.out hb); clear hb)
          | (go_at_call 10; (with_reducible refine (RAB.out.go _ HB.out).mono ?_); rintro e w1 ⟨rfl, hb⟩; have HB := Aside0.mk (below_step HB.out hb); clear hb)
          | (go_at_call 11; (with_reducible refine (SAB.out.go _ HB.out).mono ?_); rintro e w1 ⟨rfl, hb⟩; have HB := Aside0.mk (below_step HB.out hb); clear hb)
          | (go_at_call 12; (with_reducible refine (PAR.out _ HB.out).mono ?_); rintro e w1 ⟨A5, c5, rfl, h5, hb⟩; have H5 := Aside0.mk h5; have HB := Aside0.mk (below_step HB.out hb); clear h5 hb)
          | (go_at_call 9; (with_reducible refine (LPA.out _ _ _ H5.out HB.out).mono ?_); rintro e w1 ⟨rfl, hb⟩; have HB := Aside0.mk (below_step HB.out hb); clear hb)
          | (go_at_call 13; (with_reducible refine (LIV.out _).mono ?_); rintro e w1 ⟨rfl, hb⟩; have HB := Aside0.mk (below_step HB.out hb); clear hb))
        go_ret
        exact ⟨rfl, HB.out⟩
end Go.Proofs.YtbjffjbohpoedaaDoor.Fd
