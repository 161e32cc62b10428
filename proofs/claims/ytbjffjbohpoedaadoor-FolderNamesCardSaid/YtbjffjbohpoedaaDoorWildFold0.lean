/- wild.FoldAll, walked: each byte without its case, in new memory. -/
import Derived.Test.YtbjffjbohpoedaaDoorWBx1
import Derived.Test.YtbjffjbohpoedaaDoorWildClone0
import Derived.Deep.LoopGhost
namespace Go.Proofs.YtbjffjbohpoedaaDoor.Wd
open Go.RowKit Go.Proofs.YtbjffjbohpoedaaDoorW.PrintWords Go.Proofs.YtbjffjbohpoedaaDoorW.PrintLast Go.Proofs.YtbjffjbohpoedaaDoorW.PrintMore
set_option linter.unusedVariables false
set_option linter.unusedSimpArgs false
/-- a byte without its case -/
def fold1 (a : Int) : Int := if 97 ≤ a ∧ a ≤ 122 then a - 32 else if a = 92 then 47 else (WB.wild_capital.f a).getD 0
theorem fold_eq_nat : ∀ n : Nat, n < 256 → WB.wild_Fold.f 5 (n : Int) = some (fold1 n) ∧ 0 ≤ fold1 n ∧ fold1 n ≤ 255 := by decide +kernel
theorem fold_eq (a : Int) (h0 : 0 ≤ a) (h1 : a ≤ 255) : WB.wild_Fold.f 5 a = some (fold1 a) ∧ 0 ≤ fold1 a ∧ fold1 a ≤ 255 := by
  obtain ⟨n, rfl⟩ := Int.eq_ofNat_of_zero_le h0
  exact fold_eq_nat n (by omega)
theorem fold_calls (a : Int) (w : World) (h0 : 0 ≤ a) (h1 : a ≤ 255) : Calls Tryd.prog 69 #[.int .u8 a] w fun e w' => e = .returned (.int .u8 (fold1 a)) ∧ Drawn0 w w' :=
  WB.wild_Fold.calls 5 a (fold1 a) w (fold_eq a h0 h1).1
/-- the first i folded -/
def foldTo (L : List Int) (i : Nat) : List Int := (L.take i).map fold1 ++ L.drop i
theorem foldTo_length (L : List Int) (i : Nat) : (foldTo L i).length = L.length := by simp [foldTo]; omega
theorem foldTo_at (L : List Int) (i : Nat) (h : i < L.length) : rd (foldTo L i) (i : Int) = L.getD i 0 := by
  have e : ((L.take i).map fold1).length = i := by simp; omega
  unfold rd foldTo
  rw [Int.toNat_natCast, List.getD_eq_getElem?_getD, List.getElem?_append_right (by omega), e, Nat.sub_self, List.getElem?_drop, List.getD_eq_getElem?_getD]; rfl
theorem foldTo_set (L : List Int) (i : Nat) (h : i < L.length) : (foldTo L i).set i (fold1 (L.getD i 0)) = foldTo L (i + 1) := by
  have e : ((L.take i).map fold1).length = i := by simp; omega
  unfold foldTo
  rw [List.set_append_right i _ (by omega), e, Nat.sub_self, List.drop_eq_getElem_cons h, List.set_cons_zero, List.take_add_one, List.getElem?_eq_getElem h, List.map_append, List.getD_eq_getElem?_getD, List.getElem?_eq_getElem h]
  simp
theorem foldTo_all (L : List Int) : foldTo L L.length = L.map fold1 := by simp [foldTo]
theorem wr_inc (i : Nat) (h : i < 2000000000) : IntKind.i64.wrap ((i : Int) + 1) = ((i + 1 : Nat) : Int) := by rw [IntKind.wrap_i64]; omega
theorem zero_len {A : Option Addr} {w : World} {b c n : Nat} {xs : List Value} (h : w.ownsRow b 5 1 (.slice A n c) n xs) (hn : 0 < n) : ∃ g, A = some ⟨g, 0, none⟩ := by
  rcases h.2 with ⟨hv, h0⟩ | ⟨g, cap, cur, hv, _⟩
  · subst h0; simp at hv; omega
  · injection hv with e1; exact ⟨g, e1⟩
def FRel (w : World) (L : List Int) (B : Option Addr) (cB : Nat) (v : Value) (w' : World) : Prop :=
  ∃ i : Nat, v = .int .i64 (i : Int) ∧ i ≤ L.length ∧ w'.ownsRow w.heap.size 5 1 (.slice B L.length cB) L.length (nums .u8 (foldTo L i)) ∧ Below w.heap.size w w'
set_option maxHeartbeats 8000000 in
set_option maxRecDepth 100000 in
theorem foldall_any (A : Option Addr) (c : Nat) (L : List Int) (w : World) (hb : Kd.C (Kd.int .u8) w A L.length L) (hl : L.length ≤ 1000000000) (hr : ∀ x ∈ L, 0 ≤ x ∧ x ≤ 255) :
    Calls Tryd.prog 56 #[.slice A L.length c] w (Mine w (L.map fold1)) := by
  have HC := Aside0.mk hb
  have HL := Aside0.mk hl
  have HR := Aside0.mk hr
  clear hb hl hr
  go_enter Tryd.func56, Tryd.ntmps56
  go_wp2_with (go_at_call 46; refine (clone_mine A c L _ HC.out HL.out).mono ?_; rintro e w1 ⟨v, rfl, hv2, hb1⟩; obtain ⟨B, cB, rfl⟩ := own_slice hv2; have HB1 := Aside0.mk hb1; have HO := Aside0.mk hv2; clear hv2 hb1)
  go_loopw [10] (fun v10 wr => FRel w L B cB v10 wr) (fun v10 _ => L.length - (intOf v10).toNat)
  case atStart => exact ⟨0, rfl, by omega, by simpa [foldTo] using HO.out, HB1.out⟩
  case round =>
    clear HO HB1 HC
    obtain ⟨i, rfl, hi0, ho0, hb0⟩ := hrel
    have hi := Aside0.mk hi0
    have HO := Aside0.mk ho0
    have HB := Aside0.mk hb0
    clear hi0 ho0 hb0
    by_cases c : i < L.length
    · have c1 : decide ((i : Int) < (L.length : Int)) = true := decide_eq_true (by omega)
      obtain ⟨g, rfl⟩ := zero_len HO.out (by omega)
      have hat := own_at HO.out (i : Int) (by omega) (by omega)
      rw [foldTo_at L i c] at hat
      obtain ⟨hc1, hf1⟩ := hat
      rw [Int.toNat_natCast] at hc1 hf1
      have hst := Aside0.mk (own_store HO.out (i : Int) (fold1 (L.getD i 0)))
      have hmem : L.getD i 0 ∈ L := by rw [List.getD_eq_getElem?_getD, List.getElem?_eq_getElem c]; exact List.getElem_mem c
      have hb := HR.out _ hmem
      have FC := Aside0.mk (fun W => fold_calls (L.getD i 0) W hb.1 hb.2)
      have hset := Aside0.mk (foldTo_set L i c)
      have hwi := wr_inc i (by have := HL.out; omega)
      have HI := Aside0.mk c
      have q1 : (i : Int) < (L.length : Int) := by omega
      generalize L.getD i 0 = x at *
      clear hb hmem HR c
      go_wp2_with (go_at_call 69; refine (FC.out _).mono ?_; rintro e w2 ⟨rfl, ⟨m, rfl⟩⟩)
      go_roundw
      case rel =>
        have hd := pw_own_below HO.out (Drawn0.below ⟨⟨m, rfl⟩⟩ : Below wr.heap.size wr (wr.drewN m))
        have h1 := (own_store hd (i : Int) (fold1 x)).1
        rw [Int.toNat_natCast, hset.out] at h1
        exact ⟨i + 1, by go_num, HI.out, h1, (below_step HB.out (Drawn0.below ⟨⟨m, rfl⟩⟩)).setCell (p := ⟨g, i, none⟩) (own_base HO.out g rfl) _⟩
      case measure => have := HI.out; simp [intOf]; omega
    · have c1 : decide ((i : Int) < (L.length : Int)) = false := decide_eq_false (by omega)
      have ei : i = L.length := by have := hi.out; omega
      subst ei
      rw [foldTo_all] at HO
      go_wp2
      go_ret
      exact ⟨_, rfl, by simpa using HO.out, HB.out⟩
end Go.Proofs.YtbjffjbohpoedaaDoor.Wd
