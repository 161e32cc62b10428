/- bytes.Split by '/', wild.parts, walked: the parts of a name, folded. -/
import Derived.Test.YtbjffjbohpoedaaDoorWildFold0
import Derived.Test.YtbjffjbohpoedaaDoorWildSplit0
import Derived.Test.YtbjffjbohpoedaaDoorShelf
namespace Go.Proofs.YtbjffjbohpoedaaDoor.Wd
open Go.RowKit Go.Proofs.YtbjffjbohpoedaaDoorW.PrintWords Go.Proofs.YtbjffjbohpoedaaDoorW.PrintLast Go.Proofs.YtbjffjbohpoedaaDoorW.PrintMore
set_option linter.unusedVariables false
set_option linter.unusedSimpArgs false
/-- a row of slices of bytes that are only read -/
def PartsAt (w : World) (v : Value) (X : List (List Int)) : Prop :=
  ∃ b, v = .slice (some ⟨b, 0, none⟩) X.length X.length ∧ b < w.heap.size ∧ ∀ j xs, X[j]? = some xs → ∃ A c, w.cell? ⟨b, j, none⟩ = some (.slice A xs.length c) ∧ xs.length ≤ c ∧ Kd.C (Kd.int .u8) w A xs.length xs
theorem PartsAt.below {w w1 : World} {v : Value} {X : List (List Int)} (h : PartsAt w v X) (hb : Below w.heap.size w w1) : PartsAt w1 v X := by
  obtain ⟨b, hv, hlt, hc⟩ := h
  refine ⟨b, hv, Nat.lt_of_lt_of_le hlt hb.size, fun j xs hj => ?_⟩
  obtain ⟨A, c, h1, h2, h3⟩ := hc j xs hj
  exact ⟨A, c, (hb.cell (p := ⟨b, j, none⟩) hlt).trans h1, h2, Kd.C_below h3 hb⟩
theorem splitU_length (c : UInt8) : ∀ l : List UInt8, (splitU c l).length = l.count c + 1
  | [] => rfl
  | x :: l => by
    have ih := splitU_length c l
    unfold splitU
    by_cases h : x = c
    · subst h; rw [if_pos rfl, List.count_cons_self]; simp [ih]
    · rw [if_neg h, List.count_cons_of_ne h]
      cases hs : splitU c l with
      | nil => rw [hs] at ih; simp at ih
      | cons p ps => rw [hs] at ih; simpa using ih
theorem splitL_length_eq (l : List Int) (hr : ∀ x ∈ l, 0 ≤ x ∧ x < 256) : (splitL l).length = (Lib.bytesOf l).count 47 + 1 := by
  rw [← splitU_length, splitU_bytes l hr, List.length_map]
theorem split_some (a1 : Addr) (c1 : Nat) (F : List Int) (b2 : Nat) (w : World) (hC : Kd.C (Kd.int .u8) w (some a1) F.length F) (hcap : F.length ≤ c1) (hs : F.length ≤ 1000000000) (hc63 : c1 ≤ 9223372036854775807)
    (hr : ∀ x ∈ F, 0 ≤ x ∧ x < 256) (hsep : w.cell? ⟨b2, 0, none⟩ = some (.int .u8 47)) :
    Calls Tryd.prog 40 #[.slice (some a1) F.length c1, .slice (some ⟨b2, 0, none⟩) 1 1] w fun e w' => ∃ v, e = .returned v ∧ PartsAt w' v (splitL F) ∧ Below w.heap.size w w' := by
  have hc1 : ∀ i, i < F.length → w.cell? (a1.add i) = some (.int .u8 (F.getD i 0)) := by
    intro i hi
    obtain ⟨ad, e, h⟩ := (Kd.reads_of_C (d := (0 : Int)) hC).2.2 (by omega)
    obtain rfl := Option.some.inj e
    exact h i hi
  have hcnt : Lib.count (Lib.bytesOf F) [47] = (Lib.bytesOf F).count 47 := Lib.count_one 47 _
  have hle : (Lib.bytesOf F).count 47 ≤ F.length := by
    have := List.count_le_length (a := (47 : UInt8)) (l := Lib.bytesOf F)
    rwa [Lib.bytesOf_length] at this
  have hXl := splitL_length_eq F hr
  generalize hn : (Lib.bytesOf F).count 47 = n at *
  have hvl : (Lib.splitV [47] 0 n a1 c1 (Lib.bytesOf F)).length = n + 1 := by
    rw [Lib.splitV_length, ← hcnt, splitK_all, splitU_length, hn, hcnt]
  have core := Tryd.bytes_genSplit_core a1 ⟨b2, 0, none⟩ F.length c1 1 1 F [47] 0 (-1) (n + 1) w rfl hr hc1 hcap (by omega) hc63 (by omega) (by omega) rfl (by omega)
    (fun a zs ln cap q c hz hrz hcz hcp hln => (Tryd.bytes_Index_one_at a ln cap b2 0 1 zs 47 ((w.alloc (.cells c 22)).drewN q) hz
      (fun i hi => by rw [World.cell?_drewN]; exact Lib.cell?_alloc_marked _ (hcz i hi)) (by rw [World.cell?_drewN]; exact Lib.cell?_alloc_marked _ hsep)).mono
      fun e w' ⟨he, hw⟩ => ⟨by rw [he, Lib.index_one]; rfl, q, hw⟩)
    ((Tryd.bytes_Count_one_at a1 F.length c1 b2 0 1 F 47 w rfl hc1 hsep).mono fun e w' ⟨he, hw⟩ => ⟨by rw [he, Lib.count_one]; rfl, 0, hw⟩)
    (by decide) (by decide) (by rw [hcnt, if_pos (by decide)]; omega)
  rw [show n + 1 - 1 = n from by omega, hvl, show ((0 : Nat) : Int) = 0 from rfl] at core
  have hC1 := Aside0.mk core
  clear core
  have fin : ∀ w', (∃ q, w' = (w.alloc (.cells (Lib.cellsOfV (Lib.splitV [47] 0 n a1 c1 (Lib.bytesOf F)) (n + 1)) 22)).drewN q) → PartsAt w' (.slice (some ⟨w.heap.size, 0, none⟩) (n + 1) (n + 1)) (splitL F) ∧ Below w.heap.size w w' := by
    rintro w' ⟨q, rfl⟩
    have hB : Below w.heap.size w ((w.alloc (.cells (Lib.cellsOfV (Lib.splitV [47] 0 n a1 c1 (Lib.bytesOf F)) (n + 1)) 22)).drewN q) := pw_below_drewN (below_alloc (Below.refl _ _) _) q
    refine ⟨⟨w.heap.size, by rw [hXl], by show w.heap.size < (w.alloc _).heap.size; simp, fun j xs hj => ?_⟩, hB⟩
    have hjl : j < n + 1 := by
      have := (List.getElem?_eq_some_iff.1 hj).1
      omega
    obtain ⟨v, hv⟩ : ∃ v, (Lib.splitV [47] 0 n a1 c1 (Lib.bytesOf F))[j]? = some v := ⟨_, List.getElem?_eq_getElem (by omega)⟩
    obtain ⟨a', off, len, cp, rfl, h1, h2, h3, h4⟩ := Lib.splitV_spec [47] 0 (by decide) (by decide) n a1 c1 (Lib.bytesOf F) (by rw [Lib.bytesOf_length]; exact hcap) j v hv
    rw [Lib.bytesOf_length] at h2
    rw [← hcnt, splitK_all, splitU_bytes F hr, List.getElem?_map, hj] at h3
    have hb := Option.some.inj h3
    rw [← Lib.bytesOf_drop, ← Lib.bytesOf_take] at hb
    have hmem := splitL_mem F xs (List.mem_of_getElem? hj)
    have hxs : xs = (F.drop off).take len := bytesOf_inj _ _ (fun x hx => hr x (hmem x hx)) (fun x hx => hr x (List.mem_of_mem_drop (List.mem_of_mem_take hx))) hb
    have hlen : xs.length = len := by rw [hxs, List.length_take, List.length_drop]; omega
    refine ⟨some a', cp, ?_, by omega, ?_⟩
    · rw [World.cell?_drewN, cell_of_row _ _ j _ _ _ (heap_alloc_new w _), ← hvl, Lib.cellsOfV_full, List.getElem?_toArray, hv, hlen]
    · refine Kd.C_of_reads (d := (0 : Int)) (h1 := fun _ => rfl) ⟨rfl, by omega, fun _ => ⟨a', rfl, fun i hi => ?_⟩⟩
      rw [World.cell?_drewN, h4 i (by omega)]
      refine (Lib.cell?_alloc_marked _ (hc1 (off + i) (by omega))).trans ?_
      rw [hxs]
      congr 2
      simp only [List.getD_eq_getElem?_getD, List.getElem?_take, List.getElem?_drop]
      rw [if_pos (by omega)]
  have FIN := Aside0.mk fin
  clear fin hC hc1 hcnt hle hXl hn hvl hr hsep hcap hc63 hs
  go_enter Tryd.func40, Tryd.ntmps40
  go_wp2_with (go_at_call 61; refine (hC1.out).mono ?_; rintro e w' ⟨rfl, hw⟩; have HW := Aside0.mk hw; clear hw)
  go_ret
  exact ⟨_, rfl, FIN.out _ HW.out⟩
theorem split_nil (b2 : Nat) (w : World) (hsep : w.cell? ⟨b2, 0, none⟩ = some (.int .u8 47)) :
    Calls Tryd.prog 40 #[.slice none 0 0, .slice (some ⟨b2, 0, none⟩) 1 1] w fun e w' => ∃ v, e = .returned v ∧ PartsAt w' v (splitL []) ∧ Below w.heap.size w w' := by
  refine (Tryd.bytes_Split_nil (some ⟨b2, 0, none⟩) 1 1 w (by omega) (by omega) (fun _ => ⟨b2, 0, 47, rfl, hsep⟩)).mono ?_
  rintro e w' ⟨rfl, rfl⟩
  refine ⟨_, rfl, ⟨w.heap.size, rfl, by simp, fun j xs hj => ?_⟩, below_alloc (Below.refl _ _) _⟩
  obtain ⟨rfl, rfl⟩ : j = 0 ∧ xs = [] := by
    cases j with
    | zero => simp [splitL] at hj; exact ⟨rfl, hj⟩
    | succ j => simp [splitL] at hj
  refine ⟨none, 0, ?_, by simp, Kd.C_of_reads (d := (0 : Int)) (h1 := fun _ => rfl) ⟨rfl, by simp, fun h => absurd h (by simp)⟩⟩
  rw [cell_of_row _ _ 0 _ _ _ (heap_alloc_new w _)]; rfl
end Go.Proofs.YtbjffjbohpoedaaDoor.Wd
