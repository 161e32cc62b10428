/- bytes.Join by a slash, and append behind it. -/
import Derived.Test.YtbjffjbohpoedaaDoorFoldC0
import Derived.Lib.SlBuf
import Derived.Lib.Join
import Derived.Laws.IdiomCopy
namespace Go.Proofs.YtbjffjbohpoedaaDoor.Fd
open Go.Proofs.YtbjffjbohpoedaaDoor.Wd
open Go.RowKit Go.Proofs.YtbjffjbohpoedaaDoorW.PrintWords Go.Proofs.YtbjffjbohpoedaaDoorW.PrintLast Go.Proofs.YtbjffjbohpoedaaDoorW.PrintMore
set_option linter.unusedVariables false
set_option linter.unusedSimpArgs false
/-- new bytes, with room behind them that nobody holds -/
def Fresh (B : Nat) (w : World) (v : Value) (l : List Int) : Prop :=
  ∃ g cap, v = .slice (some ⟨g, 0, none⟩) l.length cap ∧ B ≤ g ∧ l.length ≤ cap ∧ cap ≤ maxLen ∧ (∀ i, i < l.length → w.cell? ⟨g, i, none⟩ = some (.int .u8 (l.getD i 0))) ∧
    (∀ i, i < cap → ∃ z, w.cell? ⟨g, i, none⟩ = some (.int .u8 z)) ∧ (∀ i, i < cap → w.frozen? ⟨g, i, none⟩ = false)
theorem Fresh.arg {B : Nat} {w : World} {v : Value} {l : List Int} (h : Fresh B w v l) (hr : ∀ x ∈ l, 0 ≤ x ∧ x ≤ 255) (hl : l.length ≤ 100000) : ∃ A c, v = .slice A l.length c ∧ Arg w A c l := by
  obtain ⟨g, cap, rfl, h1, h2, h3, h4, h5, h6⟩ := h
  refine ⟨some ⟨g, 0, none⟩, cap, rfl, Kd.C_of_reads (d := (0 : Int)) (h1 := fun _ => rfl) ⟨rfl, by omega, fun hp => ⟨_, rfl, fun i hi => ?_⟩⟩, h2, by simp [maxLen] at h3; omega, fun h => by (cases h), hr, hl⟩
  rw [add_zero]; exact h4 i hi
theorem Fresh.below {B : Nat} {w w1 : World} {v : Value} {l : List Int} (h : Fresh B w v l) (hb : Below w.heap.size w w1) : Fresh B w1 v l := by
  obtain ⟨g, cap, rfl, h1, h2, h3, h4, h5, h6⟩ := h
  by_cases hc : 0 < cap
  · obtain ⟨z, hz⟩ := h5 0 hc
    have hg : g < w.heap.size := World.block_lt_of_cell? w ⟨g, 0, none⟩ hz
    refine ⟨g, cap, rfl, h1, h2, h3, fun i hi => (hb.cell (p := ⟨g, i, none⟩) hg).trans (h4 i hi), fun i hi => ?_, fun i hi => (hb.frozen (p := ⟨g, i, none⟩) hg).trans (h6 i hi)⟩
    obtain ⟨z, hz⟩ := h5 i hi
    exact ⟨z, (hb.cell (p := ⟨g, i, none⟩) hg).trans hz⟩
  · exact ⟨g, cap, rfl, h1, h2, h3, fun i hi => absurd hi (by omega), fun i hi => absurd hi (by omega), fun i hi => absurd hi (by omega)⟩
theorem infoI : ∃ i, Tryd.prog.info? 5 = some i ∧ i.zero = some (.int .u8 0) ∧ i.size = 1 ∧ i.bytes = 1 := by
  obtain ⟨i, hi, hz⟩ := Option.map_eq_some_iff.1 (show (Tryd.prog.info? 5).map (fun i => (i.zero, i.size, i.bytes)) = some (some (.int .u8 0), 1, 1) by kernel_rfl)
  simp only [Prod.mk.injEq] at hz
  exact ⟨i, hi, hz.1, hz.2.1, hz.2.2⟩
theorem getD_snoc (l : List Int) (x : Int) (i : Nat) (hi : i < (l ++ [x]).length) : (l ++ [x]).getD i 0 = if i < l.length then l.getD i 0 else x := by
  rw [List.length_append, List.length_singleton] at hi
  simp only [List.getD_eq_getElem?_getD]
  by_cases h : i < l.length
  · rw [if_pos h, List.getElem?_append_left h]
  · rw [if_neg h, List.getElem?_append_right (by omega), show i - l.length = 0 by omega]; rfl
theorem append_fresh {B : Nat} {w : World} {v : Value} {l : List Int} (x : Int) (ty : TypeId) (h : Fresh B w v l) (hl : l.length ≤ 1000000) (hB : B ≤ w.heap.size) (a : Addr) (hx : w.cell? a = some (.int .u8 x)) :
    ∃ v2 w2, (Builtin.append_ #[22, 22] ty #[v, .slice (some a) 1 1]).run Tryd.prog w = .ok v2 w2 ∧ Fresh B w2 v2 (l ++ [x]) ∧ Below B w w2 := by
  obtain ⟨i0, hi0, hz0, hs0, hb0⟩ := infoI
  obtain ⟨g, cap, rfl, h1, h2, h3, h4, h5, h6⟩ := h
  have ha0 : a.add 0 = a := by unfold Addr.add; split <;> simp_all
  have hnews : ∀ j u, ([.int .u8 x] : List Value)[j]? = some u → w.cell? (a.add j) = some u := by
    intro j u hj
    cases j with
    | zero => rw [ha0]; simpa using hj ▸ hx
    | succ j => simp at hj
  have hlen : (l ++ [x]).length = l.length + 1 := by rw [List.length_append]; rfl
  by_cases hroom : l.length + 1 ≤ cap
  · have hf := run_firstCells_some (P := Tryd.prog) w i0.size 1 a 1 1 [.int .u8 x] (by rw [hs0]; rfl) hnews
    rw [hs0] at hf
    have hc0 : ∀ j, j < ([.int .u8 x] : List Value).length → (w.cell? ⟨g, l.length + 0 + j, none⟩).isSome = true := by
      intro j hj
      simp at hj
      subst hj
      obtain ⟨z, hz⟩ := h5 l.length (by omega)
      simp [hz]
    have hst := run_storeCells_cells (P := Tryd.prog) g l.length [.int .u8 x] 0 w hc0 (fun j hj => by simp at hj; subst hj; exact h6 _ (by omega)) (by simp [Value.oneCell'])
    rw [Nat.add_zero] at hst
    have hrun : (Builtin.append_ #[22, 22] ty #[.slice (some ⟨g, 0, none⟩) l.length cap, .slice (some a) 1 1]).run Tryd.prog w = .ok (.slice (some ⟨g, 0, none⟩) (l.length + 1) cap) (w.setCells g l.length [.int .u8 x]) := by
      simp [Builtin.append_, run_underlying Tryd.underlying22, sizeOf, typeInfo, hi0, Builtin.lenOf, hroom, hf, hs0, Addr.add_lit, hst]
    refine ⟨_, _, hrun, ⟨g, cap, by rw [hlen], h1, by omega, h3, fun i hi => ?_, fun i hi => ?_, fun i hi => by rw [World.frozen?_setCells]; exact h6 i hi⟩, Lib.below_setCells g h1 _ _ (Below.refl _ _)⟩
    · rw [getD_snoc l x i hi]
      rw [hlen] at hi
      by_cases e : i < l.length
      · rw [if_pos e, World.cell?_setCells_out g _ _ _ _ (fun _ _ => Or.inl e)]; exact h4 i e
      · obtain rfl : i = l.length := by omega
        rw [if_neg e]
        have := World.cell?_setCells_in g [.int .u8 x] l.length w hc0 0 (by simp)
        simpa using this
    · by_cases e : i = l.length
      · subst e
        have := World.cell?_setCells_in g [.int .u8 x] l.length w hc0 0 (by simp)
        exact ⟨x, by simpa using this⟩
      · obtain ⟨z, hz⟩ := h5 i hi
        exact ⟨z, by rw [World.cell?_setCells_out g _ _ _ _ (fun _ _ => by simp; omega)]; exact hz⟩
  · obtain rfl : cap = l.length := by omega
    have holds : ∀ j u, (l.map (Value.int .u8))[j]? = some u → w.cell? ((⟨g, 0, none⟩ : Addr).add j) = some u := by
      intro j u hj
      have hj2 : j < l.length := by have := (List.getElem?_eq_some_iff.1 hj).1; simpa using this
      rw [add_zero, h4 j hj2]
      rw [List.getElem?_map, List.getElem?_eq_getElem hj2] at hj
      rw [List.getD_eq_getElem?_getD, List.getElem?_eq_getElem hj2]
      exact hj
    have hrun := run_append_grow (P := Tryd.prog) w 22 ty 5 i0 (.int .u8 0) Tryd.underlying22 hi0 hz0 ⟨g, 0, none⟩ l.length l.length (l.map (Value.int .u8)) (by rw [hs0]; simp) holds a 1 1 [.int .u8 x] (by rw [hs0]; rfl) hnews (by omega) (by omega) (growslice_fits (by omega) (by rw [hb0]; omega))
    have hge := grownCap_ge w (l.length + 1) l.length 5
    have hle := grownCap_le_maxLen w (l.length + 1) l.length 5 (by simp [maxLen]; omega)
    generalize grownCap w (l.length + 1) l.length 5 = cap2 at *
    have hcs : ∀ j, (((l.map (Value.int .u8)).toArray ++ ([.int .u8 x] : List Value).toArray ++ Builtin.zeroCells (Value.int .u8 0).cells (cap2 - (l.length + 1))) : Array Value)[j]? = if j < l.length then (l.map (Value.int .u8))[j]? else if j = l.length then some (.int .u8 x) else (Builtin.zeroCells (Value.int .u8 0).cells (cap2 - (l.length + 1)))[j - (l.length + 1)]? := by
      intro j
      by_cases e : j < l.length
      · rw [if_pos e]
        simp [Array.getElem?_append, e, show j < l.length + 1 by omega]
      · rw [if_neg e]
        by_cases e2 : j = l.length
        · subst e2; rw [if_pos rfl]; simp [Array.getElem?_append]
        · rw [if_neg e2]
          simp [Array.getElem?_append, e, show ¬ j < l.length + 1 by omega]
    have hzc : ∀ j, j < cap2 - (l.length + 1) → (Builtin.zeroCells (Value.int .u8 0).cells (cap2 - (l.length + 1)))[j]? = some (.int .u8 0) := by
      intro j hj
      have hsz := size_zeroCells (Value.int .u8 0).cells (cap2 - (l.length + 1))
      rw [show (Value.int .u8 0).cells.size = 1 from rfl, Nat.mul_one] at hsz
      rw [Array.getElem?_eq_getElem (by rw [hsz]; exact hj)]
      simp [Builtin.zeroCells, Value.cells, Nat.mod_one]
    refine ⟨_, _, hrun, ⟨w.heap.size, cap2, by rw [hlen], hB, by omega, hle, fun i hi => ?_, fun i hi => ?_, fun i hi => ?_⟩, (below_drew (Below.refl _ _)).alloc hB _⟩
    · rw [cell_of_row _ w.heap.size i _ _ _ (heap_alloc_new w.drew _), hcs, getD_snoc l x i hi]
      rw [hlen] at hi
      by_cases e : i < l.length
      · rw [if_pos e, if_pos e, List.getElem?_map, List.getElem?_eq_getElem e, List.getD_eq_getElem?_getD, List.getElem?_eq_getElem e]; rfl
      · rw [if_neg e, if_neg e, if_pos (by omega)]
    · rw [cell_of_row _ w.heap.size i _ _ _ (heap_alloc_new w.drew _), hcs]
      by_cases e : i < l.length
      · rw [if_pos e, List.getElem?_map, List.getElem?_eq_getElem e]; exact ⟨_, rfl⟩
      · rw [if_neg e]
        by_cases e2 : i = l.length
        · rw [if_pos e2]; exact ⟨_, rfl⟩
        · rw [if_neg e2, hzc _ (by omega)]; exact ⟨_, rfl⟩
    · exact blk_frozen (heap_alloc_new w.drew _) i
/-- by slashes between -/
def joinT : List (List Int) → List Int
  | [] => []
  | p :: r => 47 :: p ++ joinT r
def joinL : List (List Int) → List Int
  | [] => []
  | p :: r => p ++ joinT r
theorem bytesOf_append (a b : List Int) : Lib.bytesOf (a ++ b) = Lib.bytesOf a ++ Lib.bytesOf b := by simp [Lib.bytesOf]
theorem joinT_bytes : ∀ X : List (List Int), Lib.bytesOf (joinT X) = Lib.joinTail [47] (X.map Lib.bytesOf)
  | [] => rfl
  | p :: r => by
    have ih := joinT_bytes r
    rw [show joinT (p :: r) = [47] ++ p ++ joinT r from rfl, bytesOf_append, bytesOf_append, ih]
    simp [Lib.joinTail, Lib.bytesOf]
theorem joinL_bytes (X : List (List Int)) : Lib.bytesOf (joinL X) = Lib.join (X.map Lib.bytesOf) [47] := by
  cases X with
  | nil => rfl
  | cons p r => unfold joinL; rw [bytesOf_append, joinT_bytes, List.map_cons, Lib.join_cons]
theorem joinT_len : ∀ X : List (List Int), (joinT X).length = (X.map List.length).sum + X.length
  | [] => rfl
  | p :: r => by unfold joinT; simp [joinT_len r]; omega
theorem joinT_mem : ∀ (X : List (List Int)) (x : Int), x ∈ joinT X → x = 47 ∨ ∃ p ∈ X, x ∈ p
  | [], x, h => by cases h
  | p :: r, x, h => by
    unfold joinT at h
    rcases List.mem_append.1 h with h | h
    · rcases List.mem_cons.1 h with h | h
      · exact .inl h
      · exact .inr ⟨p, by simp, h⟩
    · rcases joinT_mem r x h with h | ⟨q, hq, h⟩
      · exact .inl h
      · exact .inr ⟨q, by simp [hq], h⟩
theorem joinL_mem (X : List (List Int)) (x : Int) (h : x ∈ joinL X) : x = 47 ∨ ∃ p ∈ X, x ∈ p := by
  cases X with
  | nil => cases h
  | cons p r =>
    unfold joinL at h
    rcases List.mem_append.1 h with h | h
    · exact .inr ⟨p, by simp, h⟩
    · rcases joinT_mem r x h with h | ⟨q, hq, h⟩
      · exact .inl h
      · exact .inr ⟨q, by simp [hq], h⟩
theorem fresh_of {B : Nat} {w : World} {v : Value} {L : List Int} (h : Lib.FreshBytes B w v (Lib.bytesOf L)) (hr : ∀ x ∈ L, 0 ≤ x ∧ x < 256) : Fresh B w v L := by
  obtain ⟨g, cap, zs, rfl, h1, h2, h3, h4, h5, h6, h7, h8⟩ := h
  rw [Lib.bytesOf_length] at h2 h6 ⊢
  have e : zs.take L.length = L := bytesOf_inj _ _ (fun x hx => h5 x (List.mem_of_mem_take hx)) hr h6
  refine ⟨g, cap, rfl, h1, h2, h3, fun i hi => ?_, fun i hi => ⟨_, h7 i hi⟩, h8⟩
  rw [h7 i (by omega)]
  congr 2
  conv => rhs; rw [← e]
  simp only [List.getD_eq_getElem?_getD, List.getElem?_take]
  rw [if_pos hi]
theorem byte_back (x : Int) (h : 0 ≤ x ∧ x ≤ 255) : ((UInt8.ofNat x.toNat).toNat : Int) = x := by
  rw [UInt8.toNat_ofNat']; omega
theorem holds_of {w : World} {A : Option Addr} {c : Nat} {p : List Int} (h : Kd.C (Kd.int .u8) w A p.length p) (hr : ∀ x ∈ p, 0 ≤ x ∧ x ≤ 255) : Lib.HoldsBytes w (.slice A p.length c) (Lib.bytesOf p) := by
  refine ⟨A, c, by rw [Lib.bytesOf_length], fun hn => ?_, fun a ha i x hx => ?_⟩
  · rcases Nat.eq_zero_or_pos p.length with h0 | h0
    · rw [List.eq_nil_of_length_eq_zero h0]; rfl
    · obtain ⟨ad, e, _⟩ := (Kd.reads_of_C (d := (0 : Int)) h).2.2 h0
      rw [hn] at e; cases e
  · have hi : i < p.length := by have := (List.getElem?_eq_some_iff.1 hx).1; rwa [Lib.bytesOf_length] at this
    obtain ⟨ad, e, hc⟩ := (Kd.reads_of_C (d := (0 : Int)) h).2.2 (by omega)
    rw [ha] at e
    obtain rfl := Option.some.inj e
    rw [hc i hi]
    have hm : p[i] ∈ p := List.getElem_mem hi
    simp only [Lib.bytesOf, List.getElem?_map, List.getElem?_eq_getElem hi, Option.map_some, Option.some.injEq] at hx
    rw [List.getD_eq_getElem?_getD, List.getElem?_eq_getElem hi, ← hx]
    show some (Value.int .u8 p[i]) = _
    rw [byte_back _ (hr _ hm)]
end Go.Proofs.YtbjffjbohpoedaaDoor.Fd
