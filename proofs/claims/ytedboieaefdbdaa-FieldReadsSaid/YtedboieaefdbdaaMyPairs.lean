/- Words of mine: a slice of structs of two whole numbers that came in, opened: it reads as a list of pairs. -/
import Derived.Test.YtedboieaefdbdaaWMore
import Derived.Test.YtedboieaefdbdaaMyOpen
import Derived.Deep.SlicePairs
namespace Go.Proofs.Ytedboieaefdbdaa.MyOpen
open Go.Joins Go.ChangeShapes Go.WideShapes Go.RowKit Go.Deep Go.Proofs.YtedboieaefdbdaaW.PrintWords Go.Proofs.YtedboieaefdbdaaW.PrintLast Go.Proofs.YtedboieaefdbdaaW.PrintMore
section
variable {H : Type} {enc : TypeId × Value → H} {P : Program} {w : World} {base : Nat} {held : Bool}
theorem open_pairs {t e : TypeId} {f0 f1 : Field} {k0 k1 : IntKind} {v : Value} {d : DataW H} {p : List MemPlace} (ht : P.underlying t = some (.slice e)) (he : P.underlying e = some (.struct #[f0, f1]))
    (ce : P.cellsOf e = 2) (o0 : f0.offset = 0) (o1 : f1.offset = 1) (c0 : P.cellsOf f0.type = 1) (c1 : P.cellsOf f1.type = 1) (u0 : P.underlying f0.type = some (.int k0)) (u1 : P.underlying f1.type = some (.int k1))
    (h : DataW.Trod enc P w base (fun _ => true) held t v d p) (hv : ∃ a l c, v = .slice a l c) :
    ∃ (A : Option Addr) (c : Nat) (X : List (Int × Int)), v = .slice A X.length c ∧ Kd.C (Kd.pair (Kd.int k0) (Kd.int k1)) w A X.length X ∧ X.length ≤ c ∧ X.length ≤ maxLen ∧ ∀ x ∈ X, (Lit.int k0 x.1).wf = true ∧ (Lit.int k1 x.2).wf = true := by
  obtain ⟨a0, l0, c0', rfl⟩ := hv
  obtain ⟨fuel, hf⟩ := h
  rcases open_slice_pairs ht he ce o0 o1 c0 c1 hf with ⟨hcs, _⟩ | ⟨a, len, cap, m, n, V0, V1, D0, D1, P0, P1, hcs, _, hl, hm, hmm, _, hx⟩
  · simp [Value.cells] at hcs
    obtain ⟨rfl, rfl, rfl⟩ := hcs
    exact ⟨none, 0, [], rfl, ⟨rfl, by simp, fun h => absurd h (by simp)⟩, by simp, by simp, by simp⟩
  · simp [Value.cells] at hcs
    obtain ⟨rfl, rfl, rfl⟩ := hcs
    have hlm : l0 ≤ m := by rw [hmm]; simp; omega
    have num : ∀ i, i < l0 → V0 i = .int k0 (numOf (V0 i)) ∧ V1 i = .int k1 (numOf (V1 i)) ∧ (Lit.int k0 (numOf (V0 i))).wf = true ∧ (Lit.int k1 (numOf (V1 i))).wf = true := by
      intro i hi
      obtain ⟨_, _, g0, g1⟩ := hx i (by omega)
      obtain ⟨x, hx0, _, w0⟩ := DataW.trod_int u0 g0
      obtain ⟨y, hy0, _, w1⟩ := DataW.trod_int u1 g1
      have e0 : V0 i = .int k0 x := (List.cons.inj hx0).1
      have e1 : V1 i = .int k1 y := (List.cons.inj hy0).1
      rw [e0, e1]
      exact ⟨rfl, rfl, w0, w1⟩
    have hlen : ((List.range l0).map fun i => (numOf (V0 i), numOf (V1 i))).length = l0 := by simp
    refine ⟨some a, c0', (List.range l0).map fun i => (numOf (V0 i), numOf (V1 i)), by rw [hlen], ?_, by omega, by omega, ?_⟩
    · rw [hlen]
      refine ⟨hlen, by unfold maxLen at hm; omega, fun hn => ⟨a, rfl, fun j xs hj => ?_⟩⟩
      have hjl : j < l0 := by
        have := (List.getElem?_eq_some_iff.1 hj).1
        simpa using this
      have hxs : (numOf (V0 j), numOf (V1 j)) = xs := by
        rw [List.getElem?_map, List.getElem?_range hjl] at hj
        exact Option.some.inj hj
      subst hxs
      obtain ⟨h0, h1, _, _⟩ := hx j (by omega)
      obtain ⟨e0, e1, _, _⟩ := num j hjl
      rw [e0] at h0
      rw [e1] at h1
      refine ⟨[.int k0 (numOf (V0 j)), .int k1 (numOf (V1 j))], rfl, ⟨[.int k0 (numOf (V0 j))], [.int k1 (numOf (V1 j))], rfl, rfl, rfl⟩, fun i u hu => ?_⟩
      match i, hu with
      | 0, hu =>
        have : u = .int k0 (numOf (V0 j)) := by simpa using hu.symm
        subst this
        exact h0
      | 1, hu =>
        have : u = .int k1 (numOf (V1 j)) := by simpa using hu.symm
        subst this
        exact h1
      | i + 2, hu => simp at hu
    · intro x hx'
      obtain ⟨j, hj, rfl⟩ := List.mem_map.1 hx'
      obtain ⟨_, _, w0, w1⟩ := num j (List.mem_range.1 hj)
      exact ⟨w0, w1⟩
end
end Go.Proofs.Ytedboieaefdbdaa.MyOpen
