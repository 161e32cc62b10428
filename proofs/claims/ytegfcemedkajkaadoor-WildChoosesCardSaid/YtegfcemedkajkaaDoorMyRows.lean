/- Words of mine: a slice of slices of bytes that came in, opened: it reads as a list of lists. -/
import Derived.Test.YtegfcemedkajkaaDoorWMore
import Derived.Deep.Matrix
import Derived.WalkKit
import Derived.ProofKit
import Derived.OpenShut
import Derived.ChangeOld
import Derived.Lib.SmallJoins
import Derived.Carry
import Derived.SizedLaws
namespace Go.Proofs.YtegfcemedkajkaaDoor.MyOpen
open Go.Joins Go.ChangeShapes Go.WideShapes Go.RowKit Go.Deep Go.Proofs.YtegfcemedkajkaaDoorW.PrintWords Go.Proofs.YtegfcemedkajkaaDoorW.PrintLast Go.Proofs.YtegfcemedkajkaaDoorW.PrintMore
section
variable {H : Type} {enc : TypeId × Value → H} {P : Program} {w : World} {base : Nat} {held : Bool}
theorem open_rows {t e q : TypeId} {k : IntKind} {v : Value} {d : DataW H} {p : List MemPlace} (ht : P.underlying t = some (.slice e)) (he : P.underlying e = some (.slice q)) (hq : P.underlying q = some (.int k)) (ce : P.cellsOf e = 1) (cq : P.cellsOf q = 1)
    (h : DataW.Trod enc P w base (fun _ => true) held t v d p) (hv : ∃ a l c, v = .slice a l c) :
    ∃ (A : Option Addr) (c : Nat) (X : List (List Int)), v = .slice A X.length c ∧ Kd.C (Kd.slice e (Kd.int k)) w A X.length X ∧ X.length ≤ c ∧ X.length ≤ maxLen ∧ ∀ r ∈ X, r.length ≤ maxLen ∧ ∀ x ∈ r, (Lit.int k x).wf = true := by
  obtain ⟨a0, l0, c0, rfl⟩ := hv
  obtain ⟨fuel, hf⟩ := h
  rcases open_int_rows ht he hq ce cq hf with ⟨hcs, _⟩ | ⟨a, len, cap, A, L, C, Z, hcs, _, hl, hm, _, hx⟩
  · simp [Value.cells] at hcs
    obtain ⟨rfl, rfl, rfl⟩ := hcs
    exact ⟨none, 0, [], rfl, ⟨rfl, by simp, fun h => absurd h (by simp)⟩, by simp, by simp, by simp⟩
  · simp [Value.cells] at hcs
    obtain ⟨rfl, rfl, rfl⟩ := hcs
    have hlen : ((List.range l0).map fun r => (Z r).take (L r)).length = l0 := by simp
    have hml : ∀ r, r < l0 → ((Z r).take (L r)).length = L r := fun r hr => by
      obtain ⟨_, h1, _, h2, _⟩ := hx r (by omega)
      rw [List.length_take]; omega
    refine ⟨some a, c0, (List.range l0).map fun r => (Z r).take (L r), by rw [hlen], ?_, by omega, by omega, ?_⟩
    · rw [hlen]
      refine ⟨hlen, by unfold maxLen at hm; omega, fun hn => ⟨a, rfl, fun j xs hj => ?_⟩⟩
      have hjl : j < l0 := by
        have := (List.getElem?_eq_some_iff.1 hj).1
        simpa using this
      have hxs : (Z j).take (L j) = xs := by
        rw [List.getElem?_map, List.getElem?_range hjl] at hj
        exact Option.some.inj hj
      subst hxs
      obtain ⟨h0, h1, h2, h3, h4, h5, h6⟩ := hx j (by omega)
      refine ⟨[.slice (A j) (L j) (C j)], rfl, ⟨A j, C j, by rw [hml j hjl], by rw [hml j hjl]; exact h1, ?_⟩, fun i u hu => ?_⟩
      · rw [hml j hjl]
        refine Kd.C_of_reads (d := (0 : Int)) (h1 := fun _ => rfl) ⟨hml j hjl, by unfold maxLen at h2; omega, fun hp => ?_⟩
        cases hA : A j with
        | none => have := h5 hA; omega
        | some a' =>
          refine ⟨a', rfl, fun i hi => ?_⟩
          rw [(h6 a' hA).2 i (by omega)]
          simp only [List.getD_eq_getElem?_getD, List.getElem?_take]
          rw [if_pos hi]
      · cases i with
        | zero =>
          have : u = .slice (A j) (L j) (C j) := by simpa using hu.symm
          subst this
          show w.cell? (a.add (j * 1 + 0)) = _
          rw [Nat.mul_one, Nat.add_zero]; exact h0
        | succ i => simp at hu
    · intro r hr
      obtain ⟨j, hj, rfl⟩ := List.mem_map.1 hr
      have hjl := List.mem_range.1 hj
      obtain ⟨h0, h1, h2, h3, h4, _⟩ := hx j (by omega)
      exact ⟨by rw [hml j hjl]; omega, fun x hx' => h4 x (List.mem_of_mem_take hx')⟩
end
end Go.Proofs.YtegfcemedkajkaaDoor.MyOpen
