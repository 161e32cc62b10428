/- Words of mine: a struct that came in by value, opened to its cells, whatever the number of one-cell fields. -/
import Derived.WalkKit
import Derived.ProofKit
import Derived.OpenShut
import Derived.ShutString
import Derived.ChangeMaps5
import Derived.ChangeOld
import Derived.Below
import Derived.SizedLaws
import Derived.Lib.SmallJoins
import Derived.Carry
namespace Go.Proofs.YtbjffjbohpoedaaDoor.MyOpen
open Go.Joins Go.ChangeShapes Go.WideShapes Go.RowKit Go.Deep
section
variable {H : Type} {enc : TypeId × Value → H} {P : Program} {w : World} {base : Nat} {spare : Nat → Bool} {held : Bool}
theorem open_struct {r : Reach} {b0 : Nat} {t : TypeId} {fs : Array Field} {v : Value} {d : DataW H} {p : List MemPlace} (hs : P.underlying t = some (.struct fs)) (hone : oneCellFields P fs = true) (hC : P.cellsOf t = fs.size)
    (hv : Value.okWide P w r b0 t v) (h : DataW.Trod enc P w base spare held t v d p) :
    ∃ l : List Value, v = .agg l.toArray ∧ l.length = fs.size ∧ ∀ (j : Nat) (f : Field), fs[j]? = some f → ∃ (u : Value) (n : Nat) (y : DataW H × List MemPlace), l[j]? = some u ∧ DataW.trod enc P w base spare held n f.type [u] = some y := by
  obtain ⟨cs, rfl, hsz⟩ := okWide_struct hs hv
  have hsz' : cs.size = fs.size := hsz.trans hC
  obtain ⟨l⟩ := cs
  refine ⟨l, rfl, hsz', fun j f hj => ?_⟩
  obtain ⟨fuel, hf⟩ := h
  obtain ⟨xs, n, _, hx, _, hlen, hg⟩ := DataW.trod_struct hs hf
  obtain ⟨o0, k0⟩ := hone_of hone j f hj
  have hjl : j < fs.size := (Array.getElem?_eq_some_iff.1 hj).1
  have hl : j < l.length := by
    have : l.length = fs.size := hsz'
    omega
  have hxl : j < xs.length := by omega
  have hone' : (l.drop j).take 1 = [l[j]] := by
    rw [List.drop_eq_getElem_cons hl]
    rfl
  have g := hg j f hj
  refine ⟨l[j], n, xs[j], List.getElem?_eq_getElem hl, ?_⟩
  rw [← List.getElem?_eq_getElem hxl, ← g]
  simp only [o0, k0, Value.cells]
  rw [hone']
def numOf : Value → Int | .int _ n => n | _ => 0
theorem open_array_int {r : Reach} {b0 n : Nat} {t e : TypeId} {k : IntKind} {v : Value} {d : DataW H} {p : List MemPlace} (ht : P.underlying t = some (.array n e)) (he : P.underlying e = some (.int k)) (hce : P.cellsOf e = 1) (hC : P.cellsOf t = n)
    (hv : Value.okWide P w r b0 t v) (h : DataW.Trod enc P w base spare held t v d p) :
    ∃ l : List Int, v = .agg (l.map (Value.int k)).toArray ∧ l.length = n ∧ ∀ x ∈ l, (Lit.int k x).wf = true := by
  simp only [Value.okWide, ht] at hv
  obtain ⟨cs, rfl, hsz, _⟩ := hv
  obtain ⟨fuel, hf⟩ := h
  obtain ⟨xs, m, _, _, hlen, hxl, hat⟩ := DataW.trod_array ht hf
  have hsz' : cs.size = n := hsz.trans hC
  have key : ∀ i (hi : i < cs.size), cs[i] = .int k (numOf cs[i]) ∧ (Lit.int k (numOf cs[i])).wf = true := by
    intro i hi
    have g := hat i (by omega)
    rw [hce, Nat.mul_one] at g
    have hd1 : ((Value.agg cs).cells.toList.drop i).take 1 = [cs[i]] := by
      show (cs.toList.drop i).take 1 = _
      rw [List.drop_eq_getElem_cons (by simpa using hi)]
      simp
    rw [hd1, List.getElem?_eq_getElem (by omega)] at g
    obtain ⟨x, hx, _, hw⟩ := DataW.trod_int he g
    have hx' : cs[i] = .int k x := (List.cons.inj hx).1
    rw [hx']
    exact ⟨rfl, hw⟩
  refine ⟨cs.toList.map numOf, ?_, by simpa using hsz', fun x hx => ?_⟩
  · congr 1
    apply Array.ext
    · simp
    · intro i h1 h2
      simp only [List.getElem_toArray, List.getElem_map, Array.getElem_toList]
      exact (key i h1).1
  · simp only [List.mem_map] at hx
    obtain ⟨u, hu, rfl⟩ := hx
    obtain ⟨i, hi, rfl⟩ := List.mem_iff_getElem.1 hu
    have := (key i (by simpa using hi)).2
    simpa using this
/-- a value that is right for its type, hidden: a great program's types are not gone through at each look -/
structure OkW (P : Program) (w : World) (b0 : Nat) (t : TypeId) (v : Value) : Prop where
  out : Value.okWide P w .any b0 t v
theorem okw_of {ps : Array TypeId} {args : Array Value} {b0 : Nat} (h : ∀ (j : Nat) (t : TypeId) (v : Value), ps[j]? = some t → args[j]? = some v → Value.okWide P w .any b0 t v) :
    ∀ (j : Nat) (t : TypeId) (v : Value), ps[j]? = some t → args[j]? = some v → OkW P w b0 t v := fun j t v h1 h2 => ⟨h j t v h1 h2⟩
theorem q_int {b0 : Nat} {t : TypeId} {k : IntKind} {v : Value} {d : DataW H} {p : List MemPlace} (ht : P.underlying t = some (.int k)) (hv : OkW P w b0 t v) (h : DataW.Trod enc P w base spare held t v d p) :
    ∃ a : Int, v = .int k a ∧ d = .lit (.int k a) ∧ p = [] ∧ (Lit.int k a).wf = true := open_int ht hv.out h
theorem q_bool {b0 : Nat} {t : TypeId} {v : Value} {d : DataW H} {p : List MemPlace} (ht : P.underlying t = some .bool) (hv : OkW P w b0 t v) (h : DataW.Trod enc P w base spare held t v d p) :
    ∃ a : Bool, v = .bool a ∧ d = .lit (.bool a) ∧ p = [] := open_bool ht hv.out h
theorem q_string {b0 : Nat} {t : TypeId} {v : Value} {d : DataW H} {p : List MemPlace} (ht : P.underlying t = some .string) (hv : OkW P w b0 t v) (h : DataW.Trod enc P w base spare held t v d p) :
    ∃ s : ByteArray, v = .string s ∧ d = .lit (.string s.data.toList) ∧ p = [] ∧ s.size ≤ maxLen := Go.ChangeMaps.open_string ht hv.out h
theorem q_slice {b0 : Nat} {t e : TypeId} {v : Value} (ht : P.underlying t = some (.slice e)) (hv : OkW P w b0 t v) : ∃ a len cap, v = .slice a len cap := okWide_slice ht hv.out
theorem q_struct {b0 : Nat} {t : TypeId} {fs : Array Field} {v : Value} {d : DataW H} {p : List MemPlace} (hs : P.underlying t = some (.struct fs)) (hone : oneCellFields P fs = true) (hC : P.cellsOf t = fs.size)
    (hv : OkW P w b0 t v) (h : DataW.Trod enc P w base spare held t v d p) :
    ∃ l : List Value, v = .agg l.toArray ∧ l.length = fs.size ∧ ∀ (j : Nat) (f : Field), fs[j]? = some f → ∃ (u : Value) (n : Nat) (y : DataW H × List MemPlace), l[j]? = some u ∧ DataW.trod enc P w base spare held n f.type [u] = some y := open_struct hs hone hC hv.out h
theorem q_array_int {b0 n : Nat} {t e : TypeId} {k : IntKind} {v : Value} {d : DataW H} {p : List MemPlace} (ht : P.underlying t = some (.array n e)) (he : P.underlying e = some (.int k)) (hce : P.cellsOf e = 1) (hC : P.cellsOf t = n)
    (hv : OkW P w b0 t v) (h : DataW.Trod enc P w base spare held t v d p) :
    ∃ l : List Int, v = .agg (l.map (Value.int k)).toArray ∧ l.length = n ∧ ∀ x ∈ l, (Lit.int k x).wf = true := open_array_int ht he hce hC hv.out h
end
end Go.Proofs.YtbjffjbohpoedaaDoor.MyOpen
