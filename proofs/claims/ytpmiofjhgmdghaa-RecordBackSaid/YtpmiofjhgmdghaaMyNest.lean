/- Words of mine: a struct that came in by value whose fields are structs too, opened to its cells. -/
import Derived.Test.YtpmiofjhgmdghaaMyOpen
namespace Go.Proofs.Ytpmiofjhgmdghaa.MyOpen
open Go.Joins Go.ChangeShapes Go.WideShapes Go.RowKit Go.Deep
section
variable {H : Type} {enc : TypeId × Value → H} {P : Program} {w : World} {base : Nat} {spare : Nat → Bool} {held : Bool}
/-- what is told of cells at a place, of a type -/
def CellsAt (enc : TypeId × Value → H) (P : Program) (w : World) (base : Nat) (spare : Nat → Bool) (held : Bool) (t : TypeId) (cs : List Value) : Prop :=
  ∃ (m : Nat) (y : DataW H × List MemPlace), DataW.trod enc P w base spare held m t cs = some y
theorem cells_struct {b0 n : Nat} {t : TypeId} {fs : Array Field} {v : Value} {d : DataW H} {p : List MemPlace} (hs : P.underlying t = some (.struct fs)) (hC : P.cellsOf t = n) (hv : OkW P w b0 t v) (h : DataW.Trod enc P w base spare held t v d p) :
    ∃ l : List Value, v = .agg l.toArray ∧ l.length = n ∧ CellsAt enc P w base spare held t l := by
  obtain ⟨cs, rfl, hsz⟩ := okWide_struct hs hv.out
  obtain ⟨l⟩ := cs
  obtain ⟨fuel, hf⟩ := h
  exact ⟨l, rfl, hsz.trans hC, fuel, _, hf⟩
theorem cells_field {t : TypeId} {fs : Array Field} {cs : List Value} (h : CellsAt enc P w base spare held t cs) (hs : P.underlying t = some (.struct fs)) (j : Nat) (ft : TypeId) (off k : Nat)
    (hf : (fs[j]?).map (fun f => (f.type, f.offset)) = some (ft, off)) (hk : P.cellsOf ft = k) : CellsAt enc P w base spare held ft ((cs.drop off).take k) := by
  obtain ⟨m, y, h⟩ := h
  obtain ⟨xs, n, _, _, _, hlen, hg⟩ := DataW.trod_struct hs h
  cases hj : fs[j]? with
  | none => rw [hj] at hf; cases hf
  | some f =>
    rw [hj] at hf
    have e := Option.some.inj hf
    simp only [Prod.mk.injEq] at e
    obtain ⟨rfl, rfl⟩ := e
    subst hk
    have hjl : j < fs.size := (Array.getElem?_eq_some_iff.1 hj).1
    exact ⟨n, xs[j]'(by omega), (hg j f hj).trans (List.getElem?_eq_getElem (by omega))⟩
theorem cells_int {t : TypeId} {k : IntKind} {c : Value} (h : CellsAt enc P w base spare held t [c]) (ht : P.underlying t = some (.int k)) : ∃ a : Int, c = .int k a ∧ (Lit.int k a).wf = true := by
  obtain ⟨m, y, h⟩ := h
  obtain ⟨a, e, _, hw⟩ := DataW.trod_int ht h
  exact ⟨a, (List.cons.inj e).1, hw⟩
end
end Go.Proofs.Ytpmiofjhgmdghaa.MyOpen
