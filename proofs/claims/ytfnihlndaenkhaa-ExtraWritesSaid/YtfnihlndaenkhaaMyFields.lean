/- Words of mine: a slice of structs with a slice of bytes in each that came in, opened: it reads as a list of tuples. -/
import Derived.Test.YtfnihlndaenkhaaWMore
import Derived.Test.YtfnihlndaenkhaaMyOpen
import Derived.Deep.Slices
import Derived.Deep.Fields
import Derived.ChangeSame
namespace Go.Proofs.Ytfnihlndaenkhaa.MyOpen
open Go.Joins Go.ChangeShapes Go.WideShapes Go.RowKit Go.Deep Go.Proofs.YtfnihlndaenkhaaW.PrintWords Go.Proofs.YtfnihlndaenkhaaW.PrintLast Go.Proofs.YtfnihlndaenkhaaW.PrintMore
section
variable {H : Type} {enc : TypeId × Value → H} {P : Program} {w : World} {base : Nat} {held : Bool}
theorem open_slice_each {t e : TypeId} {fs : Array Field} {fuel : Nat} {cs : List Value} {x : DataW H × List MemPlace} {spare : Nat → Bool} (ht : P.underlying t = some (.slice e)) (he : P.underlying e = some (.struct fs))
    (hone : oneCellFields P fs = true) (hC : P.cellsOf e = fs.size) (h : DataW.trod enc P w base spare held fuel t cs = some x) :
    cs = [.slice none 0 0] ∨
    ∃ (a : Addr) (len cap : Nat), cs = [.slice (some a) len cap] ∧ len ≤ cap ∧ cap ≤ maxLen ∧
      ∀ i, i < len → ∃ n : Nat, ∀ (j : Nat) (f : Field), fs[j]? = some f → ∃ (v : Value) (y : DataW H × List MemPlace), w.cell? (a.add (i * fs.size + j)) = some v ∧ DataW.trod enc P w base spare held n f.type [v] = some y := by
  rcases open_slice ht h with ⟨h0, _⟩ | ⟨a, len, cap, m, n, D, Pl, hcs, hb, hl, hm, hmm, hx, hi⟩
  · exact .inl h0
  · refine .inr ⟨a, len, cap, hcs, hl, hm, fun i him => ?_⟩
    obtain ⟨cs', hc, ht'⟩ := hi i (by rw [hmm]; split <;> omega)
    rw [hC] at hc
    obtain ⟨ys, n', hn', hy, hlen, hyl, hf⟩ := DataW.trod_struct he ht'
    obtain ⟨_, hcl, hat⟩ := World.cells?_some hc
    refine ⟨n', fun j f hj => ?_⟩
    obtain ⟨ho, hk⟩ := hone_of hone j f hj
    have hjl : j < fs.size := (Array.getElem?_eq_some_iff.1 hj).1
    have hcell := hat j hjl
    have hv : cs'[j]? = some (cs'[j]'(by omega)) := List.getElem?_eq_getElem (by omega)
    have h1 := hf j f hj
    rw [ho, hk] at h1
    have hone' : (cs'.drop j).take 1 = [cs'[j]'(by omega)] := by
      rw [List.drop_eq_getElem_cons (by omega)]
      rfl
    rw [hone'] at h1
    have hys : ys[j]? = some (ys[j]'(by omega)) := List.getElem?_eq_getElem (by omega)
    refine ⟨_, _, ?_, h1.trans hys⟩
    rw [← Go.Deep.add_add, hcell, hv]
theorem kd_each {α : Type} (d : Kd α) (Good : α → Prop) (z : α) {a : Addr} {l0 : Nat} (hm : l0 ≤ maxLen)
    (hx : ∀ i, i < l0 → ∃ x cs, d.K w x cs ∧ (∀ j u, cs[j]? = some u → w.cell? (a.add (i * d.sz + j)) = some u) ∧ Good x) :
    ∃ X : List α, X.length = l0 ∧ Kd.C d w (some a) l0 X ∧ ∀ x ∈ X, Good x := by
  haveI : Inhabited α := ⟨z⟩
  obtain ⟨f, hf⟩ := choose_lt hx
  have hlen : ((List.range l0).map f).length = l0 := by simp
  refine ⟨(List.range l0).map f, hlen, ⟨hlen, by unfold maxLen at hm; omega, fun hn => ⟨a, rfl, fun j xs hj => ?_⟩⟩, fun x hx' => ?_⟩
  · have hjl : j < l0 := by
      have := (List.getElem?_eq_some_iff.1 hj).1
      simpa using this
    have hxs : f j = xs := by
      rw [List.getElem?_map, List.getElem?_range hjl] at hj
      exact Option.some.inj hj
    subst hxs
    obtain ⟨cs, h1, h2, _⟩ := hf j hjl
    exact ⟨cs, d.K_len h1, h1, h2⟩
  · obtain ⟨j, hj, rfl⟩ := List.mem_map.1 hx'
    obtain ⟨_, _, _, h3⟩ := hf j (List.mem_range.1 hj)
    exact h3
theorem open_bytes_cell {t e : TypeId} {k : IntKind} {n : Nat} {v : Value} {y : DataW H × List MemPlace} (ht : P.underlying t = some (.slice e)) (he : P.underlying e = some (.int k)) (hc : P.cellsOf e = 1)
    (h : DataW.trod enc P w base (fun _ => true) held n t [v] = some y) :
    ∃ (A : Option Addr) (c : Nat) (bs : List Int), v = .slice A bs.length c ∧ bs.length ≤ c ∧ Kd.C (Kd.int k) w A bs.length bs ∧ ∀ x ∈ bs, (Lit.int k x).wf = true := by
  obtain ⟨A, len, cap, zs, rfl, hw⟩ : ∃ A len cap zs, v = .slice A len cap ∧ ((A = none ∧ len = 0 ∧ cap = 0 ∧ zs = []) ∨ ∃ x, A = some x ∧ len ≤ cap ∧ cap ≤ maxLen ∧ zs.length = cap ∧ (∀ i, i < zs.length → w.cell? (x.add i) = some (.int k (zs.getD i 0))) ∧ ∀ n ∈ zs, (Lit.int k n).wf = true) := by
    rcases open_ints ht he hc h with ⟨hcs, _⟩ | ⟨x, l, c, zs, hcs, _, hl, hm, hz, _, hcell, hwz⟩
    · exact ⟨none, 0, 0, [], by simpa using hcs, .inl ⟨rfl, rfl, rfl, rfl⟩⟩
    · exact ⟨some x, l, c, zs, by simpa using hcs, .inr ⟨x, rfl, hl, hm, hz, hcell, hwz⟩⟩
  obtain ⟨l, rfl, hr, hm, hwf, hc⟩ := ReadsInt.ofRowC hw
  exact ⟨A, cap, l, rfl, hc, Kd.C_of_reads (d := (0 : Int)) (h1 := fun _ => rfl) hr, hwf⟩
/-- whole number, whole number, number of 32 bits, bytes -/
def KW (e : Nat) : Kd (Int × Int × Int × List Int) := Kd.pair (Kd.int .i64) (Kd.pair (Kd.int .i64) (Kd.pair (Kd.int .u32) (Kd.slice e (Kd.int .u8))))
theorem KW_sz (e : Nat) : (KW e).sz = 4 := rfl
def GoodW (x : Int × Int × Int × List Int) : Prop := (Lit.int .i64 x.1).wf = true ∧ (Lit.int .i64 x.2.1).wf = true ∧ (Lit.int .u32 x.2.2.1).wf = true ∧ ∀ b ∈ x.2.2.2, (Lit.int .u8 b).wf = true
theorem open_writes {t e q : TypeId} {f0 f1 f2 f3 : Field} {v : Value} {d : DataW H} {p : List MemPlace} (ht : P.underlying t = some (.slice e)) (he : P.underlying e = some (.struct #[f0, f1, f2, f3]))
    (hone : oneCellFields P #[f0, f1, f2, f3] = true) (hC : P.cellsOf e = 4) (u0 : P.underlying f0.type = some (.int .i64)) (u1 : P.underlying f1.type = some (.int .i64)) (u2 : P.underlying f2.type = some (.int .u32))
    (u3 : P.underlying f3.type = some (.slice q)) (uq : P.underlying q = some (.int .u8)) (cq : P.cellsOf q = 1)
    (h : DataW.Trod enc P w base (fun _ => true) held t v d p) (hv : ∃ a l c, v = .slice a l c) :
    ∃ (A : Option Addr) (c : Nat) (X : List (Int × Int × Int × List Int)), v = .slice A X.length c ∧ Kd.C (KW q) w A X.length X ∧ X.length ≤ c ∧ X.length ≤ maxLen ∧ ∀ x ∈ X, GoodW x := by
  obtain ⟨a0, l0, c0, rfl⟩ := hv
  obtain ⟨fuel, hf⟩ := h
  rcases open_slice_each ht he hone (by rw [hC]; rfl) hf with hcs | ⟨a, len, cap, hcs, hl, hm, hx⟩
  · simp [Value.cells] at hcs
    obtain ⟨rfl, rfl, rfl⟩ := hcs
    exact ⟨none, 0, [], rfl, ⟨rfl, by simp, fun h => absurd h (by simp)⟩, by simp, by simp, by simp⟩
  · simp [Value.cells] at hcs
    obtain ⟨rfl, rfl, rfl⟩ := hcs
    obtain ⟨X, rfl, hXC, hG⟩ := kd_each (KW q) GoodW ((0 : Int), (0 : Int), (0 : Int), ([] : List Int)) (a := a) (l0 := l0) (w := w) (by omega) (fun i hi => by
      obtain ⟨n, hn⟩ := hx i hi
      obtain ⟨v0, y0, c0, t0⟩ := hn 0 f0 rfl
      obtain ⟨v1, y1, c1, t1⟩ := hn 1 f1 rfl
      obtain ⟨v2, y2, c2, t2⟩ := hn 2 f2 rfl
      obtain ⟨v3, y3, c3, t3⟩ := hn 3 f3 rfl
      obtain ⟨x0, hx0, _, w0⟩ := DataW.trod_int u0 t0
      obtain rfl := (List.cons.inj hx0).1
      obtain ⟨x1, hx1, _, w1⟩ := DataW.trod_int u1 t1
      obtain rfl := (List.cons.inj hx1).1
      obtain ⟨x2, hx2, _, w2⟩ := DataW.trod_int u2 t2
      obtain rfl := (List.cons.inj hx2).1
      obtain ⟨A, cc, bs, rfl, hlc, hCC, hwf⟩ := open_bytes_cell u3 uq cq t3
      refine ⟨(x0, x1, x2, bs), [.int .i64 x0, .int .i64 x1, .int .u32 x2, .slice A bs.length cc], ⟨[.int .i64 x0], [.int .i64 x1, .int .u32 x2, .slice A bs.length cc], rfl, rfl, [.int .i64 x1], [.int .u32 x2, .slice A bs.length cc], rfl, rfl, [.int .u32 x2], [.slice A bs.length cc], rfl, rfl, A, cc, rfl, hlc, hCC⟩, fun j u hu => ?_, w0, w1, w2, hwf⟩
      match j, hu with
      | 0, hu => obtain rfl : _ = u := by simpa using hu
                 exact c0
      | 1, hu => obtain rfl : _ = u := by simpa using hu
                 exact c1
      | 2, hu => obtain rfl : _ = u := by simpa using hu
                 exact c2
      | 3, hu => obtain rfl : _ = u := by simpa using hu
                 exact c3
      | j + 4, hu => simp at hu)
    exact ⟨some a, c0, X, rfl, hXC, by omega, by omega, hG⟩
/-- whole number, bytes -/
def KF (e : Nat) : Kd (Int × List Int) := Kd.pair (Kd.int .i64) (Kd.slice e (Kd.int .u8))
def GoodF (x : Int × List Int) : Prop := (Lit.int .i64 x.1).wf = true ∧ ∀ b ∈ x.2, (Lit.int .u8 b).wf = true
theorem open_fields {t e q : TypeId} {f0 f1 : Field} {v : Value} {d : DataW H} {p : List MemPlace} (ht : P.underlying t = some (.slice e)) (he : P.underlying e = some (.struct #[f0, f1]))
    (hone : oneCellFields P #[f0, f1] = true) (hC : P.cellsOf e = 2) (u0 : P.underlying f0.type = some (.int .i64))
    (u3 : P.underlying f1.type = some (.slice q)) (uq : P.underlying q = some (.int .u8)) (cq : P.cellsOf q = 1)
    (h : DataW.Trod enc P w base (fun _ => true) held t v d p) (hv : ∃ a l c, v = .slice a l c) :
    ∃ (A : Option Addr) (c : Nat) (X : List (Int × List Int)), v = .slice A X.length c ∧ Kd.C (KF q) w A X.length X ∧ X.length ≤ c ∧ X.length ≤ maxLen ∧ ∀ x ∈ X, GoodF x := by
  obtain ⟨a0, l0, c0, rfl⟩ := hv
  obtain ⟨fuel, hf⟩ := h
  rcases open_slice_each ht he hone (by rw [hC]; rfl) hf with hcs | ⟨a, len, cap, hcs, hl, hm, hx⟩
  · simp [Value.cells] at hcs
    obtain ⟨rfl, rfl, rfl⟩ := hcs
    exact ⟨none, 0, [], rfl, ⟨rfl, by simp, fun h => absurd h (by simp)⟩, by simp, by simp, by simp⟩
  · simp [Value.cells] at hcs
    obtain ⟨rfl, rfl, rfl⟩ := hcs
    obtain ⟨X, rfl, hXC, hG⟩ := kd_each (KF q) GoodF ((0 : Int), ([] : List Int)) (a := a) (l0 := l0) (w := w) (by omega) (fun i hi => by
      obtain ⟨n, hn⟩ := hx i hi
      obtain ⟨v0, y0, c0, t0⟩ := hn 0 f0 rfl
      obtain ⟨v3, y3, c3, t3⟩ := hn 1 f1 rfl
      obtain ⟨x0, hx0, _, w0⟩ := DataW.trod_int u0 t0
      obtain rfl := (List.cons.inj hx0).1
      obtain ⟨A, cc, bs, rfl, hlc, hCC, hwf⟩ := open_bytes_cell u3 uq cq t3
      refine ⟨(x0, bs), [.int .i64 x0, .slice A bs.length cc], ⟨[.int .i64 x0], [.slice A bs.length cc], rfl, rfl, A, cc, rfl, hlc, hCC⟩, fun j u hu => ?_, w0, hwf⟩
      match j, hu with
      | 0, hu => obtain rfl : _ = u := by simpa using hu
                 exact c0
      | 1, hu => obtain rfl : _ = u := by simpa using hu
                 exact c3
      | j + 2, hu => simp at hu)
    exact ⟨some a, c0, X, rfl, hXC, by omega, by omega, hG⟩
/-- an element's cells -/
theorem writes_at {q : Nat} {A : Option Addr} {X : List (Int × Int × Int × List Int)} (h : Kd.C (KW q) w A X.length X) (k : Nat) (hk : k < X.length) :
    ∃ ad A3 c3, A = some ad ∧ w.cell? (ad.add (k * 4)) = some (.int .i64 X[k].1) ∧ w.cell? ⟨(ad.add (k * 4)).block, (ad.add (k * 4)).off + 1, none⟩ = some (.int .i64 X[k].2.1) ∧ w.cell? ⟨(ad.add (k * 4)).block, (ad.add (k * 4)).off + 2, none⟩ = some (.int .u32 X[k].2.2.1) ∧
      w.cell? ⟨(ad.add (k * 4)).block, (ad.add (k * 4)).off + 3, none⟩ = some (.slice A3 X[k].2.2.2.length c3) ∧ X[k].2.2.2.length ≤ c3 ∧ Kd.C (Kd.int .u8) w A3 X[k].2.2.2.length X[k].2.2.2 := by
  obtain ⟨ad, c, e, _, hK, hc0⟩ := Kd.C_get h ((0 : Int), (0 : Int), (0 : Int), ([] : List Int)) (k : Int) (by omega) (by omega)
  rw [Int.toNat_natCast] at hK hc0
  have hc : ∀ j u, c[j]? = some u → w.cell? (ad.add (k * 4 + j)) = some u := hc0
  have hx : X.getD k ((0 : Int), (0 : Int), (0 : Int), ([] : List Int)) = X[k] := by simp [List.getD, hk]
  rw [hx] at hK
  obtain ⟨_, _, rfl, h0, ⟨_, _, rfl, h1, ⟨_, _, rfl, h2, ⟨A3, c3, rfl, l3, g3⟩⟩⟩⟩ := hK
  obtain rfl : _ = [Value.int .i64 X[k].1] := h0
  obtain rfl : _ = [Value.int .i64 X[k].2.1] := h1
  obtain rfl : _ = [Value.int .u32 X[k].2.2.1] := h2
  exact ⟨ad, A3, c3, e, hc 0 _ rfl, by rw [← add_field _ _ 1 (by omega)]; exact hc 1 _ rfl, by rw [← add_field _ _ 2 (by omega)]; exact hc 2 _ rfl, by rw [← add_field _ _ 3 (by omega)]; exact hc 3 _ rfl, l3, g3⟩
theorem fields_at {q : Nat} {A : Option Addr} {X : List (Int × List Int)} (h : Kd.C (KF q) w A X.length X) (k : Nat) (hk : k < X.length) :
    ∃ ad A3 c3, A = some ad ∧ w.cell? (ad.add (k * 2)) = some (.int .i64 X[k].1) ∧
      w.cell? ⟨(ad.add (k * 2)).block, (ad.add (k * 2)).off + 1, none⟩ = some (.slice A3 X[k].2.length c3) ∧ X[k].2.length ≤ c3 ∧ Kd.C (Kd.int .u8) w A3 X[k].2.length X[k].2 := by
  obtain ⟨ad, c, e, _, hK, hc0⟩ := Kd.C_get h ((0 : Int), ([] : List Int)) (k : Int) (by omega) (by omega)
  rw [Int.toNat_natCast] at hK hc0
  have hc : ∀ j u, c[j]? = some u → w.cell? (ad.add (k * 2 + j)) = some u := hc0
  have hx : X.getD k ((0 : Int), ([] : List Int)) = X[k] := by simp [List.getD, hk]
  rw [hx] at hK
  obtain ⟨_, _, rfl, h0, ⟨A3, c3, rfl, l3, g3⟩⟩ := hK
  obtain rfl : _ = [Value.int .i64 X[k].1] := h0
  exact ⟨ad, A3, c3, e, hc 0 _ rfl, by rw [← add_field _ _ 1 (by omega)]; exact hc 1 _ rfl, l3, g3⟩
end
end Go.Proofs.Ytfnihlndaenkhaa.MyOpen
