/- Package extra: what fields are as bytes, what bytes are as fields; plain. And words: an element read whole, a box. -/
import Derived.Test.YtfnihlndaenkhaaFieldRS
import Derived.Test.YtfnihlndaenkhaaFieldCur1
import Derived.Test.YtfnihlndaenkhaaEXx2
import Derived.Deep.MidRow
namespace Go.Proofs.Ytfnihlndaenkhaa.Fld
open Go.Proofs.Ytfnihlndaenkhaa.EX
open Go.RowKit Go.Proofs.YtfnihlndaenkhaaW.PrintWords Go.Proofs.YtfnihlndaenkhaaW.PrintLast Go.Proofs.YtfnihlndaenkhaaW.PrintMore
set_option linter.unusedVariables false
set_option linter.unusedSimpArgs false
abbrev FT := S27
/-- one field as bytes -/
def fb (x : FT) : List Int := le x.f0 2 ++ (le (x.f1.length : Int) 2 ++ x.f1)
def catF (X : List FT) (i : Nat) : List Int := (X.take i).flatMap fb
def okF (x : FT) : Bool := decide (0 ≤ x.f0) && (decide (x.f0 ≤ 65535) && decide (x.f1.length ≤ 65535))
def okA (X : List FT) (i : Nat) : Bool := (X.take i).all okF
def wrOk (X : List FT) : Bool := okA X X.length && decide ((catF X X.length).length ≤ 65535)
def wrL (X : List FT) : List Int := if wrOk X = true then catF X X.length else []
def wrE (X : List FT) : Int := if wrOk X = true then 0 else 18
def stF (s : List Int × Int) (x : FT) : List Int × Int := stPut (st16 (st16 s x.f0) (x.f1.length : Int)) x.f1
def foldF (X : List FT) (i : Nat) : List Int × Int := (X.take i).foldl stF ([], 0)
def szF (X : List FT) (i : Nat) : Nat := ((X.take i).map fun x => 2 + 2 + x.f1.length).sum
theorem take_one (X : List FT) (i : Nat) (h : i < X.length) : X.take (i + 1) = X.take i ++ [X[i]] := by
  rw [List.take_add_one, List.getElem?_eq_getElem h]; rfl
theorem catF_succ (X : List FT) (i : Nat) (h : i < X.length) : catF X (i + 1) = catF X i ++ fb X[i] := by
  unfold catF; rw [take_one X i h, List.flatMap_append]; simp
theorem foldF_succ (X : List FT) (i : Nat) (h : i < X.length) : foldF X (i + 1) = stF (foldF X i) X[i] := by
  unfold foldF; rw [take_one X i h, List.foldl_append]; rfl
theorem szF_succ (X : List FT) (i : Nat) (h : i < X.length) : szF X (i + 1) = szF X i + 2 + 2 + X[i].f1.length := by
  unfold szF; rw [take_one X i h, List.map_append, List.sum_append]; simp; omega
theorem okA_succ (X : List FT) (i : Nat) (h : i < X.length) : okA X (i + 1) = (okA X i && okF X[i]) := by
  unfold okA; rw [take_one X i h, List.all_append]; simp
theorem szF_mono (X : List FT) (i j : Nat) (h : i ≤ j) : szF X i ≤ szF X j := by
  unfold szF
  induction X generalizing i j with
  | nil => simp
  | cons x X ih =>
    cases i with
    | zero => simp
    | succ i =>
      cases j with
      | zero => omega
      | succ j => simp only [List.take_succ_cons, List.map_cons, List.sum_cons]; have := ih i j (by omega); omega
theorem fb_len (x : FT) : (fb x).length = 2 + 2 + x.f1.length := by
  unfold fb; rw [List.length_append, List.length_append, le_length, le_length]; omega
theorem catF_len (X : List FT) (i : Nat) : (catF X i).length = szF X i := by
  unfold catF szF
  rw [List.length_flatMap]
  congr 1
  exact List.map_congr_left (fun x _ => fb_len x)
theorem okF_iff (x : FT) : okF x = true ↔ (0 ≤ x.f0 ∧ x.f0 ≤ 65535 ∧ x.f1.length ≤ 65535) := by simp [okF]
theorem st_bad (L : List Int) (x : FT) : stF (L, 18) x = (L, 18) := by
  simp [stF, stPut, st16, putL, u16L, u16E]
theorem st_ok (L : List Int) (x : FT) (h : okF x = true) : stF (L, 0) x = (L ++ fb x, 0) := by
  obtain ⟨h0, h1, h2⟩ := (okF_iff x).1 h
  have h3 : (0 : Int) ≤ (x.f1.length : Int) ∧ (x.f1.length : Int) ≤ 65535 := by omega
  simp [stF, stPut, st16, putL, u16L, u16E, fb, h0, h1, h3]
theorem st_not (L : List Int) (x : FT) (h : okF x = false) : (stF (L, 0) x).2 = 18 := by
  have h' : ¬ (0 ≤ x.f0 ∧ x.f0 ≤ 65535 ∧ x.f1.length ≤ 65535) := fun h2 => by rw [(okF_iff x).2 h2] at h; cases h
  unfold stF st16 stPut u16E
  by_cases c : 0 ≤ x.f0 ∧ x.f0 ≤ 65535
  · have c2 : ¬ ((x.f1.length : Int) ≤ 65535) := fun h2 => h' ⟨c.1, c.2, by omega⟩
    simp [c, c2]
  · simp [c]
theorem fold_two (X : List FT) (i : Nat) (h : i ≤ X.length) : (okA X i = true ∧ foldF X i = (catF X i, 0)) ∨ (okA X i = false ∧ (foldF X i).2 = 18) := by
  induction i with
  | zero => exact .inl ⟨by simp [okA], rfl⟩
  | succ i ih =>
    rw [okA_succ X i (by omega), foldF_succ X i (by omega), catF_succ X i (by omega)]
    rcases ih (by omega) with ⟨h1, h2⟩ | ⟨h1, h2⟩
    · rw [h2]
      cases hx : okF (X[i]'(by omega)) with
      | true => exact .inl ⟨by rw [h1]; rfl, st_ok _ _ hx⟩
      | false => exact .inr ⟨by rw [h1]; rfl, st_not _ _ hx⟩
    · obtain ⟨L, e⟩ : ∃ L, foldF X i = (L, 18) := ⟨(foldF X i).1, by rw [← h2]⟩
      rw [e, st_bad]
      exact .inr ⟨by rw [h1]; rfl, rfl⟩
/-- bytes as fields -/
def rdF : Nat → List Int → List FT → List FT × Int
  | 0, _, acc => (acc, 0)
  | k + 1, r, acc => if r.length = 0 then (acc, 0) else if r.length < 4 then ([], 3) else if (r.length : Int) - 4 < num ((r.drop 2).take 2) then ([], 3) else
      rdF k (r.drop (4 + (num ((r.drop 2).take 2)).toNat)) (acc ++ [⟨num (r.take 2), (r.drop 4).take (num ((r.drop 2).take 2)).toNat⟩])
def rdA (b : List Int) : List FT × Int := rdF (b.length + 1) b []
section
variable {P : Program}
/-- a struct read whole, wherever it lies -/
theorem run_load_any (w : World) (ad : Addr) (ty : TypeId) (cs : List Value) (d : TypeDesc) (hc : ∀ j v, cs[j]? = some v → w.cell? (ad.add j) = some v)
    (hu : P.underlying ty = some d) (hd : d.isRow = true) (hi : (P.info? ty).map (·.size) = some cs.length) :
    (loadVar ty ad).run P w = .ok (.agg cs.toArray) w := by
  have hl : (loadCells ad cs.length).run P w = .ok cs.toArray w := run_loadCells_list (P := P) w ad cs hc
  cases hq : P.info? ty with
  | none => simp [hq] at hi
  | some i =>
    have hs : i.size = cs.length := by simpa [hq] using hi
    have hagg : (isAgg ty).run P w = .ok true w := by
      unfold isAgg
      rw [Sem.run_bind, run_underlying hu w]
      cases d <;> simp_all
    simp [loadVar, Sem.run_bind, hagg, sizeOf, typeInfo, hq, hs, hl]
theorem wpList_load_any {ops : Array Oper} {rest : List Oper} {op : Oper} {a : Act} {w : World} {Q : Exit → Act → World → Prop} (hgd : op.guard = none) (ty : TypeId) (x : Operand) (ho : op.op = .load ty x)
    (ad : Addr) (hx : a.eval x = .pointer (some ad)) (cs : List Value) (d : TypeDesc) (hc : ∀ j v, cs[j]? = some v → w.cell? (ad.add j) = some v)
    (hu : P.underlying ty = some d) (hd : d.isRow = true) (hi : (P.info? ty).map (·.size) = some cs.length)
    (h : wpList P ops Q rest (a.put op.dst (.agg cs.toArray)) w) : wpList P ops Q (op :: rest) a w := by
  refine wpList_plain hgd fun _ hK => ?_
  unfold Oper.wp execOp
  simp only [ho, hx, Instr.loadAt, Instr.sureAddr, Sem.run_bind, Sem.run_pure, Result.andThen_ok, run_load_any w ad ty cs d hc hu hd hi]
  exact hK _ _ h
/-- a new box is filled: its world is a letter -/
theorem wpList_box {ops : Array Oper} {rest : List Oper} {o : Oper} {a : Act} {W : World} {Q : Exit → Act → World → Prop} (hgd : o.guard = none) (ty : TypeId) (x y : Operand) (ho : o.op = .store ty x y)
    (cells old : Array Value) (t : TypeId) (hx : a.eval x = .pointer (some ⟨W.heap.size, 0, none⟩)) (hy : a.eval y = .agg cells) (hi : (P.info? ty).map (·.size) = some cells.size)
    (hold : old.size = cells.size) (h1 : cells.all (·.oneCell') = true)
    (h : ∀ W' : World, W'.heap[W.heap.size]? = some (.cells cells t (0, 0)) → Below W.heap.size W W' → wpList P ops Q rest (a.put o.dst undef) W') : wpList P ops Q (o :: rest) a (W.alloc (.cells old t)) := by
  refine wpList_store_row hgd ty x y ho W.heap.size cells hx hy t old (heap_alloc_new W _) hi hold h1 (h _ ?_ ?_)
  · exact setRow_heap (W.alloc (.cells old t)) W.heap.size old cells t (0, 0) (heap_alloc_new W _)
  · have hb : Below W.heap.size W (W.alloc (.cells old t)) := below_alloc (Below.refl _ _) _
    refine ⟨rfl, rfl, rfl, by simp [World.setRow], fun k hk => ?_⟩
    rw [← hb.block k hk]
    simp only [World.setRow, Array.getElem?_modify]
    rw [if_neg (by omega)]
end
end Go.Proofs.Ytfnihlndaenkhaa.Fld
