/- probe.set.add, walked. -/
import Derived.Test.YtbbmcfbfkpnelaaProbeTwins0
import Derived.Test.YtbbmcfbfkpnelaaWWords
import Derived.Test.YtbbmcfbfkpnelaaWLast
import Derived.Maps.OwnSet
import Derived.RowKit
import Derived.WideMake
import Derived.Laws.Cover3
import Derived.Laws.Cells
namespace Go.Proofs.Ytbbmcfbfkpnelaa.Twins
open Go.RowKit Go.Proofs.YtbbmcfbfkpnelaaW.PrintWords Go.Proofs.YtbbmcfbfkpnelaaW.PrintLast
section
variable (w : World) {ops : Array Oper} {rest : List Oper} {o : Oper} {a : Act} {Q : Exit → Act → World → Prop}
theorem wpList_mk3 (hg : o.guard = none) (t : TypeId) (hop : o.op = Op.makeMap t none)
    (hK : wpList Try.prog ops Q rest (a.put o.dst (.map (some w.heap.size))) (w.alloc (.map #[] 0))) : wpList Try.prog ops Q (o :: rest) a w := by
  refine wpList_plain hg fun K' hK' => ?_
  unfold Oper.wp
  simp [execOp, hop, run_makeMap_plain, Result.andThen]
  exact hK' _ _ hK
theorem wpList_load3 (hg : o.guard = none) (x : Operand) (ho : o.op = .load 46 x) (ad : Addr) (hx : a.eval x = .pointer (some ad)) (s : Tri)
    (h0 : w.cell? (ad.add 0) = some (.int .u8 s.1)) (h1 : w.cell? (ad.add 1) = some (.int .u8 s.2.1)) (h2 : w.cell? (ad.add 2) = some (.int .u8 s.2.2))
    (hK : wpList Try.prog ops Q rest (a.put o.dst (key s)) w) : wpList Try.prog ops Q (o :: rest) a w := by
  refine wpList_plain hg fun K' hK' => ?_
  have hl : (loadCells ad 3).run Try.prog w = .ok #[.int .u8 s.1, .int .u8 s.2.1, .int .u8 s.2.2] w :=
    run_loadCells_list (P := Try.prog) w ad [.int .u8 s.1, .int .u8 s.2.1, .int .u8 s.2.2] (fun j v hv => by
      rcases (show j = 0 ∨ j = 1 ∨ j = 2 ∨ 3 ≤ j by omega) with rfl | rfl | rfl | hj
      · obtain rfl := Option.some.inj hv; exact h0
      · obtain rfl := Option.some.inj hv; exact h1
      · obtain rfl := Option.some.inj hv; exact h2
      · rw [List.getElem?_eq_none (by simpa using hj)] at hv; cases hv)
  have hv : (loadVar 46 ad).run Try.prog w = .ok (key s) w := by
    have a3 := Try.isAgg46
    have z3 := Try.sizeOf46
    simp [loadVar, Sem.run_bind, a3, z3, hl, key]
  unfold Oper.wp execOp
  simp only [ho, hx, Instr.loadAt, Instr.sureAddr, Sem.run_bind, Sem.run_pure, Result.andThen_ok, hv]
  exact hK' _ _ hK
theorem wpList_arr3 (hg : o.guard = none) (x : Operand) (ho : o.op = .sliceToArrayPointer 46 x) (A : Option Addr) (n c : Nat) (hn : 3 ≤ n) (hx : a.eval x = .slice A n c)
    (hK : wpList Try.prog ops Q rest (a.put o.dst (.pointer A)) w) : wpList Try.prog ops Q (o :: rest) a w := by
  refine wpList_plain hg fun K' hK' => ?_
  unfold Oper.wp execOp
  simp only [ho, hx, Sem.run_bind, run_arrayAt w 46 5 3 A n c Try.underlying46 hn, Result.andThen_ok, Sem.run_pure]
  exact hK' _ _ hK
theorem wpList_look3 (hg : o.guard = none) (m x : Operand) (hop : o.op = Op.lookup 44 m x false) (b : Nat) {es : Array MapEntry} {clock : Nat} {ts : List Tri}
    (hb : w.heap[b]? = some (.map es clock)) (h : Holds es.toList ts) (s : Tri) (hm : a.eval m = .map (some b)) (hx : a.eval x = key s)
    (hK : wpList Try.prog ops Q rest (a.put o.dst (.bool (decide (s ∈ ts)))) w) : wpList Try.prog ops Q (o :: rest) a w := by
  refine wpList_plain hg fun K' hK' => ?_
  unfold Oper.wp
  simp [execOp, hop, hm, hx, look b w hb h s, Result.andThen]
  exact hK' _ _ (by simpa using hK)
theorem wpList_put3 (hg : o.guard = none) (m x v : Operand) (hop : o.op = Op.mapUpdate 44 m x v) (b : Nat) {es : Array MapEntry} {clock : Nat} {ts : List Tri}
    (hb : w.heap[b]? = some (.map es clock)) (h : Holds es.toList ts) (s : Tri) (hm : a.eval m = .map (some b)) (hx : a.eval x = key s) (hv : a.eval v = .bool true)
    (hK : ∀ es' clock', Holds es'.toList (if s ∈ ts then ts else ts ++ [s]) → wpList Try.prog ops Q rest (a.put o.dst undef) { w with heap := w.heap.setIfInBounds b (.map es' clock') }) :
    wpList Try.prog ops Q (o :: rest) a w := by
  refine wpList_plain hg fun K' hK' => ?_
  obtain ⟨es', clock', hrun, r⟩ := put b w hb h s
  unfold Oper.wp
  simp [execOp, hop, hm, hx, hv, hrun, Result.andThen]
  exact hK' _ _ (hK es' clock' r)
end
set_option maxHeartbeats 1000000 in
set_option maxRecDepth 100000 in
theorem add_calls (b : Nat) (w : World) {es : Array MapEntry} {clock : Nat} {ts : List Tri} (hb : w.heap[b]? = some (.map es clock)) (h : Holds es.toList ts) (s : Tri) :
    Calls Try.prog 25 #[.map (some b), key s] w fun e w' => e = .returned (.bool (decide (s ∈ ts))) ∧
      ∃ es' clock', w'.heap[b]? = some (.map es' clock') ∧ Holds es'.toList (if s ∈ ts then ts else ts ++ [s]) ∧ ∀ B, B ≤ b → B ≤ w.heap.size → Below B w w' := by
  obtain ⟨x, y, z⟩ := s
  have hlt : b < w.heap.size := by
    rcases Nat.lt_or_ge b w.heap.size with h | h
    · exact h
    · rw [Array.getElem?_eq_none h] at hb; cases hb
  show Calls Try.prog 25 #[.map (some b), .agg #[.int .u8 x, .int .u8 y, .int .u8 z]] w _
  go_enter Try.func25, Try.ntmps25
  go_wp2_with (first
    | (at_lookup; refine wpList_look3 _ rfl _ _ rfl b (ts := ts) ((Below.heap_alloc w _ b hlt).trans hb) h (x, y, z) rfl rfl ?_)
    | (at_mapUpdate; refine wpList_put3 _ rfl _ _ _ rfl b (ts := ts) ((Below.heap_alloc w _ b hlt).trans hb) h (x, y, z) rfl rfl rfl ?_; intro es' clock' h'))
  all_goals
    go_ret
    refine ⟨by simp, es', ⟨clock', ?_⟩, by first | (rw [if_pos h] at h'; exact h') | (rw [if_neg h] at h'; exact h'), ?_⟩
    · show (Array.setIfInBounds _ _ _)[b]? = _
      rw [Array.getElem?_setIfInBounds_self_of_lt]
      show b < (Array.push w.heap _).size
      rw [Array.size_push]; omega
    · intro B h1 h2
      refine ⟨rfl, rfl, rfl, ?_, ?_⟩
      · show w.heap.size ≤ (Array.setIfInBounds (Array.push w.heap _) _ _).size
        rw [Array.size_setIfInBounds, Array.size_push]; omega
      · intro k hk
        show (Array.setIfInBounds (w.alloc _).heap _ _)[k]? = _
        rw [Array.getElem?_setIfInBounds_ne (by omega)]
        exact Below.heap_alloc w _ k (by omega)
end Go.Proofs.Ytbbmcfbfkpnelaa.Twins
