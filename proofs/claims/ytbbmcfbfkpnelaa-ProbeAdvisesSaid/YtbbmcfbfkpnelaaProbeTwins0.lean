/- probe.Twins: the map of what was seen: looking up and putting in. -/
import Derived.Test.YtbbmcfbfkpnelaaProg
import Derived.Tactics
import Derived.Tactics2
import Derived.StillTactics
import Derived.Laws.Pointers
import Derived.Laws.Small
import Derived.Laws.StructEq
import Derived.Laws.Tables
import Derived.Laws.Cover2
import Derived.KernelRfl
import Derived.WideKeyRuns
import Derived.MapKept
namespace Go.Proofs.Ytbbmcfbfkpnelaa.Twins
abbrev Tri := Int × Int × Int
def key (t : Tri) : Value := .agg #[.int .u8 t.1, .int .u8 t.2.1, .int .u8 t.2.2]
theorem eq_key (s t : Tri) (w : World) : (Op.equalIn 10000 46 (key s) (key t)).run Try.prog w = .ok (decide (s = t)) w := by
  obtain ⟨a, b, c⟩ := s
  obtain ⟨d, e, f⟩ := t
  have u3 := Try.underlying5
  have a3 := Try.isAgg5
  have z3 := Try.sizeOf5
  unfold key
  rw [show (10000 : Nat) = 9999 + 1 from rfl, Op.equalIn]
  simp only [Sem.run_bind, run_underlying Try.underlying46, Result.andThen_ok]
  simp only [Std.Legacy.Range.forIn_eq_forIn_range', Std.Legacy.Range.size, Nat.sub_zero, Nat.add_sub_cancel, Nat.div_one, List.range'_succ, List.range'_zero, List.forIn_cons, List.forIn_nil]
  go_simp
  by_cases h1 : a = d <;> by_cases h2 : b = e <;> by_cases h3 : c = f <;> simp [h1, h2, h3]
theorem check_key (em : Bool) (s : Tri) (w : World) : (Instr.checkKey em 10000 46 (key s)).run Try.prog w = .ok () w := by
  obtain ⟨a, b, c⟩ := s
  have u3 := Try.underlying5
  have a3 := Try.isAgg5
  have z3 := Try.sizeOf5
  unfold key
  rw [show (10000 : Nat) = 9999 + 1 from rfl, Instr.checkKey]
  simp only [Sem.run_bind, run_underlying Try.underlying46, Result.andThen_ok]
  simp only [Std.Legacy.Range.forIn_eq_forIn_range', Std.Legacy.Range.size, Nat.sub_zero, Nat.add_sub_cancel, Nat.div_one, List.range'_succ, List.range'_zero, List.forIn_cons, List.forIn_nil]
  go_simp
  have hk := fun (x : Int) (w : World) => MapKept.run_checkKey (P := Try.prog) (w := w) (k := .int .u8 x) u3 (by simp [MapKept.IsKey]) em 9998
  simp only [hk, Result.andThen_ok]
/-- The entries are these three bytes each, all told true. -/
def Holds (es : List MapEntry) (ts : List Tri) : Prop := es.map (fun e => (e.key, e.val)) = ts.map fun t => (key t, Value.bool true)
theorem find_no (s : Tri) (w : World) : ∀ (es : List MapEntry) (ts : List Tri) (i : Nat), Holds es ts → s ∉ ts → (Instr.findAsking 46 (key s) es i).run Try.prog w = .ok none w
  | [], [], _, _, _ => by simp [Instr.findAsking]
  | [], _ :: _, _, h, _ => by simp [Holds] at h
  | _ :: _, [], _, h, _ => by simp [Holds] at h
  | e :: es, t :: ts, i, h, hn => by
    simp only [Holds, List.map_cons, List.cons.injEq, Prod.mk.injEq] at h
    have hq := eq_key s t w
    rw [decide_eq_false (show ¬ s = t from fun c => hn (by simp [c]))] at hq
    rw [Instr.findAsking, h.1.1]
    simp only [Sem.run_bind, Op.equal, show Op.maxDepth = 10000 from rfl, hq, Result.andThen_ok]
    exact find_no s w es ts (i + 1) h.2 (fun c => hn (by simp [c]))
theorem find_yes (s : Tri) (w : World) : ∀ (es : List MapEntry) (ts : List Tri) (i : Nat), Holds es ts → s ∈ ts →
    ∃ j e, (Instr.findAsking 46 (key s) es i).run Try.prog w = .ok (some (i + j, .bool true)) w ∧ es[j]? = some e ∧ e.key = key s ∧ e.val = .bool true
  | [], [], _, _, h => by simp at h
  | [], _ :: _, _, h, _ => by simp [Holds] at h
  | _ :: _, [], _, h, _ => by simp [Holds] at h
  | e :: es, t :: ts, i, h, hn => by
    simp only [Holds, List.map_cons, List.cons.injEq, Prod.mk.injEq] at h
    have hq := eq_key s t w
    by_cases c : s = t
    · rw [decide_eq_true c] at hq
      refine ⟨0, e, ?_, rfl, by rw [h.1.1, c], h.1.2⟩
      rw [Instr.findAsking, h.1.1]
      simp [Op.equal, show Op.maxDepth = 10000 from rfl, hq, h.1.2]
    · rw [decide_eq_false c] at hq
      obtain ⟨j, x, h1, h2, h3⟩ := find_yes s w es ts (i + 1) h.2 (by simpa [c] using hn)
      refine ⟨j + 1, x, ?_, by simpa using h2, h3⟩
      rw [Instr.findAsking, h.1.1]
      simp only [Sem.run_bind, Op.equal, show Op.maxDepth = 10000 from rfl, hq, Result.andThen_ok]
      rw [show i + (j + 1) = i + 1 + j by omega]
      exact h1
theorem look (b : Nat) (w : World) {es : Array MapEntry} {clock : Nat} {ts : List Tri} (hb : w.heap[b]? = some (.map es clock)) (h : Holds es.toList ts) (s : Tri) :
    (Instr.lookup 44 (.map (some b)) (key s) false).run Try.prog w = .ok (.bool (decide (s ∈ ts))) w := by
  have hz : (zeroValue 4).run Try.prog w = .ok (.bool false) w := by
    have u := Try.underlying4
    go_simp
  have hf := run_findKey_eq (P := Try.prog) w (k := 46) (by rw [Try.underlying46]) (key s) es.toList
  unfold Instr.lookup
  simp only [Sem.run_bind, run_underlying Try.underlying44, Result.andThen_ok, Sem.run_pure, MapKept.run_getObj_map hb, check_key, hf]
  by_cases c : s ∈ ts
  · obtain ⟨j, e, h1, h2, h3, h4⟩ := find_yes s w es.toList ts 0 h c
    rw [h1, decide_eq_true c]
    simp
  · rw [find_no s w es.toList ts 0 h c, decide_eq_false c]
    simp [hz]
theorem stays (s : Tri) (w : World) : (Instr.keyThatStays (key s) (key s)).run Try.prog w = .ok (key s) w := by
  have e : Instr.sameBits 10000 (key s) (key s) = true := by simp [Instr.sameBits, key]
  unfold Instr.keyThatStays
  rw [if_pos e]
  rfl
theorem put (b : Nat) (w : World) {es : Array MapEntry} {clock : Nat} {ts : List Tri} (hb : w.heap[b]? = some (.map es clock)) (h : Holds es.toList ts) (s : Tri) :
    ∃ es' clock', (Instr.mapUpdate 44 (.map (some b)) (key s) (.bool true)).run Try.prog w = .ok () { w with heap := w.heap.setIfInBounds b (.map es' clock') } ∧
      Holds es'.toList (if s ∈ ts then ts else ts ++ [s]) := by
  have hf := run_findKey_eq (P := Try.prog) w (k := 46) (by rw [Try.underlying46]) (key s) es.toList
  unfold Instr.mapUpdate
  simp only [Sem.run_bind, run_underlying Try.underlying44, Result.andThen_ok, MapKept.run_getObj_map hb, check_key, hf]
  by_cases c : s ∈ ts
  · obtain ⟨j, e, h1, h2, h3, h4⟩ := find_yes s w es.toList ts 0 h c
    refine ⟨es.modify j fun e => { e with key := key s, val := .bool true }, clock, ?_, ?_⟩
    · rw [h1]
      have hj : es[j]? = some e := by simpa using h2
      simp [hj, h3, stays, MapKept.run_setObj_map _ hb]
    · rw [if_pos c]
      unfold Holds at h ⊢
      rw [← h]
      simp only [Array.toList_modify]
      apply List.ext_getElem?
      intro i
      simp only [List.getElem?_map, List.getElem?_modify]
      by_cases hi : j = i
      · subst hi; simp [h2, h3, h4]
      · simp [hi]
  · refine ⟨es.push { key := key s, val := .bool true, born := clock }, clock + 1, ?_, ?_⟩
    · rw [find_no s w es.toList ts 0 h c]
      simp [MapKept.run_setObj_map _ hb]
    · rw [if_neg c]
      unfold Holds at h ⊢
      simp [h]
end Go.Proofs.Ytbbmcfbfkpnelaa.Twins
