/- Plain facts on decoding for bytes.IndexAny: how far a rune goes, what stands in it. -/
import Derived.Test.YtlliomkjnhbbbaaDoorTextLays0
import Derived.Test.YtlliomkjnhbbbaaDoorTextIdx0
import Derived.Laws.Runes
import Derived.Lib.IndexEntry
import Derived.Lib.DecodeN
namespace Go.Proofs.YtlliomkjnhbbbaaDoor.Tx
open Go Go.Lib
set_option linter.unusedVariables false
set_option maxRecDepth 100000 in
set_option maxHeartbeats 2000000 in
theorem dec_facts (n b0 b1 b2 b3 : Nat) (hn : 1 ≤ n) (h0 : 128 ≤ b0) (h0' : b0 < 256) (h1 : b1 < 256) (h2 : b2 < 256) (h3 : b3 < 256) (r k : Nat) (hd : decodeN n b0 b1 b2 b3 = (r, k)) :
    128 ≤ r ∧ r ≤ 1114111 ∧ 1 ≤ k ∧ k ≤ n ∧ k ≤ 4 ∧ (2 ≤ k → 128 ≤ b1) ∧ (3 ≤ k → 128 ≤ b2) ∧ (4 ≤ k → 128 ≤ b3) ∧ (r ≠ 65533 → 2 ≤ k ∧ (k = 2 → r < 2048) ∧ (k = 3 → 2048 ≤ r ∧ r < 65536 ∧ (r < 55296 ∨ 57344 ≤ r)) ∧ (k = 4 → 65536 ≤ r)) := by
  unfold decodeN at hd
  repeat' split at hd
  all_goals
    simp only [Prod.mk.injEq] at hd
    obtain ⟨rfl, rfl⟩ := hd
    omega
/-- what is left from a place on -/
def sfxB (l : List Int) (i : Nat) : ByteArray := ⟨(bytesOf (l.drop i)).toArray⟩
theorem sfx_size (l : List Int) (i : Nat) : (sfxB l i).size = l.length - i := by
  show (bytesOf (l.drop i)).toArray.size = _
  rw [List.size_toArray]; unfold bytesOf; rw [List.length_map, List.length_drop]
theorem sfx_get (l : List Int) (i j : Nat) (h : i + j < l.length) (hb : ∀ x ∈ l, 0 ≤ x ∧ x ≤ 255) : ((sfxB l i).get! j).toNat = (l.getD (i + j) 0).toNat := by
  have hm := hb _ (List.getElem_mem h)
  have e : (bytesOf (l.drop i))[j]? = some (UInt8.ofNat (l[i + j]).toNat) := by
    unfold bytesOf
    rw [List.getElem?_map, List.getElem?_drop, List.getElem?_eq_getElem h]; rfl
  have e2 : (sfxB l i).get! j = UInt8.ofNat (l[i + j]).toNat := by
    show ((bytesOf (l.drop i)).toArray)[j]! = _
    rw [getElem!_def, List.getElem?_toArray, e]
  rw [e2, List.getD_eq_getElem?_getD, List.getElem?_eq_getElem h]
  show (UInt8.ofNat (l[i + j]).toNat).toNat = (l[i + j]).toNat
  rw [UInt8.toNat_ofNat']
  omega
theorem not_end (x : Int) (h : 128 ≤ x) : isEnd x = false := decide_eq_false (by omega)
theorem dec_sfx (l : List Int) (i : Nat) (hi : i < l.length) (hb : ∀ x ∈ l, 0 ≤ x ∧ x ≤ 255) (h0 : 128 ≤ l.getD i 0) : ∃ r k : Nat, decodeGo (sfxB l i) = (r, k) ∧ 128 ≤ r ∧ r ≤ 1114111 ∧ 1 ≤ k ∧ i + k ≤ l.length ∧ k ≤ 4 ∧
    (∀ j, i ≤ j → j < i + k → isEnd (l.getD j 0) = false) ∧ (r ≠ 65533 → 2 ≤ k ∧ (k = 2 → r < 2048) ∧ (k = 3 → 2048 ≤ r ∧ r < 65536 ∧ (r < 55296 ∨ 57344 ≤ r)) ∧ (k = 4 → 65536 ≤ r)) := by
  obtain ⟨r, k, hrk⟩ : ∃ r k, decodeGo (sfxB l i) = (r, k) := ⟨_, _, rfl⟩
  have hsz := sfx_size l i
  have hd : decodeN ((sfxB l i).size - 0) ((sfxB l i).get! 0).toNat ((sfxB l i).get! (0 + 1)).toNat ((sfxB l i).get! (0 + 2)).toNat ((sfxB l i).get! (0 + 3)).toNat = (r, k) := by
    rw [← decode_at, ← hrk]
    unfold decodeGo
    rw [if_neg (by omega)]
  have g0 := sfx_get l i 0 (by omega) hb
  have u : ∀ j, ((sfxB l i).get! j).toNat < 256 := fun j => UInt8.toNat_lt _
  obtain ⟨f1, f2, f3, f4, f5, f6, f7, f8, f9⟩ := dec_facts _ _ _ _ _ (by omega) (by rw [g0]; simp only [Nat.add_zero]; omega) (u _) (u _) (u _) (u _) r k hd
  refine ⟨r, k, rfl.trans hrk, f1, f2, f3, by omega, f5, fun j h1 h2 => ?_, f9⟩
  have key : ∀ m, m < k → i + m < l.length → 128 ≤ ((sfxB l i).get! m).toNat → isEnd (l.getD (i + m) 0) = false := by
    intro m hm hl hg
    rw [sfx_get l i m hl hb] at hg
    exact not_end _ (by omega)
  obtain ⟨m, rfl⟩ : ∃ m, j = i + m := ⟨j - i, by omega⟩
  refine key m (by omega) (by omega) ?_
  obtain rfl | rfl | rfl | rfl : m = 0 ∨ m = 1 ∨ m = 2 ∨ m = 3 := by omega
  · rw [g0]; simp only [Nat.add_zero]; omega
  · exact f6 (by omega)
  · exact f7 (by omega)
  · exact f8 (by omega)
theorem enc_facts (r k : Nat) (h0 : 128 ≤ r) (h1 : r ≤ 1114111) (h9 : 2 ≤ k ∧ (k = 2 → r < 2048) ∧ (k = 3 → 2048 ≤ r ∧ r < 65536 ∧ (r < 55296 ∨ 57344 ≤ r)) ∧ (k = 4 → 65536 ≤ r)) (hk : k ≤ 4) :
    (Utf8.encode (r : Int)).size = k ∧ ∀ x ∈ (Utf8.encode (r : Int)).data.toList, x ≠ 13 := by
  have hv : Utf8.valid (r : Int) = true := by
    simp only [Utf8.valid, Bool.or_eq_true, Bool.and_eq_true, decide_eq_true_eq]
    omega
  have hc : ¬ (r : Int).toNat < 128 := by omega
  have hne : ∀ m : Nat, 128 ≤ m → m < 256 → UInt8.ofNat m ≠ 13 := by
    intro m m1 m2 e
    have := congrArg UInt8.toNat e
    rw [UInt8.toNat_ofNat'] at this
    have e13 : (13 : UInt8).toNat = 13 := rfl
    omega
  unfold Utf8.encode
  simp only [hv, if_true, hc, if_false]
  have er : (r : Int).toNat = r := Int.toNat_natCast r
  rw [er]
  split
  · refine ⟨by show 2 = k; omega, fun x hx => ?_⟩
    simp only [List.mem_cons, List.mem_nil_iff, or_false] at hx
    rcases hx with rfl | rfl
    · exact hne _ (by omega) (by omega)
    · exact hne _ (by omega) (by omega)
  · split
    · refine ⟨by show 3 = k; omega, fun x hx => ?_⟩
      simp only [List.mem_cons, List.mem_nil_iff, or_false] at hx
      rcases hx with rfl | rfl | rfl
      · exact hne _ (by omega) (by omega)
      · exact hne _ (by omega) (by omega)
      · exact hne _ (by omega) (by omega)
    · refine ⟨by show 4 = k; omega, fun x hx => ?_⟩
      simp only [List.mem_cons, List.mem_nil_iff, or_false] at hx
      rcases hx with rfl | rfl | rfl | rfl
      · exact hne _ (by omega) (by omega)
      · exact hne _ (by omega) (by omega)
      · exact hne _ (by omega) (by omega)
      · exact hne _ (by omega) (by omega)
theorem index_long (L : List UInt8) (h : 2 < L.length) : Lib.index [13, 10] L = -1 := by
  refine index_none (fun j hj => ?_)
  cases ho : occAt [13, 10] L j with
  | false => rfl
  | true =>
    unfold occAt at ho
    have := List.IsPrefix.length_le (List.isPrefixOf_iff_prefix.1 ho)
    rw [List.length_drop] at this
    simp at this
    omega
end Go.Proofs.YtlliomkjnhbbbaaDoor.Tx
