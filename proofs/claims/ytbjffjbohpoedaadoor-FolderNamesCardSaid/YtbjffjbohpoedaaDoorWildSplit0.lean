/- Plain: what bytes.Split by '/' makes, as a list of lists of numbers. -/
import Derived.Lib.SlSplitV
import Derived.Lib.SplitLaws
import Derived.Lib.Bytes
namespace Go.Proofs.YtbjffjbohpoedaaDoor.Wd
open Go Go.Lib
/-- between each c -/
def splitU (c : UInt8) : List UInt8 → List (List UInt8)
  | [] => [[]]
  | x :: xs => if x = c then [] :: splitU c xs else match splitU c xs with | p :: ps => (x :: p) :: ps | [] => [[x]]
def splitL : List Int → List (List Int)
  | [] => [[]]
  | x :: xs => if x = 47 then [] :: splitL xs else match splitL xs with | p :: ps => (x :: p) :: ps | [] => [[x]]
theorem splitL_ne (l : List Int) : splitL l ≠ [] := by
  cases l with
  | nil => simp [splitL]
  | cons x xs =>
    unfold splitL
    split
    · simp
    · split <;> simp
theorem index_cons_one (x c : UInt8) (l : List UInt8) (h : x ≠ c) : index (x :: l) [c] = if index l [c] == -1 then -1 else index l [c] + 1 := by
  have e : ([c] : List UInt8).isPrefixOf (x :: l) = false := by
    simp [List.isPrefixOf]
    exact fun hh => h hh.symm
  rw [index, e]
  simp
theorem index_cons_eq (c : UInt8) (l : List UInt8) : index (c :: l) [c] = 0 := by
  rw [index]
  simp [List.isPrefixOf]
theorem splitK_all (c : UInt8) : ∀ l : List UInt8, splitK [c] 0 (count l [c]) l = splitU c l
  | [] => by
    have e : count [] [c] = 0 := by rw [count_one]; rfl
    rw [e]; rfl
  | x :: l => by
    have ih := splitK_all c l
    by_cases h : x = c
    · subst h
      rw [count_cons_eq, Nat.add_comm, splitK, index_cons_eq]
      simp only [Int.toNat_zero, List.length_cons, List.length_nil]
      unfold splitU
      rw [if_pos rfl, if_neg (by decide)]
      simp [ih]
    · rw [count_cons_ne x c l h]
      unfold splitU
      rw [if_neg h, ← ih]
      cases hk : count l [c] with
      | zero => rfl
      | succ k =>
        rw [splitK, splitK, index_cons_one x c l h]
        by_cases hi : (index l [c] == -1) = true
        · rw [if_pos hi, if_pos (by decide), if_pos hi]
        · have hne : index l [c] ≠ -1 := fun e => hi (beq_iff_eq.2 e)
          have hge := index_ge l [c]
          obtain ⟨n, hn⟩ := Int.eq_ofNat_of_zero_le (show 0 ≤ index l [c] by omega)
          rw [if_neg hi, if_neg (by rw [hn]; simp; omega), if_neg hi, hn]
          have e1 : ((n : Int) + 1).toNat = n + 1 := by omega
          rw [e1]
          simp
theorem byte_inj (x y : Int) (hx : 0 ≤ x ∧ x < 256) (hy : 0 ≤ y ∧ y < 256) (h : UInt8.ofNat x.toNat = UInt8.ofNat y.toNat) : x = y := by
  have h1 := congrArg UInt8.toNat h
  simp only [UInt8.toNat_ofNat'] at h1
  omega
theorem bytesOf_inj : ∀ (a b : List Int), (∀ x ∈ a, 0 ≤ x ∧ x < 256) → (∀ x ∈ b, 0 ≤ x ∧ x < 256) → Lib.bytesOf a = Lib.bytesOf b → a = b
  | [], [], _, _, _ => rfl
  | [], y :: b, _, _, h => by simp [Lib.bytesOf] at h
  | x :: a, [], _, _, h => by simp [Lib.bytesOf] at h
  | x :: a, y :: b, ha, hb, h => by
    simp only [Lib.bytesOf, List.map_cons, List.cons.injEq] at h
    have e1 := byte_inj x y (ha x (by simp)) (hb y (by simp)) h.1
    have e2 := bytesOf_inj a b (fun z hz => ha z (by simp [hz])) (fun z hz => hb z (by simp [hz])) h.2
    rw [e1, e2]
theorem splitU_bytes : ∀ l : List Int, (∀ x ∈ l, 0 ≤ x ∧ x < 256) → splitU 47 (Lib.bytesOf l) = (splitL l).map Lib.bytesOf
  | [], _ => rfl
  | x :: l, hl => by
    have ih := splitU_bytes l (fun z hz => hl z (by simp [hz]))
    have hx := hl x (by simp)
    have hc : Lib.bytesOf (x :: l) = UInt8.ofNat x.toNat :: Lib.bytesOf l := rfl
    rw [hc]
    unfold splitU splitL
    rw [ih]
    by_cases h : x = 47
    · subst h; rfl
    · have h2 : ¬ UInt8.ofNat x.toNat = 47 := fun e => h (byte_inj x 47 hx (by decide) (e.trans rfl))
      rw [if_neg h, if_neg h2]
      cases splitL l with
      | nil => rfl
      | cons p ps => rfl
theorem splitL_mem : ∀ (l : List Int) (p : List Int), p ∈ splitL l → ∀ x ∈ p, x ∈ l
  | [], p, h, x, hx => by simp [splitL] at h; subst h; cases hx
  | y :: l, p, h, x, hx => by
    have ih := splitL_mem l
    unfold splitL at h
    by_cases e : y = 47
    · rw [if_pos e] at h
      rcases List.mem_cons.1 h with rfl | h
      · cases hx
      · exact List.mem_cons_of_mem _ (ih p h x hx)
    · rw [if_neg e] at h
      cases hs : splitL l with
      | nil => exact absurd hs (splitL_ne l)
      | cons q qs =>
        rw [hs] at h ih
        simp only at h
        rcases List.mem_cons.1 h with rfl | h
        · rcases List.mem_cons.1 hx with rfl | hx
          · simp
          · exact List.mem_cons_of_mem _ (ih q (by simp) x hx)
        · exact List.mem_cons_of_mem _ (ih p (by simp [h]) x hx)
theorem splitL_length (l : List Int) : (splitL l).length ≤ l.length + 1 := by
  induction l with
  | nil => simp [splitL]
  | cons x xs ih =>
    unfold splitL
    split
    · simp; omega
    · split
      · rename_i h; rw [h] at ih; simp at ih ⊢; omega
      · simp
/-- The parts: folded, a '/' at the end left out. -/
def cutEnd (f : List Int) : List Int := if 0 < f.length ∧ f.getD (f.length - 1) 0 = 47 then f.take (f.length - 1) else f
end Go.Proofs.YtbjffjbohpoedaaDoor.Wd
