/- Which triples were sawT, how many bytes are as the one ahead: plain facts. -/
import Derived.Test.YtbbmcfbfkpnelaaProbeTwins2
namespace Go.Proofs.Ytbbmcfbfkpnelaa.Twins
open Go.RowKit Go.Proofs.YtbbmcfbfkpnelaaW.PrintWords Go.Proofs.YtbbmcfbfkpnelaaW.PrintLast Go.Proofs.YtbbmcfbfkpnelaaW.PrintMore
theorem twS_mem (l : List Int) (t : Tri) : ∀ k, t ∈ (twS l k).1 ↔ ∃ m, m < k ∧ tri l m = t := by
  intro k
  induction k with
  | zero => simp [twS]
  | succ k ih =>
    have hs : (∃ m, m < k + 1 ∧ tri l m = t) ↔ (∃ m, m < k ∧ tri l m = t) ∨ tri l k = t := by
      constructor
      · rintro ⟨m, h, e⟩
        rcases Nat.lt_or_ge m k with h2 | h2
        · exact .inl ⟨m, h2, e⟩
        · obtain rfl : m = k := by omega
          exact .inr e
      · rintro (⟨m, h, e⟩ | e)
        · exact ⟨m, by omega, e⟩
        · exact ⟨k, by omega, e⟩
    rw [hs, ← ih]
    simp only [twS]
    split
    · rename_i h
      constructor
      · exact .inl
      · rintro (h2 | h2)
        · exact h2
        · exact h2 ▸ h
    · rw [List.mem_append, List.mem_singleton]
      constructor
      · rintro (h2 | h2)
        · exact .inl h2
        · exact .inr h2.symm
      · rintro (h2 | h2)
        · exact .inl h2
        · exact .inr h2.symm
def ru (l : List Int) : Nat → Nat
  | 0 => 0
  | k + 1 => if rd l ((k + 1 : Nat)) = rd l (k : Nat) then ru l k + 1 else ru l k
theorem ru_le (l : List Int) (k : Nat) : ru l k ≤ k := by
  induction k with
  | zero => exact Nat.le_refl _
  | succ k ih => simp only [ru]; split <;> omega
/-- whether the k-th triple was sawT ahead, looked at from m on -/
def sawT (l : List Int) (k m : Nat) : Prop := ∃ j, m ≤ j ∧ j < k ∧ tri l j = tri l k
theorem sawT_all (l : List Int) (k : Nat) : sawT l k 0 ↔ tri l k ∈ (twS l k).1 := by
  rw [twS_mem]
  constructor
  · rintro ⟨j, _, h, e⟩; exact ⟨j, h, e⟩
  · rintro ⟨j, h, e⟩; exact ⟨j, Nat.zero_le _, h, e⟩
theorem sawT_end (l : List Int) (k m : Nat) (h : k ≤ m) : ¬ sawT l k m := by
  rintro ⟨j, h1, h2, _⟩; omega
theorem sawT_step (l : List Int) (k m : Nat) (h : m < k) : sawT l k m ↔ tri l m = tri l k ∨ sawT l k (m + 1) := by
  constructor
  · rintro ⟨j, h1, h2, e⟩
    rcases Nat.lt_or_ge m j with h3 | h3
    · exact .inr ⟨j, h3, h2, e⟩
    · obtain rfl : m = j := by omega
      exact .inl e
  · rintro (e | ⟨j, h1, h2, e⟩)
    · exact ⟨m, Nat.le_refl _, h, e⟩
    · exact ⟨j, by omega, h2, e⟩
theorem tri_eq (l : List Int) (m k : Nat) : tri l m = tri l k ↔ rd l ((m + 2 : Nat)) = rd l ((k + 2 : Nat)) ∧ rd l ((m + 1 : Nat)) = rd l ((k + 1 : Nat)) ∧ rd l (m : Nat) = rd l (k : Nat) := by
  unfold tri
  rw [Prod.mk.injEq, Prod.mk.injEq]
  constructor
  · rintro ⟨a, b, c⟩; exact ⟨c, b, a⟩
  · rintro ⟨a, b, c⟩; exact ⟨c, b, a⟩
end Go.Proofs.Ytbbmcfbfkpnelaa.Twins
