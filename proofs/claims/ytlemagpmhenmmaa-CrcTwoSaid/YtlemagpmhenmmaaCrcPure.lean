/- What crc.Add and crc.Sum come to, in plain numbers: the run of bytes. Condition: the numbers are bytes. -/
import Derived.Test.YtlemagpmhenmmaaCrcAdd0
namespace Go.Proofs.Ytlemagpmhenmmaa.CrcPure
open Go.RowKit Go.Proofs.YtlemagpmhenmmaaW.PrintWords Go.Proofs.YtlemagpmhenmmaaW.PrintLast Go.Proofs.YtlemagpmhenmmaaW.PrintMore Go.Proofs.Ytlemagpmhenmmaa.CrcWalk
def toN (l : List Int) : List Nat := l.map Int.toNat
def Bytes (l : List Int) : Prop := ∀ x ∈ l, 0 ≤ x ∧ x < 256
theorem Bytes.of_wf {l : List Int} (h : ∀ x ∈ l, (Lit.int .u8 x).wf = true) : Bytes l := fun x hx => by have := bounds_u8 (h x hx); omega
theorem Bytes.take {l : List Int} (h : Bytes l) (n : Nat) : Bytes (l.take n) := fun x hx => h x (List.mem_of_mem_take hx)
theorem Bytes.drop {l : List Int} (h : Bytes l) (n : Nat) : Bytes (l.drop n) := fun x hx => h x (List.mem_of_mem_drop hx)
theorem toN_lt {l : List Int} (h : Bytes l) : ∀ c ∈ toN l, c < 256 := by
  intro c hc
  simp only [toN, List.mem_map] at hc
  obtain ⟨x, hx, rfl⟩ := hc
  have := h x hx
  omega
theorem u8_xor (a b : Nat) (ha : a < 256) (hb : b < 256) : Go.bits .xor .u8 (a : Int) (b : Int) = ((a ^^^ b : Nat) : Int) := by
  have ha' : a % 2 ^ 8 = a := Nat.mod_eq_of_lt ha
  have hb' : b % 2 ^ 8 = b := Nat.mod_eq_of_lt hb
  have hx : a ^^^ b < 2 ^ 8 := Nat.xor_lt_two_pow (n := 8) ha hb
  simp only [Go.bits, BitVec.ofInt_natCast]
  show IntKind.u8.wrap ((BitVec.ofNat 8 a ^^^ BitVec.ofNat 8 b).toNat : Int) = _
  rw [BitVec.toNat_xor, BitVec.toNat_ofNat, BitVec.toNat_ofNat, ha', hb']
  exact wraps_u8 _ (Int.natCast_nonneg _) (by exact_mod_cast hx)
theorem rd_tab (n : Nat) (h : n < 256) : rd tabL (n : Int) = ((Crc.steps 8 n : Nat) : Int) := by
  simp [rd, tabL, word, List.getD, h]
theorem addL_run (l : List Int) : ∀ x : Nat, x < 4294967296 → Bytes l → addL tabL (x : Int) l = ((Crc.run x (toN l) : Nat) : Int) := by
  induction l with
  | nil => intro x _ _; rfl
  | cons c l ih =>
    intro x hx hb
    obtain ⟨hc0, hc1⟩ := hb c (by simp)
    obtain ⟨n, rfl⟩ := Int.eq_ofNat_of_zero_le hc0
    have hn : n < 256 := by omega
    have e1 : (x : Int) % 256 = ((x % 256 : Nat) : Int) := by omega
    have e2 : (x : Int) / 256 = ((x / 256 : Nat) : Int) := by omega
    have h8 : (x % 256) ^^^ n < 256 := Nat.xor_lt_two_pow (n := 8) (by omega) hn
    rw [addL_cons, e1, e2, u8_xor _ _ (by omega) hn, rd_tab _ h8, CrcWalk.u32_xor _ _ (Crc.steps_lt 8 (by omega)) (by omega), Crc.byte_table x n hn]
    exact ih _ (Crc.byte_lt hx hn) fun y hy => hb y (by simp [hy])
def full : Nat := 4294967295
theorem flip_eq (x : Nat) (hx : x < 4294967296) : Go.bits .xor .u32 IntKind.u32.max (x : Int) = ((full ^^^ x : Nat) : Int) := by
  have := CrcWalk.u32_xor full x (by decide) hx
  exact this
theorem addF_eq (s : Nat) (hs : s < 4294967296) (l : List Int) (hl : Bytes l) : addF tabL (s : Int) l = ((full ^^^ Crc.run (full ^^^ s) (toN l) : Nat) : Int) := by
  unfold addF
  have h1 : full ^^^ s < 4294967296 := Nat.xor_lt_two_pow (n := 32) (by decide) hs
  rw [flip_eq s hs, addL_run l _ h1 hl, flip_eq _ (Crc.run_lt _ h1 (toN_lt hl))]
theorem sum_eq (l : List Int) (hl : Bytes l) : addF tabL 0 l = ((full ^^^ Crc.run full (toN l) : Nat) : Int) := by
  have := addF_eq 0 (by decide) l hl
  rw [Nat.xor_zero] at this
  exact this
theorem full_inj {a b : Nat} (h : full ^^^ a = full ^^^ b) : a = b := by
  have : full ^^^ (full ^^^ a) = full ^^^ (full ^^^ b) := by rw [h]
  rwa [← Nat.xor_assoc, ← Nat.xor_assoc, Nat.xor_self, Nat.zero_xor, Nat.zero_xor] at this
end Go.Proofs.Ytlemagpmhenmmaa.CrcPure
