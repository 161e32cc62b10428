/- The walks of crc.Add and crc.Sum. No conditions. -/
import Derived.Test.YtlemagpmhenmmaaCrcTable0
import Derived.OpenShut
namespace Go.Proofs.Ytlemagpmhenmmaa.CrcWalk
open Go.RowKit Go.Proofs.YtlemagpmhenmmaaW.PrintWords Go.Proofs.YtlemagpmhenmmaaW.PrintLast Go.Proofs.YtlemagpmhenmmaaW.PrintMore
set_option linter.unusedVariables false
set_option linter.unusedSimpArgs false
def idx (x c : Int) : Int := Go.bits .xor .u8 (x % 256) c
theorem idx_bd (x c : Int) : 0 ≤ idx x c ∧ idx x c < 256 := by
  have := bounds_u8 (wf_bits .xor .u8 (x % 256) c)
  unfold idx; omega
def addL (tl : List Int) : Int → List Int → Int
  | x, [] => x
  | x, c :: r => addL tl (Go.bits .xor .u32 (rd tl (idx x c)) (x / 256)) r
def tabV (tl : List Int) : Array Value := (tl.map (Value.int .u32)).toArray
theorem tabV_at (tl : List Int) (i : Nat) (hi : i < tl.length) : (tabV tl)[i]? = some (.int .u32 (rd tl i)) := by
  simp [tabV, rd, hi, List.getD]

theorem addL_nil (tl : List Int) (x : Int) : addL tl x [] = x := rfl
theorem addL_cons (tl : List Int) (x c : Int) (r : List Int) : addL tl x (c :: r) = addL tl (Go.bits .xor .u32 (rd tl (Go.bits .xor .u8 (x % 256) c)) (x / 256)) r := rfl
theorem drop_rd (l : List Int) (k : Nat) (h : k < l.length) : l.drop k = rd l k :: l.drop (k + 1) := by
  rw [List.drop_eq_getElem_cons h]
  simp [rd, List.getD, h]
def addF (tl : List Int) (s : Int) (l : List Int) : Int := Go.bits .xor .u32 IntKind.u32.max (addL tl (Go.bits .xor .u32 IntKind.u32.max s) l)

set_option maxHeartbeats 1000000 in
set_option maxRecDepth 100000 in
theorem add_any (tl : List Int) (ht : tl.length = 256) (s : Int) (A : Option Addr) (c : Nat) (l : List Int) (w : World) (hr : Kd.C (Kd.int .u8) w A l.length l) (hc : l.length ≤ c) (hsz : l.length ≤ 140737488355328) :
    Calls Try.prog 15 #[.agg (tabV tl), .int .u32 s, .slice A l.length c] w fun e w' => e = .returned (.int .u32 (addF tl s l)) ∧ Below w.heap.size w w' := by
  have HR := Aside0.mk hr
  have HT := Aside0.mk ht
  clear hr ht
  go_enter Try.func15, Try.ntmps15
  go_wp2
  go_loop [7, 14] (fun v7 v14 => ∃ (k : Nat) (x : Int), k ≤ l.length ∧ v14 = .int .i64 k ∧ v7 = .int .u32 x ∧ Hid (addL tl x (l.drop k) = addL tl (Go.bits .xor .u32 IntKind.u32.max s) l)) (fun _ v14 => l.length - (intOf v14).toNat)
  case atStart => exact ⟨0, _, by omega, rfl, rfl, rfl⟩
  case round =>
    obtain ⟨k, x, hk, rfl, rfl, hx⟩ := hrel
    by_cases hlt : k < l.length
    · obtain ⟨ad, e, hcell⟩ := Kd.at_int (Kd.C_alloc HR.out (.cells (tabV tl) 23)) k (by omega) (by omega)
      cases e
      rw [Int.toNat_natCast] at hcell
      have b1 : 0 ≤ Go.bits .xor .u8 (x % 256) (rd l k) := (idx_bd x (rd l k)).1
      have b2 : Go.bits .xor .u8 (x % 256) (rd l k) < 256 := (idx_bd x (rd l k)).2
      have hcell2 := (cell_of_row _ w.heap.size (Go.bits .xor .u8 (x % 256) (rd l k)).toNat _ _ _ (heap_alloc_new w (.cells (tabV tl) 23))).trans (tabV_at tl _ (by have := HT.out; omega))
      rw [Int.toNat_of_nonneg b1] at hcell2
      go_wp2
      go_round
      case rel =>
        refine ⟨k + 1, _, by omega, by go_num, rfl, ?_⟩
        have h := hx.out
        rw [drop_rd l k hlt, addL_cons] at h
        exact h
      case measure => simp [intOf]; omega
    · obtain rfl : k = l.length := by omega
      have hfin : x = addL tl (Go.bits .xor .u32 IntKind.u32.max s) l := by
        have h := hx.out
        rw [List.drop_length, addL_nil] at h
        exact h
      have HF := Aside0.mk hfin
      clear hfin
      go_wp2
      go_ret
      exact ⟨by rw [HF.out]; rfl, (Below.refl _ _).alloc (Nat.le_refl _) _⟩

def word (i : Nat) : Int := (Crc.steps 8 i : Nat)
def tabL : List Int := (List.range 256).map word
theorem tabL_len : tabL.length = 256 := by simp [tabL]
theorem tabTo_tabL : tabTo 256 = tabV tabL := by
  apply Array.ext_getElem?
  intro i
  by_cases hi : i < 256
  · rw [tabTo_at _ _ hi, tabV_at _ _ (by rw [tabL_len]; exact hi), if_pos hi]
    simp [tabL, rd, word, List.getD, hi]
  · rw [Array.getElem?_eq_none (by rw [tabTo_size]; omega), Array.getElem?_eq_none (by simp [tabV, tabL_len]; omega)]

set_option maxHeartbeats 1000000 in
set_option maxRecDepth 100000 in
theorem sum_any (A : Option Addr) (c : Nat) (l : List Int) (w : World) (hr : Kd.C (Kd.int .u8) w A l.length l) (hc : l.length ≤ c) (hsz : l.length ≤ 140737488355328) :
    Calls Try.prog 13 #[.slice A l.length c] w fun e w' => e = .returned (.int .u32 (addF tabL 0 l)) ∧ Below w.heap.size w w' := by
  have HR := Aside0.mk hr
  clear hr
  go_enter Try.func13, Try.ntmps13
  go_wp2_with (first
    | (go_at_call 8; refine (table_any _).mono ?_; rintro e w1 ⟨rfl, hb⟩; have HB := Aside0.mk hb; clear hb; rw [tabTo_tabL])
    | (go_at_call 15; refine (add_any tabL tabL_len 0 A c l _ (Kd.C_below HR.out HB.out) hc hsz).mono ?_; rintro e w2 ⟨rfl, hb2⟩; have HB2 := Aside0.mk hb2; clear hb2))
  go_ret
  exact ⟨rfl, HB.out.trans (HB2.out.mono HB.out.size)⟩
end Go.Proofs.Ytlemagpmhenmmaa.CrcWalk
