/- probe.Twins, walked. -/
import Derived.Test.YtbbmcfbfkpnelaaProbeTwins1
import Derived.Test.YtbbmcfbfkpnelaaProg
import Derived.Below
import Derived.Deep.Draws
import Derived.Deep.AppendLies
import Derived.Maps.AppendAt
import Derived.OwnWalk
import Derived.Laws.BytesArg
import Derived.Laws.MakeOwn
import Derived.Laws.OwnMore
import Derived.Deep.OwnRows
import Derived.Tactics
import Derived.Lib.ConvBytes
import Derived.Laws.Slices
import Derived.WalkKit
import Derived.KernelRfl
import Derived.RowKit3
import Derived.Deep.LoopGhost
import Derived.Deep.QuietTactic
import Derived.BigQuiet
import Derived.WideLaws
import Derived.Deep.DeepCutAuto
import Derived.Deep.CutBlock
import Derived.Deep.RegionHeld3
import Derived.Laws.Rows
import Derived.Lib.AppendStr
import Derived.ArgAppend
import Derived.Laws.IdiomCopy
import Derived.OrdersHeld
import Derived.Laws.BitsLemmas
import Derived.RowKit
import Derived.Test.YtbbmcfbfkpnelaaWWords
import Derived.Test.YtbbmcfbfkpnelaaWLast
import Derived.Test.YtbbmcfbfkpnelaaWTab
import Derived.Test.YtbbmcfbfkpnelaaWFour
import Derived.Test.YtbbmcfbfkpnelaaWQPut
import Derived.Test.YtbbmcfbfkpnelaaWApart
import Derived.Test.YtbbmcfbfkpnelaaWArr
import Derived.Test.YtbbmcfbfkpnelaaWZeros
import Derived.Test.YtbbmcfbfkpnelaaWFoot
import Derived.Test.YtbbmcfbfkpnelaaWKept
import Derived.Test.YtbbmcfbfkpnelaaWShare
import Derived.Test.YtbbmcfbfkpnelaaWN
import Derived.Test.YtbbmcfbfkpnelaaWFootNe
import Derived.Test.YtbbmcfbfkpnelaaWAt
import Derived.Test.YtbbmcfbfkpnelaaWEqStruct
import Derived.Test.YtbbmcfbfkpnelaaWRepsOne
import Derived.Test.YtbbmcfbfkpnelaaWInv
import Derived.Test.YtbbmcfbfkpnelaaWInvWords
import Derived.Test.YtbbmcfbfkpnelaaWGuard
import Derived.Test.YtbbmcfbfkpnelaaWNEv
import Derived.Test.YtbbmcfbfkpnelaaWMore
namespace Go.Proofs.Ytbbmcfbfkpnelaa.Twins
open Go.RowKit Go.Proofs.YtbbmcfbfkpnelaaW.PrintWords Go.Proofs.YtbbmcfbfkpnelaaW.PrintLast Go.Proofs.YtbbmcfbfkpnelaaW.PrintMore
def tri (l : List Int) (k : Nat) : Tri := (rd l (k : Nat), rd l ((k + 1 : Nat)), rd l ((k + 2 : Nat)))
def twS (l : List Int) : Nat → List Tri × Nat
  | 0 => ([], 0)
  | k + 1 => (if tri l k ∈ (twS l k).1 then (twS l k).1 else (twS l k).1 ++ [tri l k], if tri l k ∈ (twS l k).1 then (twS l k).2 + 1 else (twS l k).2)
def twN (l : List Int) : Nat := (twS l (l.length - 2)).2
theorem twS_le (l : List Int) (k : Nat) : (twS l k).2 ≤ k := by
  induction k with
  | zero => exact Nat.le_refl _
  | succ k ih => simp only [twS]; split <;> omega
def TRel (w : World) (l : List Int) (v3 v5 : Value) (wr : World) : Prop :=
  ∃ (k : Nat) (i n : Int) (es : Array MapEntry) (clock : Nat), v3 = .int .i64 n ∧ v5 = .int .i64 i ∧ i = (k : Int) + 2 ∧ n = ((twS l k).2 : Nat) ∧ k ≤ l.length - 2 ∧
    wr.heap[w.heap.size]? = some (.map es clock) ∧ Holds es.toList (twS l k).1 ∧ Below w.heap.size w wr
set_option maxHeartbeats 8000000 in
set_option maxRecDepth 100000 in
theorem twins_any (A0 : Option Addr) (c0 : Nat) (l : List Int) (w : World) (hr0 : Kd.C (Kd.int .u8) w A0 l.length l) (hc0 : l.length ≤ c0) (hl : l.length ≤ 140737488355328) :
    Calls Try.prog 19 #[.slice A0 l.length c0] w fun e w' => e = .returned (.int .i64 ((twN l : Nat) : Int)) ∧ Below w.heap.size w w' := by
  have HR0 := Aside0.mk hr0
  have HC0 := Aside0.mk hc0
  have HL := Aside0.mk hl
  clear hr0 hc0 hl
  go_enter Try.func19, Try.ntmps19
  go_wp2_with (first
    | (refine wpList_mk3 _ rfl _ rfl ?_))
  go_loopw [3, 5] (fun v3 v5 wr => TRel w l v3 v5 wr) (fun _ v5 _ => l.length + 2 - (intOf v5).toNat)
  case atStart =>
    refine ⟨0, 2, 0, #[], 0, rfl, rfl, rfl, rfl, by omega, ?_, rfl, (Below.refl _ _).alloc (Nat.le_refl _) _⟩
    show (Array.push w.heap _)[w.heap.size]? = _
    simp
  case round =>
    obtain ⟨k, i, n, es, clock, rfl, rfl, hi, hn, hk, hmap, hh, hbel⟩ := hrel
    have RB := Aside0.mk hbel
    have RM := Aside0.mk hmap
    have RH := Aside0.mk hh
    have RI := Aside0.mk hi
    have RN := Aside0.mk hn
    have HS := Aside0.mk (twS_le l k)
    clear hbel hmap hh hi hn
    by_cases c1 : k + 2 < l.length
    · have c1b : decide (i < (l.length : Int)) = true := decide_eq_true (by have := RI.out; omega)
      obtain ⟨j, hj⟩ : ∃ j : Int, (k : Int) = j := ⟨_, rfl⟩
      obtain ⟨z, hh⟩ : ∃ z : Int, (k : Int) + 3 = z := ⟨_, rfl⟩
      obtain ⟨n1, hn1⟩ : ∃ n1 : Int, n + 1 = n1 := ⟨_, rfl⟩
      have ej : IntKind.i64.wrap (i - 2) = j := by rw [i64_w, IntWalk.wrap64_in _ ⟨by have := RI.out; omega, by have := RI.out; have := HL.out; omega⟩]; have := RI.out; omega
      have eh : IntKind.i64.wrap (i + 1) = z := by rw [i64_w, IntWalk.wrap64_in _ ⟨by have := RI.out; omega, by have := RI.out; have := HL.out; omega⟩]; have := RI.out; omega
      have en : IntKind.i64.wrap (n + 1) = n1 := by rw [i64_w, IntWalk.wrap64_in _ ⟨by have := RN.out; omega, by have := RN.out; have := HS.out; have := HL.out; omega⟩]; omega
      have HJ := Aside0.mk hj
      have HH := Aside0.mk hh
      have HN1 := Aside0.mk hn1
      clear hn1
      have p1 : (0 ≤ j) = True := eq_true (by omega)
      have p2 : (j ≤ z) = True := eq_true (by omega)
      have p3 : (z ≤ (c0 : Int)) = True := eq_true (by have := HC0.out; omega)
      have ec : 3 ≤ z.toNat - k := by omega
      have et : j.toNat = k := by omega
      clear hj hh
      obtain ⟨ad, e, hx0⟩ := Kd.at_int (Kd.C_below HR0.out RB.out) (k : Nat) (by omega) (by omega)
      obtain ⟨ad1, e1, hx1⟩ := Kd.at_int (Kd.C_below HR0.out RB.out) ((k + 1 : Nat) : Int) (by omega) (by omega)
      obtain ⟨ad2, e2, hx2⟩ := Kd.at_int (Kd.C_below HR0.out RB.out) ((k + 2 : Nat) : Int) (by omega) (by omega)
      cases e; cases e1; cases e2
      rw [Int.toNat_natCast] at hx0 hx1 hx2
      have X0 := Aside0.mk hx0
      have X1 := Aside0.mk hx1
      have X2 := Aside0.mk hx2
      clear hx0 hx1 hx2
      by_cases cm : tri l k ∈ (twS l k).1
      · skip
        have cmb : decide (tri l k ∈ (twS l k).1) = true := decide_eq_true cm
        have CM := Aside0.mk cm
        clear cm
        go_wp2
        all_goals try (exfalso; have := HC0.out; omega)
        rw [run_arrayAt wr 46 5 3 _ _ _ Try.underlying46 ec]
        go_wp2_with (first
          | (refine wpList_load3 _ rfl _ rfl (ad.add k) rfl (tri l k) (by rw [Addr.add_add]; exact X0.out) (by rw [Addr.add_add]; exact X1.out) (by rw [Addr.add_add]; exact X2.out) ?_)
          | (go_at_call 25; refine (add_calls w.heap.size _ RM.out RH.out (tri l k)).mono ?_; rintro e w1 ⟨rfl, es1, clock1, hm1, hh1, hb1⟩))
        refine ⟨⟨k + 1, z, n1, es1, clock1, rfl, rfl, by have := HH.out; omega, ?_, by omega, hm1, ?_, RB.out.trans (hb1 _ (Nat.le_refl _) RB.out.size)⟩, by simp only [intOf]; have := RI.out; have := HH.out; omega⟩
        · simp only [twS]; rw [if_pos CM.out]; have := RN.out; have := HN1.out; omega
        · simp only [twS]; exact hh1
      · skip
        have cmb : decide (tri l k ∈ (twS l k).1) = false := decide_eq_false cm
        have CM := Aside0.mk cm
        clear cm
        go_wp2
        all_goals try (exfalso; have := HC0.out; omega)
        rw [run_arrayAt wr 46 5 3 _ _ _ Try.underlying46 ec]
        go_wp2_with (first
          | (refine wpList_load3 _ rfl _ rfl (ad.add k) rfl (tri l k) (by rw [Addr.add_add]; exact X0.out) (by rw [Addr.add_add]; exact X1.out) (by rw [Addr.add_add]; exact X2.out) ?_)
          | (go_at_call 25; refine (add_calls w.heap.size _ RM.out RH.out (tri l k)).mono ?_; rintro e w1 ⟨rfl, es1, clock1, hm1, hh1, hb1⟩))
        refine ⟨⟨k + 1, z, n, es1, clock1, rfl, rfl, by have := HH.out; omega, ?_, by omega, hm1, ?_, RB.out.trans (hb1 _ (Nat.le_refl _) RB.out.size)⟩, by simp only [intOf]; have := RI.out; have := HH.out; omega⟩
        · simp only [twS]; rw [if_neg CM.out]; have := RN.out; have := HN1.out; omega
        · simp only [twS]; exact hh1
    · have c1b : decide (i < (l.length : Int)) = false := decide_eq_false (by have := RI.out; omega)
      go_wp2
      go_ret
      refine ⟨?_, RB.out⟩
      rw [RN.out, show k = l.length - 2 by omega]; rfl
end Go.Proofs.Ytbbmcfbfkpnelaa.Twins
