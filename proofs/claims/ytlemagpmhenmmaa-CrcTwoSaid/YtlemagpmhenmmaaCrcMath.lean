/- The plain mathematics of CRC-32: steps are linear, eight of them by a table, pieces, bursts of at most 32 bits are seen. No conditions beyond those that each lemma names. -/
namespace Go.Proofs.Ytlemagpmhenmmaa.Crc

def poly : Nat := 3988292384
def step (x : Nat) : Nat := if x % 2 = 1 then (x / 2) ^^^ poly else x / 2
def steps : Nat → Nat → Nat
  | 0, x => x
  | n + 1, x => steps n (step x)

theorem xor_div2 (a b : Nat) : (a ^^^ b) / 2 = a / 2 ^^^ b / 2 := by
  apply Nat.eq_of_testBit_eq; intro i
  simp only [Nat.testBit_div_two, Nat.testBit_xor]
theorem xor_mod2 (a b : Nat) : (a ^^^ b) % 2 = (a + b) % 2 := by
  have h : decide ((a ^^^ b) % 2 = 1) = (decide (a % 2 = 1) ^^ decide (b % 2 = 1)) := by
    have h := Nat.testBit_xor a b 0
    simpa only [Nat.testBit_zero] using h
  by_cases ha : a % 2 = 1 <;> by_cases hb : b % 2 = 1
  · rw [decide_eq_true ha, decide_eq_true hb] at h; have := of_decide_eq_false h; omega
  · rw [decide_eq_true ha, decide_eq_false hb] at h; have := of_decide_eq_true h; omega
  · rw [decide_eq_false ha, decide_eq_true hb] at h; have := of_decide_eq_true h; omega
  · rw [decide_eq_false ha, decide_eq_false hb] at h; have := of_decide_eq_false h; omega
theorem xor_cancel (a b p : Nat) : (a ^^^ p) ^^^ (b ^^^ p) = a ^^^ b := by
  apply Nat.eq_of_testBit_eq; intro i
  simp only [Nat.testBit_xor]
  cases a.testBit i <;> cases b.testBit i <;> cases p.testBit i <;> rfl
theorem xor_mid (a b p : Nat) : (a ^^^ p) ^^^ b = (a ^^^ b) ^^^ p := by
  apply Nat.eq_of_testBit_eq; intro i
  simp only [Nat.testBit_xor]
  cases a.testBit i <;> cases b.testBit i <;> cases p.testBit i <;> rfl
theorem xor_four (a b c d : Nat) : (a ^^^ b) ^^^ (c ^^^ d) = (a ^^^ c) ^^^ (b ^^^ d) := by
  apply Nat.eq_of_testBit_eq; intro i
  simp only [Nat.testBit_xor]
  cases a.testBit i <;> cases b.testBit i <;> cases c.testBit i <;> cases d.testBit i <;> rfl

theorem step_xor (a b : Nat) : step (a ^^^ b) = step a ^^^ step b := by
  unfold step
  rw [xor_mod2, xor_div2]
  by_cases ha : a % 2 = 1
  · by_cases hb : b % 2 = 1
    · rw [if_neg (by omega), if_pos ha, if_pos hb, xor_cancel]
    · rw [if_pos (by omega), if_pos ha, if_neg hb, xor_mid]
  · by_cases hb : b % 2 = 1
    · rw [if_pos (by omega), if_neg ha, if_pos hb, Nat.xor_assoc]
    · rw [if_neg (by omega), if_neg ha, if_neg hb]
theorem steps_xor (n : Nat) : ∀ a b : Nat, steps n (a ^^^ b) = steps n a ^^^ steps n b := by
  induction n with
  | zero => intro a b; rfl
  | succ n ih => intro a b; simp only [steps]; rw [step_xor, ih]
theorem step_lt {x : Nat} (h : x < 4294967296) : step x < 4294967296 := by
  unfold step
  split
  · exact Nat.xor_lt_two_pow (n := 32) (by omega) (by decide)
  · omega
theorem steps_lt (n : Nat) : ∀ {x : Nat}, x < 4294967296 → steps n x < 4294967296 := by
  induction n with
  | zero => intro x h; exact h
  | succ n ih => intro x h; simp only [steps]; exact ih (step_lt h)
theorem steps_shift (n : Nat) : ∀ y : Nat, steps n (2 ^ n * y) = y := by
  induction n with
  | zero => intro y; simp [steps]
  | succ n ih =>
    intro y
    have e : step (2 ^ (n + 1) * y) = 2 ^ n * y := by
      have h2 : 2 ^ (n + 1) * y = 2 * (2 ^ n * y) := by rw [Nat.pow_succ, Nat.mul_comm (2 ^ n) 2, Nat.mul_assoc]
      rw [h2]
      unfold step
      rw [if_neg (by omega)]
      omega
    simp only [steps]; rw [e, ih]
theorem split8 (x : Nat) : x = (x % 256) ^^^ (2 ^ 8 * (x / 256)) := by
  apply Nat.eq_of_testBit_eq; intro i
  rw [Nat.testBit_xor, Nat.testBit_two_pow_mul, show (256 : Nat) = 2 ^ 8 from rfl, Nat.testBit_mod_two_pow, Nat.testBit_div_two_pow]
  by_cases h : i < 8
  · simp [h, show ¬ 8 ≤ i by omega]
  · simp [h, show 8 ≤ i by omega]
theorem table (x : Nat) : steps 8 x = steps 8 (x % 256) ^^^ (x / 256) := by
  conv => lhs; rw [split8 x]
  rw [steps_xor, steps_shift]
theorem xor_mod256 (x c : Nat) (hc : c < 256) : (x ^^^ c) % 256 = (x % 256) ^^^ c := by
  have := Nat.xor_mod_two_pow (a := x) (b := c) (n := 8)
  rw [show (2 : Nat) ^ 8 = 256 from rfl] at this
  rw [this, Nat.mod_eq_of_lt hc]
theorem xor_div256 (x c : Nat) (hc : c < 256) : (x ^^^ c) / 256 = x / 256 := by
  apply Nat.eq_of_testBit_eq; intro i
  rw [show (256 : Nat) = 2 ^ 8 from rfl, Nat.testBit_div_two_pow, Nat.testBit_div_two_pow, Nat.testBit_xor]
  have : c.testBit (i + 8) = false := Nat.testBit_lt_two_pow (Nat.lt_of_lt_of_le hc (by rw [show (256 : Nat) = 2 ^ 8 from rfl]; exact Nat.pow_le_pow_right (by decide) (by omega)))
  simp [this]

/-- One byte more. -/
def byte (x c : Nat) : Nat := steps 8 (x ^^^ c)
theorem byte_table (x c : Nat) (hc : c < 256) : steps 8 ((x % 256) ^^^ c) ^^^ (x / 256) = byte x c := by
  unfold byte
  rw [table (x ^^^ c), xor_mod256 x c hc, xor_div256 x c hc]
theorem byte_lt {x c : Nat} (h : x < 4294967296) (hc : c < 256) : byte x c < 4294967296 := steps_lt 8 (Nat.xor_lt_two_pow (n := 32) h (by omega))
def run : Nat → List Nat → Nat
  | x, [] => x
  | x, c :: l => run (byte x c) l
theorem run_nil (x : Nat) : run x [] = x := rfl
theorem run_cons (x c : Nat) (l : List Nat) : run x (c :: l) = run (byte x c) l := rfl
theorem run_append (l m : List Nat) : ∀ x : Nat, run x (l ++ m) = run (run x l) m := by
  induction l with
  | nil => intro x; rfl
  | cons c l ih => intro x; exact ih _
theorem run_lt (l : List Nat) : ∀ {x : Nat}, x < 4294967296 → (∀ c ∈ l, c < 256) → run x l < 4294967296 := by
  induction l with
  | nil => intro x h _; exact h
  | cons c l ih => intro x h hl; exact ih (byte_lt h (hl c (by simp))) fun d hd => hl d (by simp [hd])
theorem run_xor (l : List Nat) : ∀ (m : List Nat) (x y : Nat), l.length = m.length → run (x ^^^ y) (List.zipWith (· ^^^ ·) l m) = run x l ^^^ run y m := by
  induction l with
  | nil => intro m x y h; cases m with
    | nil => rfl
    | cons => simp at h
  | cons c l ih => intro m x y h; cases m with
    | nil => simp at h
    | cons d m =>
      rw [List.zipWith_cons_cons, run_cons, run_cons, run_cons]
      have e : byte (x ^^^ y) (c ^^^ d) = byte x c ^^^ byte y d := by unfold byte; rw [← steps_xor, xor_four]
      rw [e]
      exact ih m _ _ (by simpa using h)

/-! bit by bit -/
def runb : Nat → List Nat → Nat
  | x, [] => x
  | x, d :: l => runb (step (x ^^^ d)) l
def bitsOf : Nat → Nat → List Nat
  | 0, _ => []
  | n + 1, c => c % 2 :: bitsOf n (c / 2)
theorem runb_append (l m : List Nat) : ∀ x : Nat, runb x (l ++ m) = runb (runb x l) m := by
  induction l with
  | nil => intro x; rfl
  | cons c l ih => intro x; exact ih _
theorem split1 (c : Nat) : c = (c % 2) ^^^ (2 * (c / 2)) := by
  apply Nat.eq_of_testBit_eq; intro i
  rw [Nat.testBit_xor]
  cases i with
  | zero => simp
  | succ i =>
    rw [Nat.testBit_succ, Nat.testBit_succ, Nat.testBit_succ]
    have e1 : c % 2 / 2 = 0 := by omega
    have e2 : 2 * (c / 2) / 2 = c / 2 := by omega
    rw [e1, e2]; simp
theorem steps_bits (n : Nat) : ∀ x c : Nat, c < 2 ^ n → steps n (x ^^^ c) = runb x (bitsOf n c) := by
  induction n with
  | zero => intro x c h; simp at h; subst h; simp [steps, runb, bitsOf]
  | succ n ih =>
    intro x c h
    simp only [steps, bitsOf, runb]
    have e : step (x ^^^ c) = step (x ^^^ c % 2) ^^^ (c / 2) := by
      conv => lhs; rw [split1 c, ← Nat.xor_assoc, step_xor]
      have : step (2 * (c / 2)) = c / 2 := by unfold step; rw [if_neg (by omega)]; omega
      rw [this]
    rw [e]
    exact ih _ _ (by rw [Nat.pow_succ] at h; omega)
theorem run_bits (l : List Nat) : ∀ x : Nat, (∀ c ∈ l, c < 256) → run x l = runb x (l.flatMap (bitsOf 8)) := by
  induction l with
  | nil => intro x _; rfl
  | cons c l ih =>
    intro x h
    rw [run_cons, List.flatMap_cons]
    rw [runb_append, ← steps_bits 8 x c (h c (by simp))]
    exact ih _ fun d hd => h d (by simp [hd])
theorem step_small {x k : Nat} (hx : x < 4294967296) (hk : k ≤ 31) (h : step x < 2 ^ k) : x < 2 ^ (k + 1) ∧ x % 2 = 0 := by
  unfold step at h
  by_cases e : x % 2 = 1
  · rw [if_pos e] at h
    exfalso
    have h31 : ((x / 2) ^^^ poly).testBit 31 = true := by
      rw [Nat.testBit_xor]
      have a : (x / 2).testBit 31 = false := Nat.testBit_lt_two_pow (by omega)
      have b : poly.testBit 31 = true := by decide
      rw [a, b]; rfl
    have hle := Nat.ge_two_pow_of_testBit h31
    have : (2 : Nat) ^ k ≤ 2 ^ 31 := Nat.pow_le_pow_right (by decide) hk
    omega
  · rw [if_neg e] at h
    refine ⟨?_, by omega⟩
    rw [Nat.pow_succ]; omega
theorem runb_small (ds : List Nat) : ∀ x : Nat, x < 4294967296 → (∀ d ∈ ds, d < 2) → ds.length ≤ 32 → runb x ds = 0 → x < 2 ^ ds.length := by
  induction ds with
  | nil => intro x _ _ _ h; simp [runb] at h; simp [h]
  | cons d ds ih =>
    intro x hx hd hl h
    simp only [runb] at h
    have hd2 := hd d (by simp)
    have hxd : x ^^^ d < 4294967296 := Nat.xor_lt_two_pow (n := 32) hx (by omega)
    have h1 := ih _ (step_lt hxd) (fun e he => hd e (by simp [he])) (by simp at hl; omega) h
    obtain ⟨h2, h3⟩ := step_small hxd (by simp at hl; omega) h1
    simp only [List.length_cons]
    have e : x = (x ^^^ d) ^^^ d := by rw [Nat.xor_assoc, Nat.xor_self, Nat.xor_zero]
    rw [e]
    exact Nat.xor_lt_two_pow h2 (Nat.lt_of_lt_of_le hd2 (by have := Nat.pow_le_pow_right (show 0 < 2 by decide) (show 1 ≤ ds.length + 1 by omega); simpa using this))
theorem runb_zeros (n : Nat) : ∀ x : Nat, x < 4294967296 → runb x (List.replicate n 0) = 0 → x = 0 := by
  induction n with
  | zero => intro x _ h; exact h
  | succ n ih =>
    intro x hx h
    simp only [List.replicate_succ, runb, Nat.xor_zero] at h
    have h0 := ih _ (step_lt hx) h
    have h2 := step_small (k := 0) hx (by decide) (by rw [h0]; decide)
    omega
theorem runb_nought (n : Nat) : runb 0 (List.replicate n 0) = 0 := by
  induction n with
  | zero => rfl
  | succ n ih => simpa [List.replicate_succ, runb, step] using ih
theorem runb_lt (ds : List Nat) : ∀ {x : Nat}, x < 4294967296 → (∀ d ∈ ds, d < 2) → runb x ds < 4294967296 := by
  induction ds with
  | nil => intro x h _; exact h
  | cons d ds ih => intro x h hd; exact ih (step_lt (Nat.xor_lt_two_pow (n := 32) h (by have := hd d (by simp); omega))) fun e he => hd e (by simp [he])
/-- A burst: noughts, a one, at most 31 bits more, noughts. -/
theorem burst (p q : Nat) (ds : List Nat) (hd : ∀ d ∈ ds, d < 2) (hl : ds.length ≤ 31) : runb 0 (List.replicate p 0 ++ (1 :: ds ++ List.replicate q 0)) ≠ 0 := by
  intro h
  rw [runb_append, runb_nought, runb_append] at h
  have h1 := runb_zeros q _ (runb_lt _ (by decide) (by intro d h; simp at h; rcases h with rfl | h; decide; exact hd d h)) h
  simp only [runb] at h1
  have h2 := runb_small ds _ (by decide) hd (by omega) h1
  have e : step (0 ^^^ 1) = poly := by decide
  rw [e] at h2
  have : (2 : Nat) ^ ds.length ≤ 2 ^ 31 := Nat.pow_le_pow_right (by decide) hl
  have : poly ≥ 2 ^ 31 := by decide
  omega
end Go.Proofs.Ytlemagpmhenmmaa.Crc
