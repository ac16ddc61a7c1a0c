/- The check sum over natural numbers: its steps are linear, and none is lost. -/
namespace Go.Proofs.Ytdikkpmhepldgaa.CrcPure
def P : Nat := 0x82f63b78
def S (x : Nat) : Nat := if x % 2 = 1 then (x / 2) ^^^ P else x / 2
def It : Nat → Nat → Nat
  | 0, x => x
  | n+1, x => It n (S x)

theorem div2_xor (a b : Nat) : (a ^^^ b) / 2 = (a / 2) ^^^ (b / 2) := by
  apply Nat.eq_of_testBit_eq; intro i
  simp [Nat.testBit_div_two, Nat.testBit_xor]
theorem mod2_xor (a b : Nat) : (a ^^^ b) % 2 = (a % 2 + b % 2) % 2 := by
  have h := Nat.testBit_xor a b 0
  simp only [Nat.testBit_zero] at h
  rcases Nat.mod_two_eq_zero_or_one a with ha | ha <;> rcases Nat.mod_two_eq_zero_or_one b with hb | hb <;>
    rcases Nat.mod_two_eq_zero_or_one (a ^^^ b) with hc | hc <;> simp_all
theorem S_xor (a b : Nat) : S (a ^^^ b) = S a ^^^ S b := by
  unfold S
  rw [mod2_xor, div2_xor]
  rcases Nat.mod_two_eq_zero_or_one a with ha | ha <;> rcases Nat.mod_two_eq_zero_or_one b with hb | hb <;> simp [ha, hb]
  · ac_rfl
  · ac_rfl
  · have : a / 2 ^^^ P ^^^ (b / 2 ^^^ P) = (a / 2 ^^^ b / 2) ^^^ (P ^^^ P) := by ac_rfl
    rw [this]; simp
theorem It_xor (n a b : Nat) : It n (a ^^^ b) = It n a ^^^ It n b := by
  induction n generalizing a b with
  | zero => rfl
  | succ n ih => simp only [It, S_xor, ih]
theorem It_add (m n x : Nat) : It (m + n) x = It n (It m x) := by
  induction m generalizing x with
  | zero => simp [It]
  | succ m ih => rw [Nat.succ_add]; simp only [It, ih]
theorem S_two (x : Nat) : S (2 * x) = x := by unfold S; simp
theorem It_shift (n x : Nat) : It n (2 ^ n * x) = x := by
  induction n generalizing x with
  | zero => simp [It]
  | succ n ih => 
    simp only [It]
    rw [show 2 ^ (n+1) * x = 2 * (2 ^ n * x) by rw [Nat.pow_succ]; ac_rfl, S_two, ih]
theorem S_zero : S 0 = 0 := by decide
theorem It_zero (n : Nat) : It n 0 = 0 := by
  induction n with
  | zero => rfl
  | succ n ih => simp only [It, S_zero, ih]
theorem P_lt : P < 2 ^ 32 := by decide
theorem S_lt {x : Nat} (h : x < 2 ^ 32) : S x < 2 ^ 32 := by
  unfold S
  split
  · exact Nat.xor_lt_two_pow (by omega) P_lt
  · omega
theorem It_lt {x : Nat} (n : Nat) (h : x < 2 ^ 32) : It n x < 2 ^ 32 := by
  induction n generalizing x with
  | zero => exact h
  | succ n ih => exact ih (S_lt h)
theorem S_eq_zero {x : Nat} (h : x < 2 ^ 32) (e : S x = 0) : x = 0 := by
  unfold S at e
  split at e
  · have h1 : (x / 2 ^^^ P).testBit 31 = true := by
      rw [Nat.testBit_xor, Nat.testBit_lt_two_pow (show x / 2 < 2 ^ 31 by omega)]
      decide
    rw [e] at h1; simp at h1
  · omega
theorem It_eq_zero {x : Nat} (n : Nat) (h : x < 2 ^ 32) (e : It n x = 0) : x = 0 := by
  induction n generalizing x with
  | zero => exact e
  | succ n ih => exact S_eq_zero h (ih (S_lt h) e)
theorem xor_eq_zero {a b : Nat} (h : a ^^^ b = 0) : a = b := by
  apply Nat.eq_of_testBit_eq; intro i
  have := congrArg (fun x => Nat.testBit x i) h
  simp [Nat.testBit_xor] at this
  exact this
theorem It_inj {a b : Nat} (n : Nat) (ha : a < 2 ^ 32) (hb : b < 2 ^ 32) (e : It n a = It n b) : a = b := by
  apply xor_eq_zero
  apply It_eq_zero n (Nat.xor_lt_two_pow ha hb)
  rw [It_xor, e]; simp
/-- lowest byte first -/
def num : List Nat → Nat
  | [] => 0
  | b :: l => b + 256 * num l
def proc (r : Nat) : List Nat → Nat
  | [] => r
  | b :: l => proc (It 8 (r ^^^ b)) l
theorem add_xor (b x : Nat) (h : b < 256) : b + 256 * x = b ^^^ (2 ^ 8 * x) := by
  apply Nat.eq_of_testBit_eq; intro i
  rw [show b + 256 * x = 2 ^ 8 * x + b by omega, Nat.testBit_two_pow_mul_add x (by simpa using h), Nat.testBit_xor, Nat.testBit_two_pow_mul]
  by_cases hi : i < 8
  · simp [hi, show ¬ 8 ≤ i by omega]
  · have : b.testBit i = false := Nat.testBit_lt_two_pow (Nat.lt_of_lt_of_le (show b < 2 ^ 8 from h) (Nat.pow_le_pow_right (by decide) (by omega)))
    simp [hi, this, show 8 ≤ i by omega]
theorem proc_num (r : Nat) (l : List Nat) (h : ∀ b ∈ l, b < 256) : proc r l = It (8 * l.length) (r ^^^ num l) := by
  induction l generalizing r with
  | nil => show r = r ^^^ 0; simp
  | cons b l ih =>
    have e : It 8 (r ^^^ (b ^^^ (2 ^ 8 * num l))) = It 8 (r ^^^ b) ^^^ num l := by
      rw [← Nat.xor_assoc, It_xor 8 (r ^^^ b), It_shift]
    have e2 : r ^^^ num (b :: l) = r ^^^ (b ^^^ (2 ^ 8 * num l)) := by rw [← add_xor b _ (h b (List.mem_cons_self ..))]; rfl
    show proc (It 8 (r ^^^ b)) l = It (8 * (l.length + 1)) (r ^^^ num (b :: l))
    rw [ih _ (fun x hx => h x (List.mem_cons_of_mem _ hx)), e2, show 8 * (l.length + 1) = 8 + 8 * l.length by omega, It_add, e]
end Go.Proofs.Ytdikkpmhepldgaa.CrcPure
