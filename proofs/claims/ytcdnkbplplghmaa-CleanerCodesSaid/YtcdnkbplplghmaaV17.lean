/- CRC: plain, and the walks. -/
import Derived.Test.YtcdnkbplplghmaaV16
import Derived.Test.YtcdnkbplplghmaaFwW
import Derived.Test.YtcdnkbplplghmaaMcrc0
namespace Go.Proofs.Ytcdnkbplplghmaa.M
open Go.Proofs.Ytcdnkbplplghmaa.F Go.RowKit
set_option linter.unusedVariables false
set_option linter.unusedSimpArgs false
set_option maxRecDepth 100000
set_option maxHeartbeats 2000000
attribute [local irreducible] Res.cells Res.row Res.map Res.any World.cell? World.frozen? Instr.fieldAt Instr.loadAt Instr.storeAt Instr.indexAt Instr.lookup Instr.mapUpdate Instr.box Instr.build Instr.buildSlice Instr.extract Instr.alloc Instr.field Instr.index Instr.sliceAt Instr.makeSlice Instr.makeMap Instr.makeFunc binS Op.unary Sem.run
theorem wrap_u32 (n : Int) : IntKind.u32.wrap n = n % 4294967296 := by simp [IntKind.wrap, IntKind.bits, IntKind.signed]
theorem wraps_u32 (n : Int) (h₀ : 0 ≤ n) (h₁ : n < 2 ^ 32) : IntKind.u32.wrap n = n := by rw [wrap_u32]; omega
theorem bxor32 {a b : Nat} (ha : a < 2 ^ 32) (hb : b < 2 ^ 32) : Go.bits .xor .u32 (a : Int) (b : Int) = ((a ^^^ b : Nat) : Int) := by
  show IntKind.u32.wrap ((BitVec.ofInt 32 (a : Int) ^^^ BitVec.ofInt 32 (b : Int)).toNat) = _
  have := Nat.xor_lt_two_pow ha hb
  rw [BitVec.ofInt_natCast, BitVec.ofInt_natCast, BitVec.toNat_xor, BitVec.toNat_ofNat, BitVec.toNat_ofNat, Nat.mod_eq_of_lt ha, Nat.mod_eq_of_lt hb]
  exact wraps_u32 _ (by omega) (by omega)
theorem not32 {a : Nat} (ha : a < 2 ^ 32) : Go.bits .xor .u32 IntKind.u32.max (a : Int) = ((4294967295 - a : Nat) : Int) := by
  show IntKind.u32.wrap ((BitVec.ofInt 32 4294967295 ^^^ BitVec.ofInt 32 (a : Int)).toNat) = _
  have e : BitVec.ofInt 32 4294967295 = BitVec.allOnes 32 := by decide
  rw [e, BitVec.allOnes_xor, BitVec.toNat_not, BitVec.ofInt_natCast, BitVec.toNat_ofNat, Nat.mod_eq_of_lt ha, wrap_u32]
  omega
theorem and1_32 {a : Nat} (ha : a < 2 ^ 32) : Go.bits .and .u32 (a : Int) 1 = ((a % 2 : Nat) : Int) := by
  rw [show (1 : Int) = ((1 : Nat) : Int) from rfl, (bits_nat .u32 32 (by decide) wraps_u32 a 1 ha (by decide)).1, Nat.and_one_is_mod]
def stepN (r : Nat) : Nat := if r % 2 = 1 then r / 2 ^^^ 2197175160 else r / 2
theorem stepN_lt {r : Nat} (h : r < 2 ^ 32) : stepN r < 2 ^ 32 := by
  unfold stepN
  split
  · exact Nat.xor_lt_two_pow (by omega) (by decide)
  · omega
def stepK : Nat → Nat → Nat
  | 0, r => r
  | k + 1, r => stepN (stepK k r)
theorem stepK_lt {r : Nat} (h : r < 2 ^ 32) : ∀ k, stepK k r < 2 ^ 32
  | 0 => h
  | k + 1 => stepN_lt (stepK_lt h k)
def byteN (r b : Nat) : Nat := stepK 8 (r ^^^ b)
def regN (l : List Nat) (r : Nat) : Nat := l.foldl byteN r
theorem byteN_lt {r b : Nat} (h : r < 2 ^ 32) (hb : b < 256) : byteN r b < 2 ^ 32 := stepK_lt (Nat.xor_lt_two_pow h (by omega)) 8
theorem regN_lt {l : List Nat} {r : Nat} (hl : ∀ b ∈ l, b < 256) (h : r < 2 ^ 32) : regN l r < 2 ^ 32 := by
  unfold regN
  induction l generalizing r with
  | nil => exact h
  | cons b l ih => exact ih (fun b hb => hl b (.tail _ hb)) (byteN_lt h (hl b (.head _)))
theorem regN_step {l : List Nat} {i r : Nat} (h : i < l.length) : regN (l.take (i + 1)) r = byteN (regN (l.take i) r) l[i] := by
  unfold regN
  rw [List.take_succ_eq_append_getElem h, List.foldl_append]
  rfl
/-- a text's check sum. -/
def sumN (s : ByteArray) : Nat := 4294967295 - regN (bytesN s) 4294967295
theorem sumN_lt (s : ByteArray) : sumN s < 2 ^ 32 := by unfold sumN; omega
def four (c : Nat) : List Nat := [c % 256, c / 256 % 256, c / 65536 % 256, c / 16777216 % 256]
theorem four_lt (c : Nat) : ∀ b ∈ four c, b < 256 := fun b hb => by
  simp only [four, List.mem_cons, List.not_mem_nil, or_false] at hb
  omega
def sealS (s : ByteArray) : ByteArray := s ++ strN (four (sumN s))
theorem strN_size (l : List Nat) (h : ∀ b ∈ l, b < 256) : (strN l).size = l.length := by
  rw [← bytesN_length, bytesN_strN h]
theorem sealS_size (s : ByteArray) : (sealS s).size = s.size + 4 := by
  unfold sealS
  rw [ByteArray.size_append, strN_size _ (four_lt _)]
  rfl
section
variable (x y : Operand) (w : World)
theorem xor113 (a b : Int) : (binS .xor 113 x y (.int .u32 a) (.int .u32 b)).run Try.prog w = .ok (.int .u32 (Go.bits .xor .u32 a b)) w := by
  rw [binS_run _ _ _ _ _ _ (by kernel_rfl)]; simp [go_sem, binOp]
theorem shr113_8 (a : Int) : (binS .shr 113 x y (.int .u32 a) (.int .u64 8)).run Try.prog w = .ok (.int .u32 (a / 256)) w := by
  rw [binS_run _ _ _ _ _ _ (by kernel_rfl)]
  simp [go_sem, binOp]
theorem shr113_16 (a : Int) : (binS .shr 113 x y (.int .u32 a) (.int .u64 16)).run Try.prog w = .ok (.int .u32 (a / 65536)) w := by
  rw [binS_run _ _ _ _ _ _ (by kernel_rfl)]
  simp [go_sem, binOp]
theorem shr113_24 (a : Int) : (binS .shr 113 x y (.int .u32 a) (.int .u64 24)).run Try.prog w = .ok (.int .u32 (a / 16777216)) w := by
  rw [binS_run _ _ _ _ _ _ (by kernel_rfl)]
  simp [go_sem, binOp]
theorem cv8_113 (a : Int) : (convert 5 113 (.int .u8 a)).run Try.prog w = .ok (.int .u32 (IntKind.u32.wrap a)) w := by simp [go_sem]
theorem cv113_8 (a : Int) : (convert 113 5 (.int .u32 a)).run Try.prog w = .ok (.int .u8 (IntKind.u8.wrap a)) w := by simp [go_sem]
theorem sub113 (a b : Nat) (h : b ≤ a) (ha : a < 2 ^ 32) : (binS .sub 113 x y (.int .u32 (a : Int)) (.int .u32 (b : Int))).run Try.prog w = .ok (.int .u32 ((a - b : Nat) : Int)) w := by
  rw [binS_run _ _ _ _ _ _ (by kernel_rfl)]
  simp [go_sem, binOp, wrap_u32]
  omega
theorem rem113 (a b : Nat) (hb : 0 < b) (ha : a < 2 ^ 32) : (binS .rem 113 x y (.int .u32 (a : Int)) (.int .u32 (b : Int))).run Try.prog w = .ok (.int .u32 ((a % b : Nat) : Int)) w := by
  rw [binS_run _ _ _ _ _ _ (by kernel_rfl)]
  have hne : ¬ (b : Int) = 0 := by omega
  have hne' : ¬ b = 0 := by omega
  have h1 : Int.tmod (a : Int) (b : Int) = ((a % b : Nat) : Int) := by rw [Int.tmod_eq_emod_of_nonneg (by omega)]; norm_cast
  have h2 : a % b ≤ a := Nat.mod_le _ _
  have h3 : IntKind.u32.wrap ((a % b : Nat) : Int) = ((a % b : Nat) : Int) := by
    generalize a % b = q at *
    exact wraps_u32 _ (by omega) (by omega)
  simp [go_sem, binOp, hne, hne', h1, h3, -Int.natCast_emod]
theorem quo113 (a b : Nat) (hb : 0 < b) (ha : a < 2 ^ 32) : (binS .quo 113 x y (.int .u32 (a : Int)) (.int .u32 (b : Int))).run Try.prog w = .ok (.int .u32 ((a / b : Nat) : Int)) w := by
  rw [binS_run _ _ _ _ _ _ (by kernel_rfl)]
  have hne : ¬ (b : Int) = 0 := by omega
  have hne' : ¬ b = 0 := by omega
  have h1 : Int.tdiv (a : Int) (b : Int) = ((a / b : Nat) : Int) := by rw [Int.tdiv_eq_ediv_of_nonneg (by omega)]; norm_cast
  have h2 : a / b ≤ a := Nat.div_le_self _ _
  have h3 : IntKind.u32.wrap ((a / b : Nat) : Int) = ((a / b : Nat) : Int) := by
    generalize a / b = q at *
    exact wraps_u32 _ (by omega) (by omega)
  simp [go_sem, binOp, hne, hne', h1, h3, -Int.natCast_ediv]
end
section
variable {w0 w : World} {F : List Nat} {L : List Res} {s : ByteArray}
theorem step_ret {r : Nat} (hr : r < 2 ^ 32) (hS : St w0 F w L) : Ret Try.prog 97 #[.int .u32 (r : Int)] w fun v w' => v = .int .u32 (stepN r : Int) ∧ St w0 F w' L := by
  refine s97 _ ?_
  unfold m97 m97_0 m97_1
  refine valP_ok (andR _ _ _ _ _) ?_
  rw [and1_32 hr]
  refine valP_ok (eq148 _ _ _ _ _) ?_
  unfold m97_4
  refine cond_split (fun h => ?_) (fun h => ?_)
  · refine valP_ok (shrR _ _ _ _) ?_
    rw [show (r : Int) / 2 = ((r / 2 : Nat) : Int) by omega]
    refine valP_ok (xorR _ _ _ _ _) ?_
    rw [show (2197175160 : Int) = ((2197175160 : Nat) : Int) from rfl, bxor32 (by omega) (by decide)]
    unfold m97_5 stepN
    rw [if_pos (by omega)]
    exact ⟨rfl, hS⟩
  · unfold m97_2
    refine valP_ok (shrR _ _ _ _) ?_
    rw [show (r : Int) / 2 = ((r / 2 : Nat) : Int) by omega]
    unfold m97_3 stepN
    rw [if_neg (by omega)]
    exact ⟨rfl, hS⟩
theorem more_ret (hs : s.size ≤ maxLen) (hS : St w0 F w L) : Ret Try.prog 85 #[.int .u32 0, .string s] w fun v w' => v = .int .u32 (sumN s : Int) ∧ St w0 F w' L := by
  have hs' : s.size ≤ 9223372036854775807 := hs
  refine s85 _ _ ?_
  unfold m85 m85_0 m85_1
  refine valP_ok (notR _ _) ?_
  rw [show (0 : Int) = ((0 : Nat) : Int) from rfl, not32 (by decide)]
  unfold m85_2
  refine builtin_ok (len9 _) ?_
  unfold m85_5
  refine loop_in (fun u w' => ∃ i : Nat, u = (.int .u32 (regN ((bytesN s).take i) 4294967295 : Int), .int .i64 (i : Int)) ∧ i ≤ s.size ∧ St w0 F w' L) (fun u _ => s.size - (intOf u.2).toNat) ⟨0, rfl, by omega, hS⟩ ?_
  clear hS
  rintro u w ⟨i, rfl, hi, hS⟩
  simp only
  have hlt : regN ((bytesN s).take i) 4294967295 < 2 ^ 32 := regN_lt (fun b hb => bytesN_lt s b (List.mem_of_mem_take hb)) (by decide)
  unfold m85_6
  refine valP_ok (lss_ok _ _ _ _ _ _ _) ?_
  unfold m85_7
  refine cond_split (fun h => ?_) (fun h => ?_)
  · have his : i < s.size := by omega
    have hst := regN_step (l := bytesN s) (i := i) (r := 4294967295) (by rw [bytesN_length]; exact his)
    rw [bytesN_get s i his] at hst
    have hb : s[i].toNat < 256 := UInt8.toNat_lt _
    generalize regN ((bytesN s).take i) 4294967295 = r at *
    unfold m85_8 m85_10
    refine valP_ok (sidx _ his) ?_
    refine valP_ok (cv8_R _ _) ?_
    rw [wraps_u32 _ (by omega) (by omega)]
    refine valP_ok (xorR _ _ _ _ _) ?_
    rw [bxor32 hlt (by omega)]
    unfold m85_11 m85_12
    have hx : r ^^^ s[i].toNat < 2 ^ 32 := Nat.xor_lt_two_pow hlt (by omega)
    refine loop_in (fun u w' => ∃ k : Nat, u = (.int .u32 (stepK k (r ^^^ s[i].toNat) : Int), .int .i64 (k : Int)) ∧ k ≤ 8 ∧ St w0 F w' L) (fun u _ => 8 - (intOf u.2).toNat) ⟨0, rfl, by omega, hS⟩ ?_
    clear hS
    rintro u w ⟨k, rfl, hk, hS⟩
    simp only
    unfold m85_13
    refine valP_ok (lss_ok _ _ _ _ _ _ _) ?_
    unfold m85_14
    refine cond_split (fun h1 => ?_) (fun h1 => ?_)
    · unfold m85_15
      refine callR (by kernel_rfl) (step_ret (stepK_lt hx k) hS) ?_
      rintro _ w ⟨rfl, hS⟩
      unfold m85_16
      refine valP_ok (add_ok _ _ _ (by omega) (by omega) _) ?_
      exact ⟨⟨k + 1, rfl, by omega, hS⟩, by simp [intOf]; omega⟩
    · obtain rfl : k = 8 := by omega
      unfold m85_9
      refine valP_ok (add_ok _ _ _ (by omega) (by omega) _) ?_
      refine ⟨⟨i + 1, ?_, by omega, hS⟩, by simp [intOf]; omega⟩
      rw [hst]
      rfl
  · obtain rfl : i = s.size := by omega
    rw [← bytesN_length, List.take_length] at hlt ⊢
    unfold m85_3
    refine valP_ok (notR _ _) ?_
    rw [not32 hlt]
    unfold m85_4
    exact ⟨rfl, hS⟩
theorem csum_ret (hs : s.size ≤ maxLen) (hS : St w0 F w L) : Ret Try.prog 60 #[.string s] w fun v w' => v = .int .u32 (sumN s : Int) ∧ St w0 F w' L := by
  refine s60 _ ?_
  unfold m60 m60_0 m60_1
  refine callR (by kernel_rfl) (more_ret hs hS) ?_
  rintro _ w ⟨rfl, hS⟩
  unfold m60_2
  exact ⟨rfl, hS⟩
theorem rmore_ret (hs : s.size ≤ maxLen) (hS : St w0 F w L) : Ret Try.prog 87 #[.int .u32 0, .string s] w fun v w' => v = .int .u32 (sumN s : Int) ∧ St w0 F w' L := by
  have hs' : s.size ≤ 9223372036854775807 := hs
  refine s87 _ _ ?_
  unfold m87 m87_0 m87_1
  refine valP_ok (sub113 _ _ _ 4294967295 0 (by omega) (by omega)) ?_
  unfold m87_2 m87_5
  refine loop_in (fun u w' => ∃ i : Nat, u = (.int .u32 (regN ((bytesN s).take i) 4294967295 : Int), .int .i64 (i : Int)) ∧ i ≤ s.size ∧ St w0 F w' L) (fun u _ => s.size - (intOf u.2).toNat) ⟨0, rfl, by omega, hS⟩ ?_
  clear hS
  rintro u w ⟨i, rfl, hi, hS⟩
  simp only
  have hlt : regN ((bytesN s).take i) 4294967295 < 2 ^ 32 := regN_lt (fun b hb => bytesN_lt s b (List.mem_of_mem_take hb)) (by decide)
  unfold m87_6
  refine builtin_ok (len9 _) ?_
  refine valP_ok (lss_ok _ _ _ _ _ _ _) ?_
  unfold m87_18
  refine cond_split (fun h => ?_) (fun h => ?_)
  · have his : i < s.size := by omega
    have hst := regN_step (l := bytesN s) (i := i) (r := 4294967295) (by rw [bytesN_length]; exact his)
    rw [bytesN_get s i his] at hst
    have hb : s[i].toNat < 256 := UInt8.toNat_lt _
    generalize regN ((bytesN s).take i) 4294967295 = r at *
    unfold m87_7
    refine valP_ok (sidx _ his) ?_
    refine valP_ok (cv8_113 _ _) ?_
    rw [wraps_u32 _ (by omega) (by omega)]
    refine valP_ok (xor113 _ _ _ _ _) ?_
    rw [bxor32 hlt (by omega)]
    unfold m87_9 m87_10
    have hx : r ^^^ s[i].toNat < 2 ^ 32 := Nat.xor_lt_two_pow hlt (by omega)
    refine loop_in (fun u w' => ∃ k : Nat, u = (.int .u32 (stepK k (r ^^^ s[i].toNat) : Int), .int .i64 (k : Int)) ∧ k ≤ 8 ∧ St w0 F w' L) (fun u _ => 8 - (intOf u.2).toNat) ⟨0, rfl, by omega, hS⟩ ?_
    clear hS
    rintro u w ⟨k, rfl, hk, hS⟩
    simp only
    have hkl := stepK_lt hx k
    have hsucc : stepK (k + 1) (r ^^^ s[i].toNat) = stepN (stepK k (r ^^^ s[i].toNat)) := rfl
    unfold m87_11
    refine valP_ok (lss_ok _ _ _ _ _ _ _) ?_
    unfold m87_17
    refine cond_split (fun h1 => ?_) (fun h1 => ?_)
    · generalize stepK k (r ^^^ s[i].toNat) = q at *
      unfold m87_12
      refine valP_ok (rem113 _ _ _ q 2 (by omega) hkl) ?_
      refine valP_ok (eq113 _ _ _ _ _) ?_
      unfold m87_14
      refine valP_ok (quo113 _ _ _ q 2 (by omega) hkl) ?_
      unfold m87_15 m87_16
      refine cond_split (fun h2 => ?_) (fun h2 => ?_)
      · refine valP_ok (xor113 _ _ _ _ _) ?_
        rw [show (2197175160 : Int) = ((2197175160 : Nat) : Int) from rfl, bxor32 (by omega) (by decide)]
        unfold m87_13
        refine valP_ok (add_ok _ _ _ (by omega) (by omega) _) ?_
        refine ⟨⟨k + 1, ?_, by omega, hS⟩, by simp [intOf]; omega⟩
        rw [hsucc, stepN, if_pos (by omega)]
        rfl
      · unfold m87_13
        refine valP_ok (add_ok _ _ _ (by omega) (by omega) _) ?_
        refine ⟨⟨k + 1, ?_, by omega, hS⟩, by simp [intOf]; omega⟩
        rw [hsucc, stepN, if_neg (by omega)]
        rfl
    · obtain rfl : k = 8 := by omega
      unfold m87_8
      refine valP_ok (add_ok _ _ _ (by omega) (by omega) _) ?_
      refine ⟨⟨i + 1, ?_, by omega, hS⟩, by simp [intOf]; omega⟩
      rw [hst]
      rfl
  · obtain rfl : i = s.size := by omega
    rw [← bytesN_length, List.take_length] at hlt ⊢
    unfold m87_3
    refine valP_ok (sub113 _ _ _ 4294967295 _ (by omega) (by omega)) ?_
    unfold m87_4
    exact ⟨rfl, hS⟩
theorem rsum_ret (hs : s.size ≤ maxLen) (hS : St w0 F w L) : Ret Try.prog 64 #[.string s] w fun v w' => v = .int .u32 (sumN s : Int) ∧ St w0 F w' L := by
  refine s64 _ ?_
  unfold m64 m64_0 m64_1
  refine callR (by kernel_rfl) (rmore_ret hs hS) ?_
  rintro _ w ⟨rfl, hS⟩
  unfold m64_2
  exact ⟨rfl, hS⟩
end

end Go.Proofs.Ytcdnkbplplghmaa.M
