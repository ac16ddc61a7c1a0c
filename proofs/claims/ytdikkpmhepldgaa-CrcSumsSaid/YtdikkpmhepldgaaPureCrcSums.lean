/- The pure statement of CrcSums: any text has the check sum that the reference tells, also gone on with from any other one. No condition beyond the statement's own: the texts that Go can hold. -/
import Derived.Test.YtdikkpmhepldgaaPCrcSumsx1
import Derived.Test.YtdikkpmhepldgaaCrcPure
import Derived.OpenShut
namespace Go.Proofs.Ytdikkpmhepldgaa.Pure
open Go.RowKit Go.Proofs.Ytdikkpmhepldgaa.PCrcSums Go.Proofs.YtdikkpmhepldgaaW.PrintWords Go.Proofs.YtdikkpmhepldgaaW.PrintLast CrcPure

theorem xor32 (a b : Nat) (ha : a < 4294967296) (hb : b < 4294967296) : Go.bits .xor .u32 (a : Int) (b : Int) = ((a ^^^ b : Nat) : Int) := by
  have h := Nat.xor_lt_two_pow (n := 32) (x := a) (y := b) ha hb
  show IntKind.u32.wrap ((BitVec.ofInt 32 a ^^^ BitVec.ofInt 32 b).toNat) = _
  rw [IntKind.wrap_u32, BitVec.ofInt_natCast, BitVec.ofInt_natCast, BitVec.toNat_xor, BitVec.toNat_ofNat, BitVec.toNat_ofNat, Nat.mod_eq_of_lt ha, Nat.mod_eq_of_lt hb]
  omega
theorem and1 (a : Nat) (ha : a < 4294967296) : Go.bits .and .u32 (a : Int) 1 = ((a % 2 : Nat) : Int) := by
  show IntKind.u32.wrap ((BitVec.ofInt 32 a &&& BitVec.ofInt 32 ((1 : Nat) : Int)).toNat) = _
  rw [IntKind.wrap_u32, BitVec.ofInt_natCast, BitVec.ofInt_natCast, BitVec.toNat_and, BitVec.toNat_ofNat, BitVec.toNat_ofNat, Nat.mod_eq_of_lt ha, Nat.mod_eq_of_lt (by omega : 1 < 2 ^ 32), Nat.and_one_is_mod]
  omega
theorem step_f (x : Nat) (h : x < 4294967296) : crc_register_step.f (x : Int) = some ((S x : Nat) : Int) := by
  unfold crc_register_step.f S
  rw [and1 x h]
  by_cases e : x % 2 = 1
  · rw [if_pos (by omega), if_pos e]
    have : ((x : Int) / 2) = ((x / 2 : Nat) : Int) := by omega
    rw [this]; exact congrArg some (xor32 (x / 2) 2197175160 (by omega) (by omega))
  · rw [if_neg (by omega), if_neg e]
    congr 1
def bytesN (s : ByteArray) : List Nat := s.data.toList.map UInt8.toNat
theorem bytesN_length (s : ByteArray) : (bytesN s).length = s.size := by unfold bytesN; rw [List.length_map, Array.length_toList]; rfl
theorem bytesN_lt (s : ByteArray) : ∀ b ∈ bytesN s, b < 256 := by
  intro b hb; simp only [bytesN, List.mem_map] at hb; obtain ⟨u, _, rfl⟩ := hb; exact u.toNat_lt
theorem bt_bytesN (s : ByteArray) (i : Nat) (h : i < s.size) : bt s (i : Int) = (((bytesN s)[i]'(by rw [bytesN_length]; exact h) : Nat) : Int) := by
  have e := bt_at s (i : Int) h
  rw [← e]
  unfold bytesN
  rw [List.getElem_map]
  rfl
theorem wrap_succ (i : Nat) (h : i ≤ 140737488351232) : wrap64 ((i : Int) + 1) = ((i + 1 : Nat) : Int) := by unfold wrap64; omega
theorem l1_ev (s : ByteArray) (sz i : Int) (v : Int) (d : Nat) : ∀ (x : Nat), x < 4294967296 → d ≤ 8 →
    Ev (fun k => crc_More.l0 k s ((It d x : Nat) : Int) sz (wrap64 (i + 1))) v → Ev (fun k => crc_More.l1 k s (x : Int) sz i ((8 - d : Nat) : Int)) v := by
  induction d with
  | zero =>
    intro x hx _ h
    refine Ev.step (fun k => ?_) h
    simp only [crc_More.l1]
    rw [if_neg (by omega)]
    rfl
  | succ d ih =>
    intro x hx hd h
    refine Ev.step (fun k => ?_) (ih (S x) (S_lt hx) (by omega) h)
    simp only [crc_More.l1]
    rw [if_pos (by omega), step_f x hx, Option.bind_some, wrap_succ _ (by omega)]
    congr 1
    omega
theorem l0_ev (s : ByteArray) (hs : s.size ≤ 140737488351232) (d : Nat) : ∀ (x i : Nat), x < 4294967296 → i + d = s.size →
    Ev (fun k => crc_More.l0 k s (x : Int) (s.size : Int) (i : Int)) ((4294967295 ^^^ proc x ((bytesN s).drop i) : Nat) : Int) := by
  induction d with
  | zero =>
    intro x i hx hi
    refine Ev.step (fun k => ?_) (Ev.now _)
    simp only [crc_More.l0]
    rw [if_neg (by omega), List.drop_eq_nil_of_le (by rw [bytesN_length]; omega)]
    exact congrArg some (xor32 4294967295 x (by omega) hx)
  | succ d ih =>
    intro x i hx hi
    have hi' : i < s.size := by omega
    have hb := bytesN_lt s _ (List.getElem_mem (l := bytesN s) (n := i) (by rw [bytesN_length]; exact hi'))
    have hx2 : x ^^^ (bytesN s)[i]'(by rw [bytesN_length]; exact hi') < 4294967296 := Nat.xor_lt_two_pow (n := 32) hx (by omega)
    have H := ih (It 8 (x ^^^ (bytesN s)[i]'(by rw [bytesN_length]; exact hi'))) (i + 1) (It_lt 8 hx2) (by omega)
    rw [← wrap_succ i (by omega)] at H
    have H2 := l1_ev s s.size i _ 8 (x ^^^ (bytesN s)[i]'(by rw [bytesN_length]; exact hi')) hx2 (Nat.le_refl _) H
    rw [List.drop_eq_getElem_cons (by rw [bytesN_length]; exact hi')]
    refine Ev.step (fun k => ?_) H2
    simp only [crc_More.l0]
    rw [if_pos (by omega), if_pos (by omega), if_pos (by omega), bt_bytesN s i hi']
    rw [show ((((bytesN s)[i]'(by rw [bytesN_length]; exact hi') : Nat) : Int) % 4294967296) = (((bytesN s)[i]'(by rw [bytesN_length]; exact hi') : Nat) : Int) by omega]
    rw [xor32 x _ hx (by omega)]
    rfl
/-- The check sum of a text behind c. -/
def more (c : Nat) (s : ByteArray) : Nat := 4294967295 ^^^ proc (4294967295 ^^^ c) (bytesN s)
def sum (s : ByteArray) : Nat := more 0 s
theorem more_ev (c : Nat) (s : ByteArray) (hc : c < 4294967296) (hs : s.size ≤ 140737488351232) : Ev (fun k => crc_More.f k (c : Int) s) ((more c s : Nat) : Int) := by
  have H := l0_ev s hs s.size (4294967295 ^^^ c) 0 (Nat.xor_lt_two_pow (n := 32) (by omega) hc) (by omega)
  refine Ev.congr (fun k => ?_) H
  unfold crc_More.f
  rw [show Go.bits .xor .u32 4294967295 (c : Int) = _ from xor32 4294967295 c (by omega) hc]
  rfl
theorem sum_ev (s : ByteArray) (hs : s.size ≤ 140737488351232) : Ev (fun k => crc_Sum.f k s) ((sum s : Nat) : Int) := by
  unfold crc_Sum.f
  exact Ev.bind (more_ev 0 s (by omega) hs) (Ev.now _)
theorem awake_ev : Ev (fun k => headgatelaw02_awake.f k) true := by
  unfold headgatelaw02_awake.f
  refine Ev.bind (sum_ev _ (by decide)) ?_
  rw [show sum (⟨#[]⟩ : ByteArray) = 0 by decide +kernel]
  refine Ev.congr (fun k => if_pos rfl) ?_
  refine Ev.bind (sum_ev _ (by decide)) ?_
  rw [show sum (⟨#[49, 50, 51, 52, 53, 54, 55, 56, 57]⟩ : ByteArray) = 3808858755 by decide +kernel]
  exact Ev.now _
theorem compl32 (c : Nat) (hc : c < 4294967296) : ((4294967295 - (c : Int)) % 4294967296) = ((4294967295 ^^^ c : Nat) : Int) := by
  have h : (4294967295 ^^^ c : Nat) = 4294967295 - c := by
    have e := congrArg BitVec.toNat (BitVec.allOnes_xor (x := BitVec.ofNat 32 c))
    rw [BitVec.toNat_xor, BitVec.toNat_not, BitVec.toNat_allOnes, BitVec.toNat_ofNat, Nat.mod_eq_of_lt hc] at e
    exact e
  rw [h]; omega
theorem rl1_ev (s : ByteArray) (i : Int) (v : Int) (d : Nat) : ∀ (x : Nat), x < 4294967296 → d ≤ 8 →
    Ev (fun k => headgateref02_More.l0 k s ((It d x : Nat) : Int) (wrap64 (i + 1))) v → Ev (fun k => headgateref02_More.l1 k s (x : Int) i ((8 - d : Nat) : Int)) v := by
  induction d with
  | zero =>
    intro x hx _ h
    refine Ev.step (fun k => ?_) h
    simp only [headgateref02_More.l1]
    rw [if_neg (by omega)]
    rfl
  | succ d ih =>
    intro x hx hd h
    refine Ev.step (fun k => ?_) (ih (S x) (S_lt hx) (by omega) h)
    simp only [headgateref02_More.l1]
    have e2 : Int.tdiv (x : Int) 2 % 4294967296 = ((x / 2 : Nat) : Int) := by rw [Int.tdiv_eq_ediv_of_nonneg (by omega)]; omega
    have e3 : Int.tmod (x : Int) 2 = ((x % 2 : Nat) : Int) := by rw [Int.tmod_eq_emod_of_nonneg (by omega)]; omega
    rw [if_pos (by omega), e2, e3, wrap_succ _ (by omega)]
    have e4 : 8 - (d + 1) + 1 = 8 - d := by omega
    rw [e4]
    unfold S
    by_cases e : x % 2 = 1
    · rw [if_pos (by omega), if_pos e]
      rw [show Go.bits .xor .u32 ((x / 2 : Nat) : Int) 2197175160 = _ from xor32 (x / 2) 2197175160 (by omega) (by omega)]
      rfl
    · rw [if_neg (by omega), if_neg e]
theorem rl0_ev (s : ByteArray) (hs : s.size ≤ 140737488351232) (d : Nat) : ∀ (x i : Nat), x < 4294967296 → i + d = s.size →
    Ev (fun k => headgateref02_More.l0 k s (x : Int) (i : Int)) ((4294967295 ^^^ proc x ((bytesN s).drop i) : Nat) : Int) := by
  induction d with
  | zero =>
    intro x i hx hi
    refine Ev.step (fun k => ?_) (Ev.now _)
    simp only [headgateref02_More.l0]
    rw [if_neg (by omega), List.drop_eq_nil_of_le (by rw [bytesN_length]; omega)]
    exact congrArg some (compl32 x hx)
  | succ d ih =>
    intro x i hx hi
    have hi' : i < s.size := by omega
    have hb := bytesN_lt s _ (List.getElem_mem (l := bytesN s) (n := i) (by rw [bytesN_length]; exact hi'))
    have hx2 : x ^^^ (bytesN s)[i]'(by rw [bytesN_length]; exact hi') < 4294967296 := Nat.xor_lt_two_pow (n := 32) hx (by omega)
    have H := ih (It 8 (x ^^^ (bytesN s)[i]'(by rw [bytesN_length]; exact hi'))) (i + 1) (It_lt 8 hx2) (by omega)
    rw [← wrap_succ i (by omega)] at H
    have H2 := rl1_ev s i _ 8 (x ^^^ (bytesN s)[i]'(by rw [bytesN_length]; exact hi')) hx2 (Nat.le_refl _) H
    rw [List.drop_eq_getElem_cons (by rw [bytesN_length]; exact hi')]
    refine Ev.step (fun k => ?_) H2
    simp only [headgateref02_More.l0]
    rw [if_pos (by omega), if_pos (by omega), bt_bytesN s i hi']
    rw [show ((((bytesN s)[i]'(by rw [bytesN_length]; exact hi') : Nat) : Int) % 4294967296) = (((bytesN s)[i]'(by rw [bytesN_length]; exact hi') : Nat) : Int) by omega]
    rw [xor32 x _ hx (by omega)]
    rfl
theorem rmore_ev (c : Nat) (s : ByteArray) (hc : c < 4294967296) (hs : s.size ≤ 140737488351232) : Ev (fun k => headgateref02_More.f k (c : Int) s) ((more c s : Nat) : Int) := by
  have H := rl0_ev s hs s.size (4294967295 ^^^ c) 0 (Nat.xor_lt_two_pow (n := 32) (by omega) hc) (by omega)
  refine Ev.congr (fun k => ?_) H
  unfold headgateref02_More.f
  rw [compl32 c hc]
  rfl
theorem rsum_ev (s : ByteArray) (hs : s.size ≤ 140737488351232) : Ev (fun k => headgateref02_Sum.f k s) ((sum s : Nat) : Int) := by
  unfold headgateref02_Sum.f
  exact Ev.bind (rmore_ev 0 s (by omega) hs) (Ev.now _)
theorem CrcSums : headgatelaw02_CrcSums.Pure := by
  intro s c hs hc
  obtain ⟨c, rfl⟩ : ∃ n : Nat, c = (n : Int) := ⟨c.toNat, by have := bounds_u32 hc; omega⟩
  have hc' : c < 4294967296 := by have := bounds_u32 hc; omega
  apply Ev.rounds
  unfold headgatelaw02_CrcSums.f
  by_cases h : (s.size : Int) > 100000
  · exact Ev.congr (fun k => if_pos h) (Ev.bind awake_ev (Ev.now _))
  · refine Ev.congr (fun k => if_neg h) ?_
    refine Ev.bind (sum_ev s hs) (Ev.bind (rsum_ev s hs) ?_)
    refine Ev.congr (fun k => if_pos rfl) ?_
    refine Ev.bind (more_ev c s hc' hs) (Ev.bind (rmore_ev c s hc' hs) ?_)
    exact Ev.congr (fun k => if_pos rfl) (Ev.bind awake_ev (Ev.now _))

end Go.Proofs.Ytdikkpmhepldgaa.Pure
