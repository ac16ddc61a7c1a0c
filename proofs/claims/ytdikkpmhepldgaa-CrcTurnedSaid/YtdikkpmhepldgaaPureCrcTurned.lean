/- The pure statement of CrcTurned: a sealed text in which some bits were turned that lie within 32 in a row is sealed no more. No condition beyond the statement's own: the texts that Go can hold. -/
import Derived.Test.YtdikkpmhepldgaaPCrcTurnedx2
import Derived.Test.YtdikkpmhepldgaaCrcPure
import Derived.OpenShut
namespace Go.Proofs.Ytdikkpmhepldgaa.Pure
open Go.RowKit Go.Proofs.Ytdikkpmhepldgaa.PCrcTurned Go.Proofs.YtdikkpmhepldgaaW.PrintWords Go.Proofs.YtdikkpmhepldgaaW.PrintLast CrcPure

theorem xor32 (a b : Nat) (ha : a < 4294967296) (hb : b < 4294967296) : Go.bits .xor .u32 (a : Int) (b : Int) = ((a ^^^ b : Nat) : Int) := by
  have h := Nat.xor_lt_two_pow (n := 32) (x := a) (y := b) ha hb
  show IntKind.u32.wrap ((BitVec.ofInt 32 a ^^^ BitVec.ofInt 32 b).toNat) = _
  rw [IntKind.wrap_u32, BitVec.ofInt_natCast, BitVec.ofInt_natCast, BitVec.toNat_xor, BitVec.toNat_ofNat, BitVec.toNat_ofNat, Nat.mod_eq_of_lt ha, Nat.mod_eq_of_lt hb]
  omega
theorem and1 (a : Nat) (ha : a < 4294967296) : Go.bits .and .u32 (a : Int) 1 = ((a % 2 : Nat) : Int) := by
  show IntKind.u32.wrap ((BitVec.ofInt 32 a &&& BitVec.ofInt 32 ((1 : Nat) : Int)).toNat) = _
  rw [IntKind.wrap_u32, BitVec.ofInt_natCast, BitVec.ofInt_natCast, BitVec.toNat_and, BitVec.toNat_ofNat, BitVec.toNat_ofNat, Nat.mod_eq_of_lt ha, Nat.mod_eq_of_lt (by omega : 1 < 2 ^ 32), Nat.and_one_is_mod]
  omega
theorem step_f (x : Nat) (h : x < 4294967296) : crc_register_step.f (x : Int) = some ((S x : Nat) : Int) := by
  unfold crc_register_step.f S
  rw [and1 x h]
  by_cases e : x % 2 = 1
  · rw [if_pos (by omega), if_pos e]
    have : ((x : Int) / 2) = ((x / 2 : Nat) : Int) := by omega
    rw [this]; exact congrArg some (xor32 (x / 2) 2197175160 (by omega) (by omega))
  · rw [if_neg (by omega), if_neg e]
    congr 1
def bytesN (s : ByteArray) : List Nat := s.data.toList.map UInt8.toNat
theorem bytesN_length (s : ByteArray) : (bytesN s).length = s.size := by unfold bytesN; rw [List.length_map, Array.length_toList]; rfl
theorem bytesN_lt (s : ByteArray) : ∀ b ∈ bytesN s, b < 256 := by
  intro b hb; simp only [bytesN, List.mem_map] at hb; obtain ⟨u, _, rfl⟩ := hb; exact u.toNat_lt
theorem bt_bytesN (s : ByteArray) (i : Nat) (h : i < s.size) : bt s (i : Int) = (((bytesN s)[i]'(by rw [bytesN_length]; exact h) : Nat) : Int) := by
  have e := bt_at s (i : Int) h
  rw [← e]
  unfold bytesN
  rw [List.getElem_map]
  rfl
theorem wrap_succ (i : Nat) (h : i ≤ 140737488351232) : wrap64 ((i : Int) + 1) = ((i + 1 : Nat) : Int) := by unfold wrap64; omega
theorem l1_ev (s : ByteArray) (sz i : Int) (v : Int) (d : Nat) : ∀ (x : Nat), x < 4294967296 → d ≤ 8 →
    Ev (fun k => crc_More.l0 k s ((It d x : Nat) : Int) sz (wrap64 (i + 1))) v → Ev (fun k => crc_More.l1 k s (x : Int) sz i ((8 - d : Nat) : Int)) v := by
  induction d with
  | zero =>
    intro x hx _ h
    refine Ev.step (fun k => ?_) h
    simp only [crc_More.l1]
    rw [if_neg (by omega)]
    rfl
  | succ d ih =>
    intro x hx hd h
    refine Ev.step (fun k => ?_) (ih (S x) (S_lt hx) (by omega) h)
    simp only [crc_More.l1]
    rw [if_pos (by omega), step_f x hx, Option.bind_some, wrap_succ _ (by omega)]
    congr 1
    omega
theorem l0_ev (s : ByteArray) (hs : s.size ≤ 140737488351232) (d : Nat) : ∀ (x i : Nat), x < 4294967296 → i + d = s.size →
    Ev (fun k => crc_More.l0 k s (x : Int) (s.size : Int) (i : Int)) ((4294967295 ^^^ proc x ((bytesN s).drop i) : Nat) : Int) := by
  induction d with
  | zero =>
    intro x i hx hi
    refine Ev.step (fun k => ?_) (Ev.now _)
    simp only [crc_More.l0]
    rw [if_neg (by omega), List.drop_eq_nil_of_le (by rw [bytesN_length]; omega)]
    exact congrArg some (xor32 4294967295 x (by omega) hx)
  | succ d ih =>
    intro x i hx hi
    have hi' : i < s.size := by omega
    have hb := bytesN_lt s _ (List.getElem_mem (l := bytesN s) (n := i) (by rw [bytesN_length]; exact hi'))
    have hx2 : x ^^^ (bytesN s)[i]'(by rw [bytesN_length]; exact hi') < 4294967296 := Nat.xor_lt_two_pow (n := 32) hx (by omega)
    have H := ih (It 8 (x ^^^ (bytesN s)[i]'(by rw [bytesN_length]; exact hi'))) (i + 1) (It_lt 8 hx2) (by omega)
    rw [← wrap_succ i (by omega)] at H
    have H2 := l1_ev s s.size i _ 8 (x ^^^ (bytesN s)[i]'(by rw [bytesN_length]; exact hi')) hx2 (Nat.le_refl _) H
    rw [List.drop_eq_getElem_cons (by rw [bytesN_length]; exact hi')]
    refine Ev.step (fun k => ?_) H2
    simp only [crc_More.l0]
    rw [if_pos (by omega), if_pos (by omega), if_pos (by omega), bt_bytesN s i hi']
    rw [show ((((bytesN s)[i]'(by rw [bytesN_length]; exact hi') : Nat) : Int) % 4294967296) = (((bytesN s)[i]'(by rw [bytesN_length]; exact hi') : Nat) : Int) by omega]
    rw [xor32 x _ hx (by omega)]
    rfl
/-- The check sum of a text behind c. -/
def more (c : Nat) (s : ByteArray) : Nat := 4294967295 ^^^ proc (4294967295 ^^^ c) (bytesN s)
def sum (s : ByteArray) : Nat := more 0 s
theorem more_ev (c : Nat) (s : ByteArray) (hc : c < 4294967296) (hs : s.size ≤ 140737488351232) : Ev (fun k => crc_More.f k (c : Int) s) ((more c s : Nat) : Int) := by
  have H := l0_ev s hs s.size (4294967295 ^^^ c) 0 (Nat.xor_lt_two_pow (n := 32) (by omega) hc) (by omega)
  refine Ev.congr (fun k => ?_) H
  unfold crc_More.f
  rw [show Go.bits .xor .u32 4294967295 (c : Int) = _ from xor32 4294967295 c (by omega) hc]
  rfl
theorem sum_ev (s : ByteArray) (hs : s.size ≤ 140737488351232) : Ev (fun k => crc_Sum.f k s) ((sum s : Nat) : Int) := by
  unfold crc_Sum.f
  exact Ev.bind (more_ev 0 s (by omega) hs) (Ev.now _)
theorem awake_ev : Ev (fun k => headgatelaw02_awake.f k) true := by
  unfold headgatelaw02_awake.f
  refine Ev.bind (sum_ev _ (by decide)) ?_
  rw [show sum (⟨#[]⟩ : ByteArray) = 0 by decide +kernel]
  refine Ev.congr (fun k => if_pos rfl) ?_
  refine Ev.bind (sum_ev _ (by decide)) ?_
  rw [show sum (⟨#[49, 50, 51, 52, 53, 54, 55, 56, 57]⟩ : ByteArray) = 3808858755 by decide +kernel]
  exact Ev.now _
theorem proc_append (r : Nat) (l m : List Nat) : proc r (l ++ m) = proc (proc r l) m := by
  induction l generalizing r with
  | nil => rfl
  | cons b l ih => exact ih _
theorem proc_lt (r : Nat) (l : List Nat) (hr : r < 4294967296) (hl : ∀ b ∈ l, b < 256) : proc r l < 4294967296 := by
  induction l generalizing r with
  | nil => exact hr
  | cons b l ih =>
    have hb := hl b (List.mem_cons_self ..)
    exact ih _ (It_lt 8 (Nat.xor_lt_two_pow (n := 32) hr (by omega))) (fun x hx => hl x (List.mem_cons_of_mem _ hx))
theorem bytesN_append (a b : ByteArray) : bytesN (a ++ b) = bytesN a ++ bytesN b := by
  unfold bytesN; rw [ByteArray.data_append, Array.toList_append, List.map_append]
theorem notnot (x : Nat) : (4294967295 ^^^ (4294967295 ^^^ x) : Nat) = x := by rw [← Nat.xor_assoc, Nat.xor_self, Nat.zero_xor]
theorem more_sum (a b : ByteArray) : more (sum a) b = sum (a ++ b) := by
  unfold sum more
  rw [notnot, bytesN_append, proc_append]
theorem more_lt (c : Nat) (s : ByteArray) (hc : c < 4294967296) : more c s < 4294967296 :=
  Nat.xor_lt_two_pow (n := 32) (by omega) (proc_lt _ _ (Nat.xor_lt_two_pow (n := 32) (by omega) hc) (bytesN_lt s))
theorem sum_lt (s : ByteArray) : sum s < 4294967296 := more_lt 0 s (by omega)
/-- Four bytes, the lowest first. -/
def b4 (c : Nat) : ByteArray := strOfNums [((c % 256 : Nat) : Int), ((c / 256 % 256 : Nat) : Int), ((c / 65536 % 256 : Nat) : Int), ((c / 16777216 % 256 : Nat) : Int)]
theorem b4_size (c : Nat) : (b4 c).size = 4 := rfl
theorem bytesN_b4 (c : Nat) : bytesN (b4 c) = [c % 256, c / 256 % 256, c / 65536 % 256, c / 16777216 % 256] := by
  unfold b4 bytesN strOfNums
  simp
  omega
theorem num_b4 (c : Nat) (hc : c < 4294967296) : num (bytesN (b4 c)) = c := by
  rw [bytesN_b4]; simp only [num]; omega
theorem proc_b4 (r c : Nat) (hc : c < 4294967296) : proc r (bytesN (b4 c)) = It 32 (r ^^^ c) := by
  rw [proc_num _ _ (bytesN_lt _), num_b4 c hc, bytesN_length, b4_size]
theorem seal_ev (s : ByteArray) (hs : s.size ≤ 140737488351232) : Ev (fun k => crc_Seal.f k s) (s ++ b4 (sum s)) := by
  unfold crc_Seal.f
  refine Ev.bind (sum_ev s hs) ?_
  refine Ev.congr (fun k => ?_) (Ev.now _)
  have e : strOfNums [((sum s : Nat) : Int) % 256, ((sum s : Nat) : Int) / 256 % 256, ((sum s : Nat) : Int) / 65536 % 256, ((sum s : Nat) : Int) / 16777216 % 256] = b4 (sum s) := rfl
  rw [Option.bind_some, e, if_pos (by rw [b4_size]; omega)]
/-- What a sealed text is without its seal. -/
def unsealed (s : ByteArray) : ByteArray × Int :=
  if 4 ≤ s.size ∧ s.extract 0 (s.size - 4) ++ b4 (sum (s.extract 0 (s.size - 4))) = s then (s.extract 0 (s.size - 4), 0) else (⟨#[]⟩, 2)
theorem toList_inj {a b : ByteArray} : a.toList = b.toList ↔ a = b := by
  constructor
  · intro h
    rw [ByteArray.toList_eq, ByteArray.toList_eq] at h
    exact ByteArray.ext (Array.toList_inj.mp h)
  · rintro rfl; rfl
theorem unsealed_pos {s : ByteArray} (h4 : 4 ≤ s.size) (h : s.extract 0 (s.size - 4) ++ b4 (sum (s.extract 0 (s.size - 4))) = s) : unsealed s = (s.extract 0 (s.size - 4), 0) := if_pos ⟨h4, h⟩
theorem unsealed_neg {s : ByteArray} (h : ¬ (4 ≤ s.size ∧ s.extract 0 (s.size - 4) ++ b4 (sum (s.extract 0 (s.size - 4))) = s)) : unsealed s = (⟨#[]⟩, 2) := if_neg h
theorem unseal_ev (s : ByteArray) (hs : s.size ≤ 140737488351232) : Ev (fun k => crc_Unseal.f k s) (unsealed s) := by
  unfold crc_Unseal.f
  by_cases h4 : 4 ≤ s.size
  · have e : wrap64 ((s.size : Int) - 4) = ((s.size - 4 : Nat) : Int) := by unfold wrap64; omega
    rw [e]
    refine Ev.congr (fun k => if_pos (by omega)) ?_
    refine Ev.congr (fun k => if_pos (by omega)) ?_
    refine Ev.congr (fun k => if_pos (by omega)) ?_
    have e2 : ((s.size - 4 : Nat) : Int).toNat = s.size - 4 := by omega
    rw [e2]
    refine Ev.bind (seal_ev _ (by rw [ByteArray.size_extract]; omega)) ?_
    by_cases h : s.extract 0 (s.size - 4) ++ b4 (sum (s.extract 0 (s.size - 4))) = s
    · rw [unsealed_pos h4 h]
      exact Ev.congr (fun k => if_pos (toList_inj.mpr h)) (Ev.now _)
    · rw [unsealed_neg (fun x => h x.2)]
      exact Ev.congr (fun k => if_neg (fun x => h (toList_inj.mp x))) (Ev.now _)
  · rw [unsealed_neg (fun x => h4 x.1)]
    exact Ev.congr (fun k => if_neg (by unfold wrap64; omega)) (Ev.now _)
theorem mul_xor (j x y : Nat) : 2 ^ j * (x ^^^ y) = (2 ^ j * x) ^^^ (2 ^ j * y) := by
  apply Nat.eq_of_testBit_eq; intro i
  simp only [Nat.testBit_xor, Nat.testBit_two_pow_mul]
  by_cases h : j ≤ i <;> simp [h]
theorem num_set (L : List Nat) (hL : ∀ b ∈ L, b < 256) (m : Nat) (hm : m < 8) : ∀ (q : Nat), q < L.length → num (L.set q (L.getD q 0 ^^^ 2 ^ m)) = num L ^^^ 2 ^ (8 * q + m) := by
  have h2 : 2 ^ m < 256 := by
    have := Nat.pow_le_pow_right (n := 2) (by decide) (show m ≤ 7 by omega)
    omega
  induction L with
  | nil => intro q hq; simp at hq
  | cons b L ih =>
    intro q hq
    have hb := hL b (List.mem_cons_self ..)
    have hL' : ∀ b ∈ L, b < 256 := fun x hx => hL x (List.mem_cons_of_mem _ hx)
    cases q with
    | zero =>
      show (b ^^^ 2 ^ m) + 256 * num L = (b + 256 * num L) ^^^ 2 ^ (8 * 0 + m)
      rw [add_xor _ _ (Nat.xor_lt_two_pow (n := 8) hb h2), add_xor _ _ hb, Nat.mul_zero, Nat.zero_add]
      ac_rfl
    | succ q =>
      have e := ih hL' q (by simpa using hq)
      show b + 256 * num (L.set q (L.getD q 0 ^^^ 2 ^ m)) = (b + 256 * num L) ^^^ 2 ^ (8 * (q + 1) + m)
      rw [e, add_xor _ _ hb, add_xor _ _ hb, mul_xor, show 8 * (q + 1) + m = 8 + (8 * q + m) by omega, Nat.pow_add 2 8]
      ac_rfl
theorem num_inj (L M : List Nat) (hL : ∀ b ∈ L, b < 256) (hM : ∀ b ∈ M, b < 256) (hl : L.length = M.length) (h : num L = num M) : L = M := by
  induction L generalizing M with
  | nil => cases M with
    | nil => rfl
    | cons c M => simp at hl
  | cons b L ih => cases M with
    | nil => simp at hl
    | cons c M =>
      have hb := hL b (List.mem_cons_self ..)
      have hc := hM c (List.mem_cons_self ..)
      have h' : b + 256 * num L = c + 256 * num M := h
      have e1 : b = c := by omega
      have e2 : num L = num M := by omega
      rw [e1, ih M (fun x hx => hL x (List.mem_cons_of_mem _ hx)) (fun x hx => hM x (List.mem_cons_of_mem _ hx)) (by simpa using hl) e2]
theorem wrap8 (m : Nat) (hm : m < 8) : IntKind.u8.wrap ((2 : Int) ^ m) = ((2 ^ m : Nat) : Int) := by
  rw [IntKind.wrap_u8]
  have h := Nat.pow_le_pow_right (n := 2) (by decide) (show m ≤ 7 by omega)
  have e : (2 : Int) ^ m = ((2 ^ m : Nat) : Int) := by simp
  rw [e]; generalize 2 ^ m = z at *; omega
theorem xor8 (a b : Nat) (ha : a < 256) (hb : b < 256) : Go.bits .xor .u8 (a : Int) (b : Int) = ((a ^^^ b : Nat) : Int) := by
  have h := Nat.xor_lt_two_pow (n := 8) (x := a) (y := b) ha hb
  show IntKind.u8.wrap ((BitVec.ofInt 8 a ^^^ BitVec.ofInt 8 b).toNat) = _
  rw [IntKind.wrap_u8, BitVec.ofInt_natCast, BitVec.ofInt_natCast, BitVec.toNat_xor, BitVec.toNat_ofNat, BitVec.toNat_ofNat, Nat.mod_eq_of_lt ha, Nat.mod_eq_of_lt hb]
  omega
def ints (L : List Nat) : List Int := L.map Int.ofNat
theorem getD_lt (L : List Nat) (hL : ∀ b ∈ L, b < 256) (q : Nat) : L.getD q 0 < 256 := by
  by_cases h : q < L.length
  · have := hL _ (List.getElem_mem h)
    simpa [List.getD, h] using this
  · simp [List.getD, h]
theorem turnL_num (at_ : Nat) (mask : Int) (f : Nat) : ∀ (i : Nat) (L : List Nat), f + i = 32 → (∀ b ∈ L, b < 256) →
    ∃ (M : List Nat) (X : Nat), turnL at_ mask f i (ints L) = ints M ∧ M.length = L.length ∧ (∀ b ∈ M, b < 256) ∧ X < 2 ^ 32 ∧ num M = num L ^^^ (2 ^ at_ * X) := by
  induction f with
  | zero => intro i L _ hL; exact ⟨L, 0, rfl, rfl, hL, by omega, by simp⟩
  | succ f ih =>
    intro i L hi hL
    simp only [turnL]
    by_cases h1 : (at_ : Int) + (i : Int) < 8 * ((ints L).length : Int)
    · rw [if_pos h1]
      have hlen : (ints L).length = L.length := List.length_map ..
      rw [hlen] at h1
      by_cases h2 : bits .and .u32 (mask / 2 ^ i) 1 = 1
      · rw [if_pos h2]
        have eq : (((at_ : Int) + (i : Int)) / 8).toNat = (at_ + i) / 8 := by omega
        have em : (((at_ : Int) + (i : Int)) % 8).toNat = (at_ + i) % 8 := by omega
        have hq : (at_ + i) / 8 < L.length := by omega
        have hm : (at_ + i) % 8 < 8 := by omega
        have h28 : 2 ^ ((at_ + i) % 8) < 256 := by
          have := Nat.pow_le_pow_right (n := 2) (by decide) (show (at_ + i) % 8 ≤ 7 by omega)
          omega
        have eg : (ints L).getD ((at_ + i) / 8) 0 = ((L.getD ((at_ + i) / 8) 0 : Nat) : Int) := by
          unfold ints; simp [List.getD, hq]
        rw [eq, em, eg, wrap8 _ hm, xor8 _ _ (getD_lt L hL _) h28]
        have es : (ints L).set ((at_ + i) / 8) (((L.getD ((at_ + i) / 8) 0 ^^^ 2 ^ ((at_ + i) % 8) : Nat) : Int)) = ints (L.set ((at_ + i) / 8) (L.getD ((at_ + i) / 8) 0 ^^^ 2 ^ ((at_ + i) % 8))) := by
          unfold ints; rw [List.map_set]; rfl
        rw [es]
        have hL2 : ∀ b ∈ L.set ((at_ + i) / 8) (L.getD ((at_ + i) / 8) 0 ^^^ 2 ^ ((at_ + i) % 8)), b < 256 := by
          intro b hb
          rcases List.mem_or_eq_of_mem_set hb with h | h
          · exact hL b h
          · subst h; exact Nat.xor_lt_two_pow (n := 8) (getD_lt L hL _) h28
        obtain ⟨M, X, e1, e2, e3, e4, e5⟩ := ih (i + 1) _ (by omega) hL2
        refine ⟨M, X ^^^ 2 ^ i, e1, by rw [e2, List.length_set], e3, Nat.xor_lt_two_pow (n := 32) e4 (Nat.pow_lt_pow_right (by decide) (by omega)), ?_⟩
        rw [e5, num_set L hL _ hm _ hq, show 8 * ((at_ + i) / 8) + (at_ + i) % 8 = at_ + i by omega, mul_xor, Nat.pow_add]
        ac_rfl
      · rw [if_neg h2]
        exact ih (i + 1) L (by omega) hL
    · rw [if_neg h1]
      exact ⟨L, 0, rfl, rfl, hL, by omega, by simp⟩
theorem numsI_ints (s : ByteArray) : numsI s = ints (bytesN s) := by
  unfold numsI ints bytesN; rw [List.map_map]; rfl
theorem bytesN_ints (L : List Nat) (hL : ∀ b ∈ L, b < 256) : bytesN (strOfNums (ints L)) = L := by
  unfold bytesN strOfNums ints
  simp only [List.map_map]
  rw [List.map_congr_left (g := id)]
  · simp
  · intro b hb
    have := hL b hb
    simp only [Function.comp_apply, id]
    exact Nat.mod_eq_of_lt this
theorem strOfNums_size (l : List Int) : (strOfNums l).size = l.length := by
  unfold strOfNums
  show (List.toArray _).size = _
  simp
theorem sealed_reg (p : ByteArray) : proc 4294967295 (bytesN (p ++ b4 (sum p))) = It 32 4294967295 := by
  rw [bytesN_append, proc_append, proc_b4 _ _ (sum_lt p)]
  unfold sum more
  rw [show (4294967295 ^^^ 0 : Nat) = 4294967295 from rfl]
  congr 1
  rw [Nat.xor_comm 4294967295, ← Nat.xor_assoc, Nat.xor_self, Nat.zero_xor]
theorem turned_not (s : ByteArray) (at_ : Nat) (mask : Int) (hat : at_ < 8 * (s ++ b4 (sum s)).size) (hne : s ++ b4 (sum s) ≠ strOfNums (turnL at_ mask 32 0 (numsI (s ++ b4 (sum s))))) :
    unsealed (strOfNums (turnL at_ mask 32 0 (numsI (s ++ b4 (sum s))))) = (⟨#[]⟩, 2) := by
  apply unsealed_neg
  rintro ⟨h4, he⟩
  rw [numsI_ints] at *
  obtain ⟨M, X, e1, e2, e3, e4, e5⟩ := turnL_num at_ mask 32 0 (bytesN (s ++ b4 (sum s))) rfl (bytesN_lt _)
  have hb : bytesN (strOfNums (ints M)) = M := bytesN_ints M e3
  rw [e1] at he hne h4
  have r1 := sealed_reg s
  have r2 := sealed_reg ((strOfNums (ints M)).extract 0 ((strOfNums (ints M)).size - 4))
  rw [he, hb] at r2
  rw [proc_num _ _ (bytesN_lt _)] at r1
  rw [proc_num _ _ e3, e2, e5, ← r1, ← Nat.xor_assoc, It_xor] at r2
  have r3 : It (8 * (bytesN (s ++ b4 (sum s))).length) (2 ^ at_ * X) = 0 := by
    have := congrArg (fun x => It (8 * (bytesN (s ++ b4 (sum s))).length) (4294967295 ^^^ num (bytesN (s ++ b4 (sum s)))) ^^^ x) r2
    simp only [← Nat.xor_assoc, Nat.xor_self, Nat.zero_xor] at this
    exact this
  rw [bytesN_length, show 8 * (s ++ b4 (sum s)).size = at_ + (8 * (s ++ b4 (sum s)).size - at_) by omega, It_add, It_shift] at r3
  have x0 := It_eq_zero _ e4 r3
  subst x0
  rw [Nat.mul_zero, Nat.xor_zero] at e5
  have hM := num_inj _ _ e3 (bytesN_lt _) e2 e5
  apply hne
  have h6 : bytesN (strOfNums (ints M)) = bytesN (s ++ b4 (sum s)) := by rw [hb, hM]
  have h7 : (s ++ b4 (sum s)).data.toList = (strOfNums (ints M)).data.toList := by
    unfold bytesN at h6
    exact (List.map_inj_right (fun a b h => UInt8.toNat_inj.mp h)).mp h6.symm
  exact ByteArray.ext (Array.toList_inj.mp h7)
theorem CrcTurned : headgatelaw02_CrcTurned.Pure := by
  intro s at_ mask hs hat hmask
  have hz : (s ++ b4 (sum s)).size = s.size + 4 := by rw [ByteArray.size_append, b4_size]
  apply Ev.rounds
  unfold headgatelaw02_CrcTurned.f
  by_cases h : (s.size : Int) > 100000
  · exact Ev.congr (fun k => if_pos h) (Ev.bind awake_ev (Ev.now _))
  refine Ev.congr (fun k => if_neg h) ?_
  refine Ev.bind (seal_ev s hs) ?_
  have ew : wrap64 (8 * ((s ++ b4 (sum s)).size : Int)) = 8 * ((s.size : Int) + 4) := by rw [hz]; unfold wrap64; omega
  by_cases g : at_ < 0
  · refine Ev.congr (fun k => if_pos g) ?_
    refine Ev.step (f := ?f1) (fun k => ?_) ?_
    rotate_left
    · simp only [headgatelaw02_CrcTurned.j0]; rfl
    exact Ev.congr (fun k => if_pos trivial) (Ev.bind awake_ev (Ev.now _))
  refine Ev.congr (fun k => if_neg g) ?_
  rw [ew]
  refine Ev.step (f := ?f2) (fun k => ?_) ?_
  rotate_left
  · simp only [headgatelaw02_CrcTurned.j0]; rfl
  by_cases g2 : at_ ≥ 8 * ((s.size : Int) + 4)
  · exact Ev.congr (fun k => if_pos (decide_eq_true g2)) (Ev.bind awake_ev (Ev.now _))
  refine Ev.congr (fun k => if_neg (by simpa using g2)) ?_
  obtain ⟨n, rfl⟩ : ∃ n : Nat, at_ = (n : Int) := ⟨at_.toNat, by omega⟩
  have ht : headgatelaw02_Turned.f (s ++ b4 (sum s)) (n : Int) mask = some (strOfNums (turnL n mask 32 0 (numsI (s ++ b4 (sum s))))) := if_pos ⟨by omega, by rw [hz]; omega, by rw [hz]; omega⟩
  refine Ev.congr (fun k => by rw [ht]) ?_
  by_cases he : s ++ b4 (sum s) = strOfNums (turnL n mask 32 0 (numsI (s ++ b4 (sum s))))
  · exact Ev.congr (fun k => if_pos (toList_inj.mpr he)) (Ev.bind awake_ev (Ev.now _))
  refine Ev.congr (fun k => if_neg (fun x => he (toList_inj.mp x))) ?_
  have hl : (strOfNums (turnL n mask 32 0 (numsI (s ++ b4 (sum s))))).size = s.size + 4 := by
    rw [strOfNums_size, numsI_ints]
    obtain ⟨M, X, e1, e2, -⟩ := turnL_num n mask 32 0 (bytesN (s ++ b4 (sum s))) rfl (bytesN_lt _)
    rw [e1]
    unfold ints
    rw [List.length_map, e2, bytesN_length, hz]
  have hu := unseal_ev (strOfNums (turnL n mask 32 0 (numsI (s ++ b4 (sum s))))) (by rw [hl]; omega)
  rw [turned_not s n mask (by rw [hz]; omega) he] at hu
  refine Ev.bind hu ?_
  refine Ev.congr (fun k => if_pos (by rw [ByteArray.toList_eq])) ?_
  exact Ev.congr (fun k => if_pos rfl) (Ev.bind awake_ev (Ev.now _))

end Go.Proofs.Ytdikkpmhepldgaa.Pure
