/- The pure statement of CrcBack: what was sealed is taken as it was, and only what was sealed so. No condition beyond the statement's own: the texts that Go can hold. -/
import Derived.Test.YtdikkpmhepldgaaPCrcBackx1
import Derived.Test.YtdikkpmhepldgaaCrcPure
import Derived.OpenShut
namespace Go.Proofs.Ytdikkpmhepldgaa.Pure
open Go.RowKit Go.Proofs.Ytdikkpmhepldgaa.PCrcBack Go.Proofs.YtdikkpmhepldgaaW.PrintWords Go.Proofs.YtdikkpmhepldgaaW.PrintLast CrcPure

theorem xor32 (a b : Nat) (ha : a < 4294967296) (hb : b < 4294967296) : Go.bits .xor .u32 (a : Int) (b : Int) = ((a ^^^ b : Nat) : Int) := by
  have h := Nat.xor_lt_two_pow (n := 32) (x := a) (y := b) ha hb
  show IntKind.u32.wrap ((BitVec.ofInt 32 a ^^^ BitVec.ofInt 32 b).toNat) = _
  rw [IntKind.wrap_u32, BitVec.ofInt_natCast, BitVec.ofInt_natCast, BitVec.toNat_xor, BitVec.toNat_ofNat, BitVec.toNat_ofNat, Nat.mod_eq_of_lt ha, Nat.mod_eq_of_lt hb]
  omega
theorem and1 (a : Nat) (ha : a < 4294967296) : Go.bits .and .u32 (a : Int) 1 = ((a % 2 : Nat) : Int) := by
  show IntKind.u32.wrap ((BitVec.ofInt 32 a &&& BitVec.ofInt 32 ((1 : Nat) : Int)).toNat) = _
  rw [IntKind.wrap_u32, BitVec.ofInt_natCast, BitVec.ofInt_natCast, BitVec.toNat_and, BitVec.toNat_ofNat, BitVec.toNat_ofNat, Nat.mod_eq_of_lt ha, Nat.mod_eq_of_lt (by omega : 1 < 2 ^ 32), Nat.and_one_is_mod]
  omega
theorem step_f (x : Nat) (h : x < 4294967296) : crc_register_step.f (x : Int) = some ((S x : Nat) : Int) := by
  unfold crc_register_step.f S
  rw [and1 x h]
  by_cases e : x % 2 = 1
  · rw [if_pos (by omega), if_pos e]
    have : ((x : Int) / 2) = ((x / 2 : Nat) : Int) := by omega
    rw [this]; exact congrArg some (xor32 (x / 2) 2197175160 (by omega) (by omega))
  · rw [if_neg (by omega), if_neg e]
    congr 1
def bytesN (s : ByteArray) : List Nat := s.data.toList.map UInt8.toNat
theorem bytesN_length (s : ByteArray) : (bytesN s).length = s.size := by unfold bytesN; rw [List.length_map, Array.length_toList]; rfl
theorem bytesN_lt (s : ByteArray) : ∀ b ∈ bytesN s, b < 256 := by
  intro b hb; simp only [bytesN, List.mem_map] at hb; obtain ⟨u, _, rfl⟩ := hb; exact u.toNat_lt
theorem bt_bytesN (s : ByteArray) (i : Nat) (h : i < s.size) : bt s (i : Int) = (((bytesN s)[i]'(by rw [bytesN_length]; exact h) : Nat) : Int) := by
  have e := bt_at s (i : Int) h
  rw [← e]
  unfold bytesN
  rw [List.getElem_map]
  rfl
theorem wrap_succ (i : Nat) (h : i ≤ 140737488351232) : wrap64 ((i : Int) + 1) = ((i + 1 : Nat) : Int) := by unfold wrap64; omega
theorem l1_ev (s : ByteArray) (sz i : Int) (v : Int) (d : Nat) : ∀ (x : Nat), x < 4294967296 → d ≤ 8 →
    Ev (fun k => crc_More.l0 k s ((It d x : Nat) : Int) sz (wrap64 (i + 1))) v → Ev (fun k => crc_More.l1 k s (x : Int) sz i ((8 - d : Nat) : Int)) v := by
  induction d with
  | zero =>
    intro x hx _ h
    refine Ev.step (fun k => ?_) h
    simp only [crc_More.l1]
    rw [if_neg (by omega)]
    rfl
  | succ d ih =>
    intro x hx hd h
    refine Ev.step (fun k => ?_) (ih (S x) (S_lt hx) (by omega) h)
    simp only [crc_More.l1]
    rw [if_pos (by omega), step_f x hx, Option.bind_some, wrap_succ _ (by omega)]
    congr 1
    omega
theorem l0_ev (s : ByteArray) (hs : s.size ≤ 140737488351232) (d : Nat) : ∀ (x i : Nat), x < 4294967296 → i + d = s.size →
    Ev (fun k => crc_More.l0 k s (x : Int) (s.size : Int) (i : Int)) ((4294967295 ^^^ proc x ((bytesN s).drop i) : Nat) : Int) := by
  induction d with
  | zero =>
    intro x i hx hi
    refine Ev.step (fun k => ?_) (Ev.now _)
    simp only [crc_More.l0]
    rw [if_neg (by omega), List.drop_eq_nil_of_le (by rw [bytesN_length]; omega)]
    exact congrArg some (xor32 4294967295 x (by omega) hx)
  | succ d ih =>
    intro x i hx hi
    have hi' : i < s.size := by omega
    have hb := bytesN_lt s _ (List.getElem_mem (l := bytesN s) (n := i) (by rw [bytesN_length]; exact hi'))
    have hx2 : x ^^^ (bytesN s)[i]'(by rw [bytesN_length]; exact hi') < 4294967296 := Nat.xor_lt_two_pow (n := 32) hx (by omega)
    have H := ih (It 8 (x ^^^ (bytesN s)[i]'(by rw [bytesN_length]; exact hi'))) (i + 1) (It_lt 8 hx2) (by omega)
    rw [← wrap_succ i (by omega)] at H
    have H2 := l1_ev s s.size i _ 8 (x ^^^ (bytesN s)[i]'(by rw [bytesN_length]; exact hi')) hx2 (Nat.le_refl _) H
    rw [List.drop_eq_getElem_cons (by rw [bytesN_length]; exact hi')]
    refine Ev.step (fun k => ?_) H2
    simp only [crc_More.l0]
    rw [if_pos (by omega), if_pos (by omega), if_pos (by omega), bt_bytesN s i hi']
    rw [show ((((bytesN s)[i]'(by rw [bytesN_length]; exact hi') : Nat) : Int) % 4294967296) = (((bytesN s)[i]'(by rw [bytesN_length]; exact hi') : Nat) : Int) by omega]
    rw [xor32 x _ hx (by omega)]
    rfl
/-- The check sum of a text behind c. -/
def more (c : Nat) (s : ByteArray) : Nat := 4294967295 ^^^ proc (4294967295 ^^^ c) (bytesN s)
def sum (s : ByteArray) : Nat := more 0 s
theorem more_ev (c : Nat) (s : ByteArray) (hc : c < 4294967296) (hs : s.size ≤ 140737488351232) : Ev (fun k => crc_More.f k (c : Int) s) ((more c s : Nat) : Int) := by
  have H := l0_ev s hs s.size (4294967295 ^^^ c) 0 (Nat.xor_lt_two_pow (n := 32) (by omega) hc) (by omega)
  refine Ev.congr (fun k => ?_) H
  unfold crc_More.f
  rw [show Go.bits .xor .u32 4294967295 (c : Int) = _ from xor32 4294967295 c (by omega) hc]
  rfl
theorem sum_ev (s : ByteArray) (hs : s.size ≤ 140737488351232) : Ev (fun k => crc_Sum.f k s) ((sum s : Nat) : Int) := by
  unfold crc_Sum.f
  exact Ev.bind (more_ev 0 s (by omega) hs) (Ev.now _)
theorem awake_ev : Ev (fun k => headgatelaw02_awake.f k) true := by
  unfold headgatelaw02_awake.f
  refine Ev.bind (sum_ev _ (by decide)) ?_
  rw [show sum (⟨#[]⟩ : ByteArray) = 0 by decide +kernel]
  refine Ev.congr (fun k => if_pos rfl) ?_
  refine Ev.bind (sum_ev _ (by decide)) ?_
  rw [show sum (⟨#[49, 50, 51, 52, 53, 54, 55, 56, 57]⟩ : ByteArray) = 3808858755 by decide +kernel]
  exact Ev.now _
theorem proc_append (r : Nat) (l m : List Nat) : proc r (l ++ m) = proc (proc r l) m := by
  induction l generalizing r with
  | nil => rfl
  | cons b l ih => exact ih _
theorem proc_lt (r : Nat) (l : List Nat) (hr : r < 4294967296) (hl : ∀ b ∈ l, b < 256) : proc r l < 4294967296 := by
  induction l generalizing r with
  | nil => exact hr
  | cons b l ih =>
    have hb := hl b (List.mem_cons_self ..)
    exact ih _ (It_lt 8 (Nat.xor_lt_two_pow (n := 32) hr (by omega))) (fun x hx => hl x (List.mem_cons_of_mem _ hx))
theorem bytesN_append (a b : ByteArray) : bytesN (a ++ b) = bytesN a ++ bytesN b := by
  unfold bytesN; rw [ByteArray.data_append, Array.toList_append, List.map_append]
theorem notnot (x : Nat) : (4294967295 ^^^ (4294967295 ^^^ x) : Nat) = x := by rw [← Nat.xor_assoc, Nat.xor_self, Nat.zero_xor]
theorem more_sum (a b : ByteArray) : more (sum a) b = sum (a ++ b) := by
  unfold sum more
  rw [notnot, bytesN_append, proc_append]
theorem more_lt (c : Nat) (s : ByteArray) (hc : c < 4294967296) : more c s < 4294967296 :=
  Nat.xor_lt_two_pow (n := 32) (by omega) (proc_lt _ _ (Nat.xor_lt_two_pow (n := 32) (by omega) hc) (bytesN_lt s))
theorem sum_lt (s : ByteArray) : sum s < 4294967296 := more_lt 0 s (by omega)
/-- Four bytes, the lowest first. -/
def b4 (c : Nat) : ByteArray := strOfNums [((c % 256 : Nat) : Int), ((c / 256 % 256 : Nat) : Int), ((c / 65536 % 256 : Nat) : Int), ((c / 16777216 % 256 : Nat) : Int)]
theorem b4_size (c : Nat) : (b4 c).size = 4 := rfl
theorem bytesN_b4 (c : Nat) : bytesN (b4 c) = [c % 256, c / 256 % 256, c / 65536 % 256, c / 16777216 % 256] := by
  unfold b4 bytesN strOfNums
  simp
  omega
theorem num_b4 (c : Nat) (hc : c < 4294967296) : num (bytesN (b4 c)) = c := by
  rw [bytesN_b4]; simp only [num]; omega
theorem proc_b4 (r c : Nat) (hc : c < 4294967296) : proc r (bytesN (b4 c)) = It 32 (r ^^^ c) := by
  rw [proc_num _ _ (bytesN_lt _), num_b4 c hc, bytesN_length, b4_size]
theorem seal_ev (s : ByteArray) (hs : s.size ≤ 140737488351232) : Ev (fun k => crc_Seal.f k s) (s ++ b4 (sum s)) := by
  unfold crc_Seal.f
  refine Ev.bind (sum_ev s hs) ?_
  refine Ev.congr (fun k => ?_) (Ev.now _)
  have e : strOfNums [((sum s : Nat) : Int) % 256, ((sum s : Nat) : Int) / 256 % 256, ((sum s : Nat) : Int) / 65536 % 256, ((sum s : Nat) : Int) / 16777216 % 256] = b4 (sum s) := rfl
  rw [Option.bind_some, e, if_pos (by rw [b4_size]; omega)]
/-- What a sealed text is without its seal. -/
def unsealed (s : ByteArray) : ByteArray × Int :=
  if 4 ≤ s.size ∧ s.extract 0 (s.size - 4) ++ b4 (sum (s.extract 0 (s.size - 4))) = s then (s.extract 0 (s.size - 4), 0) else (⟨#[]⟩, 2)
theorem toList_inj {a b : ByteArray} : a.toList = b.toList ↔ a = b := by
  constructor
  · intro h
    rw [ByteArray.toList_eq, ByteArray.toList_eq] at h
    exact ByteArray.ext (Array.toList_inj.mp h)
  · rintro rfl; rfl
theorem unsealed_pos {s : ByteArray} (h4 : 4 ≤ s.size) (h : s.extract 0 (s.size - 4) ++ b4 (sum (s.extract 0 (s.size - 4))) = s) : unsealed s = (s.extract 0 (s.size - 4), 0) := if_pos ⟨h4, h⟩
theorem unsealed_neg {s : ByteArray} (h : ¬ (4 ≤ s.size ∧ s.extract 0 (s.size - 4) ++ b4 (sum (s.extract 0 (s.size - 4))) = s)) : unsealed s = (⟨#[]⟩, 2) := if_neg h
theorem unseal_ev (s : ByteArray) (hs : s.size ≤ 140737488351232) : Ev (fun k => crc_Unseal.f k s) (unsealed s) := by
  unfold crc_Unseal.f
  by_cases h4 : 4 ≤ s.size
  · have e : wrap64 ((s.size : Int) - 4) = ((s.size - 4 : Nat) : Int) := by unfold wrap64; omega
    rw [e]
    refine Ev.congr (fun k => if_pos (by omega)) ?_
    refine Ev.congr (fun k => if_pos (by omega)) ?_
    refine Ev.congr (fun k => if_pos (by omega)) ?_
    have e2 : ((s.size - 4 : Nat) : Int).toNat = s.size - 4 := by omega
    rw [e2]
    refine Ev.bind (seal_ev _ (by rw [ByteArray.size_extract]; omega)) ?_
    by_cases h : s.extract 0 (s.size - 4) ++ b4 (sum (s.extract 0 (s.size - 4))) = s
    · rw [unsealed_pos h4 h]
      exact Ev.congr (fun k => if_pos (toList_inj.mpr h)) (Ev.now _)
    · rw [unsealed_neg (fun x => h x.2)]
      exact Ev.congr (fun k => if_neg (fun x => h (toList_inj.mp x))) (Ev.now _)
  · rw [unsealed_neg (fun x => h4 x.1)]
    exact Ev.congr (fun k => if_neg (by unfold wrap64; omega)) (Ev.now _)
theorem unsealed_seal (s : ByteArray) : unsealed (s ++ b4 (sum s)) = (s, 0) := by
  have e : (s ++ b4 (sum s)).size - 4 = s.size := by rw [ByteArray.size_append, b4_size]; omega
  have e2 : (s ++ b4 (sum s)).extract 0 s.size = s := by
    apply ByteArray.ext
    rw [ByteArray.data_extract, ByteArray.data_append]
    show Array.extract (s.data ++ (b4 (sum s)).data) 0 s.data.size = s.data
    simp
  unfold unsealed
  rw [e, e2, if_pos ⟨by rw [ByteArray.size_append, b4_size]; omega, rfl⟩]
theorem CrcBack : headgatelaw02_CrcBack.Pure := by
  intro s hs
  apply Ev.rounds
  unfold headgatelaw02_CrcBack.f
  by_cases h : (s.size : Int) > 100000
  · exact Ev.congr (fun k => if_pos h) (Ev.bind awake_ev (Ev.now _))
  · have hz : (s ++ b4 (sum s)).size ≤ 140737488351232 := by rw [ByteArray.size_append, b4_size]; omega
    have hu := unseal_ev _ hz
    rw [unsealed_seal] at hu
    refine Ev.congr (fun k => if_neg h) (Ev.bind (seal_ev s hs) (Ev.bind hu ?_))
    refine Ev.congr (fun k => if_pos rfl) ?_
    by_cases g : 4 ≤ s.size ∧ s.extract 0 (s.size - 4) ++ b4 (sum (s.extract 0 (s.size - 4))) = s
    · have hu2 := unseal_ev s hs
      rw [unsealed_pos g.1 g.2] at hu2
      have hse := seal_ev (s.extract 0 (s.size - 4)) (by rw [ByteArray.size_extract]; omega)
      rw [g.2] at hse
      refine Ev.step (f := ?f1) (fun k => ?_) ?_
      rotate_left
      · simp only [headgatelaw02_CrcBack.j0]; rfl
      refine Ev.congr (fun k => if_neg (by decide)) ?_
      refine Ev.bind hu2 ?_
      refine Ev.congr (fun k => if_pos rfl) ?_
      refine Ev.bind hse ?_
      exact Ev.congr (fun k => if_pos rfl) (Ev.bind awake_ev (Ev.now _))
    · have hu2 := unseal_ev s hs
      rw [unsealed_neg g] at hu2
      refine Ev.step (f := ?f2) (fun k => ?_) ?_
      rotate_left
      · simp only [headgatelaw02_CrcBack.j0]; rfl
      refine Ev.congr (fun k => if_neg (by decide)) ?_
      refine Ev.bind hu2 ?_
      refine Ev.congr (fun k => if_neg (by decide)) ?_
      exact Ev.congr (fun k => if_pos (by rw [ByteArray.toList_eq])) (Ev.bind awake_ev (Ev.now _))

end Go.Proofs.Ytdikkpmhepldgaa.Pure
