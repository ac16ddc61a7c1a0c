/- Numbers as bytes, plain. -/
import Derived.Test.YtnhgdngbdoifnaaFwT
import Derived.Test.YtnhgdngbdoifnaaProg
import Derived.Laws.BitsLemmas
import Derived.Laws.BytesArg
namespace Go.Proofs.Ytnhgdngbdoifnaa.M
open Go.Proofs.Ytnhgdngbdoifnaa.F Go.RowKit
set_option linter.unusedVariables false
set_option linter.unusedSimpArgs false
set_option maxRecDepth 100000
set_option maxHeartbeats 2000000
attribute [local irreducible] Res.cells Res.row Res.map Res.any World.cell? World.frozen? Instr.fieldAt Instr.loadAt Instr.storeAt Instr.indexAt Instr.lookup Instr.mapUpdate Instr.box Instr.build Instr.buildSlice Instr.extract Instr.alloc Instr.field Instr.index Instr.sliceAt Instr.makeSlice Instr.makeMap Instr.makeFunc binS Op.unary Sem.run
open Go.RowKit
def bytesN (s : ByteArray) : List Nat := s.data.toList.map UInt8.toNat
theorem bytesN_length (s : ByteArray) : (bytesN s).length = s.size := by unfold bytesN; rw [List.length_map, Array.length_toList]; rfl
theorem bytesN_lt (s : ByteArray) : ∀ b ∈ bytesN s, b < 256 := by
  intro b hb; simp only [bytesN, List.mem_map] at hb; obtain ⟨u, _, rfl⟩ := hb; exact u.toNat_lt
theorem bytesN_inj {a b : ByteArray} (h : bytesN a = bytesN b) : a = b := by
  unfold bytesN at h
  have := (List.map_inj_right (fun a b h => UInt8.toNat_inj.mp h)).mp h
  exact ByteArray.ext (Array.toList_inj.mp this)
theorem bytesN_append (a b : ByteArray) : bytesN (a ++ b) = bytesN a ++ bytesN b := by
  unfold bytesN; rw [ByteArray.data_append, Array.toList_append, List.map_append]
theorem bytesN_drop (s : ByteArray) (j : Nat) : bytesN (s.extract j s.size) = (bytesN s).drop j := by
  unfold bytesN
  rw [ByteArray.data_extract, Array.toList_extract]
  have e : s.size = s.data.toList.length := by rw [Array.length_toList]; rfl
  rw [e, List.extract_eq_take_drop, ← List.map_drop, List.take_of_length_le (by rw [List.length_drop]; omega)]
theorem bytesN_take (s : ByteArray) (j : Nat) : bytesN (s.extract 0 j) = (bytesN s).take j := by
  unfold bytesN
  rw [ByteArray.data_extract, Array.toList_extract, List.extract_eq_take_drop, List.drop_zero, Nat.sub_zero, List.map_take]
theorem bytesN_get (s : ByteArray) (i : Nat) (h : i < s.size) : (bytesN s)[i]'(by rw [bytesN_length]; exact h) = s[i].toNat := by
  unfold bytesN
  rw [List.getElem_map]
  rfl
def lebN (u : Nat) : List Nat := if u < 128 then [u] else (u % 128 + 128) :: lebN (u / 128)
theorem lebN_lo {u : Nat} (h : u < 128) : lebN u = [u] := by rw [lebN, if_pos h]
theorem lebN_hi {u : Nat} (h : ¬ u < 128) : lebN u = (u % 128 + 128) :: lebN (u / 128) := by rw [lebN, if_neg h]
theorem lebN_lt (u : Nat) : ∀ b ∈ lebN u, b < 256 := by
  induction u using Nat.strongRecOn with
  | _ u ih =>
    by_cases h : u < 128
    · rw [lebN_lo h]; intro b hb; simp at hb; omega
    · rw [lebN_hi h]; intro b hb
      rcases List.mem_cons.1 hb with rfl | hb
      · omega
      · exact ih _ (by omega) b hb
theorem bytesN_strOfNums (L : List Nat) (hL : ∀ b ∈ L, b < 256) : bytesN (strOfNums (L.map Int.ofNat)) = L := by
  unfold bytesN strOfNums
  simp only [List.map_map]
  rw [List.map_congr_left (g := id)]
  · simp
  · intro b hb
    have := hL b hb
    simp only [Function.comp_apply, id]
    exact Nat.mod_eq_of_lt this
def vT : Nat → Nat → List Nat → Option (Nat × List Nat)
  | _, _, [] => none
  | k, a, c :: l => if 10 ≤ k then none else if 128 ≤ c then vT (k + 1) (a + (c - 128) * 2 ^ (7 * k)) l
      else if (0 < k ∧ c = 0) ∨ (k = 9 ∧ 1 < c) then none else some (a + c * 2 ^ (7 * k), l)
theorem pow7 (k : Nat) : 2 ^ (7 * (k + 1)) = 128 * 2 ^ (7 * k) := by rw [show 7 * (k + 1) = 7 + 7 * k by omega, Nat.pow_add]
theorem pow64 (k : Nat) (hk : k ≤ 8) : 2 ^ (64 - 7 * k) = 128 * 2 ^ (64 - 7 * (k + 1)) := by rw [show 64 - 7 * k = 7 + (64 - 7 * (k + 1)) by omega, Nat.pow_add]
theorem pow64_9 : 2 ^ (64 - 7 * 9) = 2 := by decide
theorem pow64_le (k : Nat) (hk : k ≤ 8) : 256 ≤ 2 ^ (64 - 7 * k) := by
  have := Nat.pow_le_pow_right (n := 2) (by decide) (show 8 ≤ 64 - 7 * k by omega)
  omega
theorem vT_lebN (u : Nat) : ∀ (k a : Nat) (l : List Nat), k ≤ 9 → u < 2 ^ (64 - 7 * k) → (0 < k → 0 < u) → vT k a (lebN u ++ l) = some (a + u * 2 ^ (7 * k), l) := by
  induction u using Nat.strongRecOn with
  | _ u ih =>
    intro k a l hk hu h0
    by_cases h : u < 128
    · rw [lebN_lo h, List.singleton_append]
      simp only [vT]
      rw [if_neg (by omega), if_neg (by omega), if_neg]
      rintro (⟨g1, g2⟩ | ⟨g1, g2⟩)
      · have := h0 g1; omega
      · subst g1; rw [pow64_9] at hu; omega
    · have hk8 : k ≤ 8 := by
        rcases Nat.lt_or_ge k 9 with g | g
        · omega
        · obtain rfl : k = 9 := by omega
          rw [pow64_9] at hu; omega
      rw [lebN_hi h, List.cons_append]
      simp only [vT]
      rw [if_neg (by omega), if_pos (by omega), Nat.add_sub_cancel, ih (u / 128) (by omega) (k + 1) _ l (by omega) (by rw [pow64 k hk8] at hu; exact Nat.div_lt_of_lt_mul hu) (by omega), pow7]
      congr 2
      have : u = u % 128 + 128 * (u / 128) := (Nat.mod_add_div u 128).symm
      generalize hz : 2 ^ (7 * k) = z
      generalize u / 128 = q at *
      generalize u % 128 = r at *
      subst this
      rw [Nat.add_mul, Nat.add_assoc]
      congr 2
      ac_rfl
theorem vT_prefix (u : Nat) : ∀ (k a : Nat) (p : List Nat), p <+: lebN u → p ≠ lebN u → vT k a p = none := by
  induction u using Nat.strongRecOn with
  | _ u ih =>
    intro k a p hp hne
    cases p with
    | nil => rfl
    | cons c p =>
      by_cases h : u < 128
      · rw [lebN_lo h] at hp hne
        obtain ⟨t, ht⟩ := hp
        rw [List.cons_append] at ht
        injection ht with h1 h2
        obtain ⟨h3, h4⟩ := List.append_eq_nil_iff.mp h2
        subst h1 h3
        exact absurd rfl hne
      · rw [lebN_hi h] at hp hne
        obtain ⟨t, ht⟩ := hp
        rw [List.cons_append] at ht
        injection ht with h1 h2
        subst h1
        simp only [vT]
        by_cases g : 10 ≤ k
        · rw [if_pos g]
        · rw [if_neg g, if_pos (by omega)]
          exact ih (u / 128) (by omega) _ _ p ⟨t, h2⟩ (fun e => hne (by rw [e]))
theorem vT_canon (l : List Nat) : ∀ (k a v : Nat) (rest : List Nat), k ≤ 10 → (∀ b ∈ l, b < 256) → vT k a l = some (v, rest) →
    ∃ u, v = a + u * 2 ^ (7 * k) ∧ l = lebN u ++ rest ∧ k ≤ 9 ∧ u < 2 ^ (64 - 7 * k) ∧ (0 < k → 0 < u) := by
  induction l with
  | nil => intro k a v rest _ _ h; cases h
  | cons c l ih =>
    intro k a v rest hk hl h
    have hc := hl c (List.mem_cons_self ..)
    simp only [vT] at h
    by_cases g : 10 ≤ k
    · rw [if_pos g] at h; cases h
    rw [if_neg g] at h
    by_cases g1 : 128 ≤ c
    · rw [if_pos g1] at h
      obtain ⟨u, h1, h2, h3, h4, h5⟩ := ih (k + 1) _ v rest (by omega) (fun b hb => hl b (List.mem_cons_of_mem _ hb)) h
      have h0 := h5 (by omega)
      refine ⟨c - 128 + 128 * u, ?_, ?_, by omega, ?_, fun _ => by omega⟩
      · rw [h1, pow7, Nat.add_mul, Nat.add_assoc]
        congr 2
        ac_rfl
      · rw [lebN_hi (by omega), h2, show (c - 128 + 128 * u) % 128 + 128 = c by omega, show (c - 128 + 128 * u) / 128 = u by omega, List.cons_append]
      · rw [pow64 k (by omega)]; generalize 2 ^ (64 - 7 * (k + 1)) = z at *; omega
    · rw [if_neg g1] at h
      by_cases g2 : (0 < k ∧ c = 0) ∨ (k = 9 ∧ 1 < c)
      · rw [if_pos g2] at h; cases h
      · rw [if_neg g2] at h
        obtain ⟨rfl, rfl⟩ := Prod.mk.inj (Option.some.inj h)
        refine ⟨c, rfl, by rw [lebN_lo (by omega)]; rfl, by omega, ?_, fun _ => by omega⟩
        rcases Nat.lt_or_ge k 9 with e | e
        · have := pow64_le k (by omega); omega
        · obtain rfl : k = 9 := by omega
          rw [pow64_9]; omega
def nextU (u : Int) (c : Int) (k : Nat) : Int := Go.bits .or .u64 u (IntKind.u64.wrap (IntKind.u64.wrap (Go.bits .and .u8 c 127) * 2 ^ (7 * k)))
def unzI (u : Int) : Int := Go.bits .xor .i64 (wrap64 (u / 2)) (wrap64 (-wrap64 (Go.bits .and .u64 u 1)))
def zzI (n : Int) : Int := Go.bits .xor .u64 (IntKind.u64.wrap (IntKind.u64.wrap n * 2)) (IntKind.u64.wrap (n / 9223372036854775808))
theorem and127 (c : Nat) (hc : c < 256) : Go.bits .and .u8 (c : Int) 127 = ((c % 128 : Nat) : Int) := by
  rw [show (127 : Int) = ((127 : Nat) : Int) from rfl, (bits_nat .u8 8 (by decide) wraps_u8 c 127 hc (by decide)).1]
  congr 1
  exact Nat.and_two_pow_sub_one_eq_mod c 7
theorem wrap_u64 (n : Int) : IntKind.u64.wrap n = n % 18446744073709551616 := by simp [IntKind.wrap, IntKind.bits, IntKind.signed]
theorem wraps_u64 (n : Int) (h₀ : 0 ≤ n) (h₁ : n < 2 ^ 64) : IntKind.u64.wrap n = n := by rw [wrap_u64]; omega
theorem nextU_eq (a c k : Nat) (hk : k ≤ 9) (ha : a < 2 ^ (7 * k)) (hc : c < 256) (h9 : k = 9 → c % 128 ≤ 1) : nextU (a : Int) (c : Int) k = ((a + (c % 128) * 2 ^ (7 * k) : Nat) : Int) := by
  unfold nextU
  have hlt : (c % 128) * 2 ^ (7 * k) < 2 ^ 64 := by
    rcases Nat.lt_or_ge k 9 with e | e
    · have h1 := Nat.pow_le_pow_right (n := 2) (by decide) (show 7 * k ≤ 56 by omega)
      have h2 : c % 128 < 128 := Nat.mod_lt _ (by decide)
      calc (c % 128) * 2 ^ (7 * k) ≤ 127 * 2 ^ 56 := Nat.mul_le_mul (by omega) h1
        _ < 2 ^ 64 := by decide
    · obtain rfl : k = 9 := by omega
      have := h9 rfl
      calc (c % 128) * 2 ^ (7 * 9) ≤ 1 * 2 ^ (7 * 9) := Nat.mul_le_mul this (Nat.le_refl _)
        _ < 2 ^ 64 := by decide
  have ha64 : a < 2 ^ 64 := Nat.lt_of_lt_of_le ha (Nat.pow_le_pow_right (by decide) (by omega))
  have e1 : IntKind.u64.wrap (((c % 128 : Nat) : Int)) = ((c % 128 : Nat) : Int) := wraps_u64 _ (by omega) (by omega)
  have e2 : (((c % 128 : Nat) : Int) * 2 ^ (7 * k)) = (((c % 128) * 2 ^ (7 * k) : Nat) : Int) := by rw [Int.natCast_mul]; simp
  rw [and127 c hc, e1, e2, wraps_u64 _ (by omega) (by exact_mod_cast hlt), (bits_nat .u64 64 (by decide) wraps_u64 a _ ha64 hlt).2]
  congr 1
  have := Nat.two_pow_add_eq_or_of_lt ha (c % 128)
  rw [Nat.mul_comm (c % 128), Nat.or_comm, ← this]; omega
def unz (v : Nat) : Int := if v % 2 = 0 then ((v / 2 : Nat) : Int) else -((v / 2 : Nat) : Int) - 1
def zz (n : Int) : Nat := if 0 ≤ n then (2 * n).toNat else (-2 * n - 1).toNat
theorem unz_zz (n : Int) : unz (zz n) = n := by unfold unz zz; split <;> split <;> omega
theorem zz_unz (v : Nat) : zz (unz v) = v := by unfold unz zz; split <;> split <;> omega
theorem and1_64 (v : Nat) (hv : v < 2 ^ 64) : Go.bits .and .u64 (v : Int) 1 = ((v % 2 : Nat) : Int) := by
  rw [show (1 : Int) = ((1 : Nat) : Int) from rfl, (bits_nat .u64 64 (by decide) wraps_u64 v 1 hv (by decide)).1, Nat.and_one_is_mod]
theorem xor_i64_zero (x : Nat) (hx : x < 2 ^ 63) : Go.bits .xor .i64 (x : Int) 0 = (x : Int) := by
  show IntKind.i64.wrap ((BitVec.ofInt 64 (x : Int) ^^^ BitVec.ofInt 64 ((0 : Nat) : Int)).toNat) = _
  rw [BitVec.ofInt_natCast, BitVec.ofInt_natCast, BitVec.toNat_xor, BitVec.toNat_ofNat, BitVec.toNat_ofNat, Nat.mod_eq_of_lt (by omega), Nat.zero_mod, Nat.xor_zero, IntKind.wrap_i64]
  omega
theorem xor_i64_ones (x : Nat) (hx : x < 2 ^ 63) : Go.bits .xor .i64 (x : Int) (-1) = -(x : Int) - 1 := by
  show IntKind.i64.wrap ((BitVec.ofInt 64 (x : Int) ^^^ BitVec.ofInt 64 (-1)).toNat) = _
  have e : BitVec.ofInt 64 (-1) = BitVec.allOnes 64 := by decide
  rw [e, BitVec.xor_allOnes, BitVec.toNat_not, BitVec.ofInt_natCast, BitVec.toNat_ofNat, Nat.mod_eq_of_lt (by omega), IntKind.wrap_i64]
  omega
theorem unzI_eq (v : Nat) (hv : v < 2 ^ 64) : unzI (v : Int) = unz v := by
  unfold unzI unz
  rw [and1_64 v hv]
  have e1 : wrap64 ((v : Int) / 2) = ((v / 2 : Nat) : Int) := by unfold wrap64; omega
  rw [e1]
  by_cases h : v % 2 = 0
  · rw [if_pos h, h, show wrap64 (-wrap64 ((0 : Nat) : Int)) = 0 by unfold wrap64; omega]
    exact xor_i64_zero _ (by omega)
  · rw [if_neg h, show v % 2 = 1 by omega, show wrap64 (-wrap64 ((1 : Nat) : Int)) = -1 by unfold wrap64; omega]
    exact xor_i64_ones _ (by omega)
theorem zzI_eq (n : Int) (h1 : -9223372036854775808 ≤ n) (h2 : n ≤ 9223372036854775807) : zzI n = ((zz n : Nat) : Int) := by
  unfold zzI zz
  by_cases h : 0 ≤ n
  · rw [if_pos h]
    have e1 : IntKind.u64.wrap (IntKind.u64.wrap n * 2) = (((2 * n).toNat : Nat) : Int) := by rw [wrap_u64, wrap_u64]; omega
    have e2 : IntKind.u64.wrap (n / 9223372036854775808) = ((0 : Nat) : Int) := by rw [wrap_u64]; omega
    rw [e1, e2]
    show IntKind.u64.wrap ((BitVec.ofInt 64 _ ^^^ BitVec.ofInt 64 _).toNat) = _
    rw [BitVec.ofInt_natCast, BitVec.ofInt_natCast, BitVec.toNat_xor, BitVec.toNat_ofNat, BitVec.toNat_ofNat, Nat.mod_eq_of_lt (by omega), Nat.zero_mod, Nat.xor_zero, wrap_u64]
    omega
  · rw [if_neg h]
    have e1 : IntKind.u64.wrap (IntKind.u64.wrap n * 2) = (((18446744073709551616 + 2 * n).toNat : Nat) : Int) := by rw [wrap_u64, wrap_u64]; omega
    have e2 : IntKind.u64.wrap (n / 9223372036854775808) = 18446744073709551615 := by rw [wrap_u64]; omega
    rw [e1, e2]
    show IntKind.u64.wrap ((BitVec.ofInt 64 _ ^^^ BitVec.ofInt 64 18446744073709551615).toNat) = _
    have e : BitVec.ofInt 64 18446744073709551615 = BitVec.allOnes 64 := by decide
    rw [e, BitVec.xor_allOnes, BitVec.toNat_not, BitVec.ofInt_natCast, BitVec.toNat_ofNat, Nat.mod_eq_of_lt (by omega), wrap_u64]
    omega
theorem zz_lt (n : Int) (h1 : -9223372036854775808 ≤ n) (h2 : n ≤ 9223372036854775807) : zz n < 2 ^ 64 := by unfold zz; split <;> omega
def takeL (l : List Nat) : Option (Int × List Nat) := (vT 0 0 l).map fun p => (unz p.1, p.2)
theorem vT_ten (a : Nat) (l : List Nat) : vT 10 a l = none := by
  cases l with
  | nil => rfl
  | cons c l => simp only [vT]; rw [if_pos (by omega)]
theorem takeL_put (n : Int) (l : List Nat) (h1 : -9223372036854775808 ≤ n) (h2 : n ≤ 9223372036854775807) : takeL (lebN (zz n) ++ l) = some (n, l) := by
  unfold takeL
  rw [vT_lebN (zz n) 0 0 l (by omega) (zz_lt n h1 h2) (by omega)]
  simp [unz_zz]
theorem takeL_canon {l rest : List Nat} {n : Int} (hl : ∀ b ∈ l, b < 256) (h : takeL l = some (n, rest)) : l = lebN (zz n) ++ rest ∧ -9223372036854775808 ≤ n ∧ n ≤ 9223372036854775807 := by
  unfold takeL at h
  cases hv : vT 0 0 l with
  | none => rw [hv] at h; cases h
  | some p =>
    obtain ⟨v, r⟩ := p
    rw [hv] at h
    obtain ⟨rfl, rfl⟩ := Prod.mk.inj (Option.some.inj h)
    obtain ⟨u, e1, e2, -, e4, -⟩ := vT_canon l 0 0 v r (by omega) hl hv
    have e5 : v = u := by rw [e1]; simp
    subst e5
    refine ⟨by rw [zz_unz]; exact e2, ?_, ?_⟩ <;> (unfold unz; split <;> omega)

theorem w64 (u : Nat) (h : u < 2 ^ 64) : IntKind.u64.wrap (u : Int) = (u : Int) := wraps_u64 _ (by omega) (by omega)
theorem w64m (u : Nat) : IntKind.u64.wrap (u : Int) = ((u % 2 ^ 64 : Nat) : Int) := by rw [wrap_u64]; omega
theorem lebN_len (u : Nat) : u < 2 ^ 64 → (lebN u).length ≤ 10 := fun h => by
  have key : ∀ k u, u < 2 ^ (7 * k) → 1 ≤ k → (lebN u).length ≤ k := by
    intro k
    induction k with
    | zero => intro u _ h; omega
    | succ k ih =>
      intro u hu _
      by_cases h : u < 128
      · rw [lebN_lo h]; simp
      · rw [lebN_hi h, List.length_cons]
        by_cases hk : k = 0
        · subst hk; exact absurd hu (by simpa using h)
        have := ih (u / 128) (by rw [pow7] at hu; omega) (by omega)
        omega
  exact key 10 u (Nat.lt_trans h (by decide)) (by omega)
abbrev ints (l : List Nat) : List Int := l.map Int.ofNat
/-- these bytes. -/
def strN (l : List Nat) : ByteArray := strOfNums (ints l)
def putS (n : Int) : ByteArray := strN (lebN (zz n))
theorem bytesN_strN {l : List Nat} (h : ∀ b ∈ l, b < 256) : bytesN (strN l) = l := bytesN_strOfNums l h
theorem bytesN_putS (n : Int) : bytesN (putS n) = lebN (zz n) := bytesN_strN (lebN_lt _)
theorem strN_bytesN (s : ByteArray) : strN (bytesN s) = s := bytesN_inj (bytesN_strN (bytesN_lt s))
/-- the number with which bytes begin, and what is behind it. -/
def takeS (s : ByteArray) : Option (Int × ByteArray) := (vT 0 0 (bytesN s)).map fun p => (unz p.1, strN p.2)


end Go.Proofs.Ytnhgdngbdoifnaa.M
