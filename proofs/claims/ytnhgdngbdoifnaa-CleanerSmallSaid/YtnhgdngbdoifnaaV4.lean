/- varint.Put, and the document's. -/
import Derived.Test.YtnhgdngbdoifnaaV3
import Derived.Test.YtnhgdngbdoifnaaFwW
import Derived.Test.YtnhgdngbdoifnaaMbase0
namespace Go.Proofs.Ytnhgdngbdoifnaa.M
open Go.Proofs.Ytnhgdngbdoifnaa.F Go.RowKit
set_option linter.unusedVariables false
set_option linter.unusedSimpArgs false
set_option maxRecDepth 100000
set_option maxHeartbeats 2000000
attribute [local irreducible] Res.cells Res.row Res.map Res.any World.cell? World.frozen? Instr.fieldAt Instr.loadAt Instr.storeAt Instr.indexAt Instr.lookup Instr.mapUpdate Instr.box Instr.build Instr.buildSlice Instr.extract Instr.alloc Instr.field Instr.index Instr.sliceAt Instr.makeSlice Instr.makeMap Instr.makeFunc binS Op.unary Sem.run
section
variable (x y : Operand) (w : World)
theorem mulu (a b : Int) : (binS .mul 73 x y (.int .u64 a) (.int .u64 b)).run Try.prog w = .ok (.int .u64 (IntKind.u64.wrap (a * b))) w := by
  rw [binS_run _ _ _ _ _ _ (by kernel_rfl)]; simp [go_sem, binOp]
theorem addu (a b : Int) : (binS .add 73 x y (.int .u64 a) (.int .u64 b)).run Try.prog w = .ok (.int .u64 (IntKind.u64.wrap (a + b))) w := by
  rw [binS_run _ _ _ _ _ _ (by kernel_rfl)]; simp [go_sem, binOp]
theorem remu (a b : Nat) (hb : 0 < b) (ha : a < 2 ^ 64) : (binS .rem 73 x y (.int .u64 (a : Int)) (.int .u64 (b : Int))).run Try.prog w = .ok (.int .u64 ((a % b : Nat) : Int)) w := by
  rw [binS_run _ _ _ _ _ _ (by kernel_rfl)]
  have hne : ¬ (b : Int) = 0 := by omega
  have hne' : ¬ b = 0 := by omega
  have h1 : Int.tmod (a : Int) (b : Int) = ((a % b : Nat) : Int) := by rw [Int.tmod_eq_emod_of_nonneg (by omega)]; norm_cast
  have h2 : a % b ≤ a := Nat.mod_le _ _
  have h3 : IntKind.u64.wrap ((a % b : Nat) : Int) = ((a % b : Nat) : Int) := by
    generalize a % b = q at *
    exact wraps_u64 _ (by omega) (by omega)
  simp [go_sem, binOp, hne, hne', h1, h3, -Int.natCast_emod]
theorem quou (a b : Nat) (hb : 0 < b) (ha : a < 2 ^ 64) : (binS .quo 73 x y (.int .u64 (a : Int)) (.int .u64 (b : Int))).run Try.prog w = .ok (.int .u64 ((a / b : Nat) : Int)) w := by
  rw [binS_run _ _ _ _ _ _ (by kernel_rfl)]
  have hne : ¬ (b : Int) = 0 := by omega
  have hne' : ¬ b = 0 := by omega
  have h1 : Int.tdiv (a : Int) (b : Int) = ((a / b : Nat) : Int) := by rw [Int.tdiv_eq_ediv_of_nonneg (by omega)]; norm_cast
  have h2 : a / b ≤ a := Nat.div_le_self _ _
  have h3 : IntKind.u64.wrap ((a / b : Nat) : Int) = ((a / b : Nat) : Int) := by
    generalize a / b = q at *
    exact wraps_u64 _ (by omega) (by omega)
  simp [go_sem, binOp, hne, hne', h1, h3, -Int.natCast_ediv]
end
theorem or128 (u : Nat) : Go.bits .or .u8 ((u : Int) % 256) 128 = ((u % 128 + 128 : Nat) : Int) := by
  have e1 : ((u : Int) % 256) = ((u % 256 : Nat) : Int) := by omega
  rw [e1, show (128 : Int) = ((128 : Nat) : Int) from rfl, (bits_nat .u8 8 (by decide) wraps_u8 (u % 256) 128 (by omega) (by omega)).2]
  congr 1
  have h : u % 256 % 128 = u % 128 := by omega
  by_cases h2 : u % 256 < 128
  · have := Nat.two_pow_add_eq_or_of_lt (i := 7) (b := u % 256) h2 1
    rw [show 2 ^ 7 * 1 = 128 from rfl] at this
    rw [Nat.or_comm]
    omega
  · have := Nat.two_pow_add_eq_or_of_lt (i := 7) (b := u % 256 - 128) (by omega) 1
    rw [show 2 ^ 7 * 1 = 128 from rfl] at this
    have e3 : u % 256 = 128 ||| (u % 256 - 128) := by omega
    rw [e3, Nat.or_comm, ← Nat.or_assoc, Nat.or_self]
    omega
abbrev e8 (l : List Nat) : List Value := l.map fun (c : Nat) => .int .u8 (c : Int)
theorem e8_set (l : List Nat) (k c : Nat) : (e8 l).set k (.int .u8 (c : Int)) = e8 (l.set k c) := by
  unfold e8
  rw [List.map_set]
theorem e8_get {l rest : List Nat} {i : Nat} (hi : i < l.length) : (e8 (l ++ rest))[i]? = some (.int .u8 (l[i] : Int)) := by
  unfold e8
  rw [List.getElem?_map, List.getElem?_append_left hi, List.getElem?_eq_getElem hi]
  rfl
theorem lebN_pos (u : Nat) : 1 ≤ (lebN u).length := by
  by_cases h : u < 128
  · rw [lebN_lo h]; simp
  · rw [lebN_hi h]; simp
theorem set_mid (out : List Nat) (r c : Nat) (rest : List Nat) : (out ++ r :: rest).set out.length c = (out ++ [c]) ++ rest := by
  rw [List.set_append_right _ _ (Nat.le_refl _), Nat.sub_self]
  simp
theorem strOf_run {w : World} {b n c : Nat} {l : List Nat} (hn : n = l.length) (h : ∀ i (hi : i < l.length), w.cell? ⟨b, i, none⟩ = some (.int .u8 (l[i] : Int))) :
    (convert 74 9 (.slice (some ⟨b, 0, none⟩) n c)).run Try.prog w = .ok (.string (strN l)) w := by
  refine run_convert_bytes_arg (P := Try.prog) w 74 5 Try.underlying74 Try.underlying5 b 0 n c (ints l) (by rw [hn]; simp [ints]) (fun i hi => ?_) 9 Try.underlying9
  have hi' : i < l.length := by omega
  rw [Nat.zero_add, h i hi']
  simp [ints, List.getD, hi']
theorem zzI64 {n : Int} (h : -9223372036854775808 ≤ n ∧ n ≤ 9223372036854775807) : Go.bits .xor .u64 (IntKind.u64.wrap (IntKind.u64.wrap n * 2)) (IntKind.u64.wrap (n / 9223372036854775808)) = ((zz n : Nat) : Int) := zzI_eq n h.1 h.2
section
variable {w0 w : World} {F : List Nat} {L : List Res}
theorem put_ret {n : Int} (hn : -9223372036854775808 ≤ n ∧ n ≤ 9223372036854775807) (hS : St w0 F w L) : Ret Try.prog 32 #[.int .i64 n] w fun v w' => v = .string (putS n) ∧ St w0 F w' L := by
  have hz := zz_lt n hn.1 hn.2
  have hl10 := lebN_len (zz n) hz
  refine s32 _ ?_
  unfold m32 m32_0 m32_1
  refine valP_ok (cvi_64 _ _) ?_
  refine valP_ok (shl1 _ _ _ _) ?_
  refine valP_ok (shr63 _ _ _ _) ?_
  refine valP_ok (cvi_64 _ _) ?_
  refine valP_ok (xor64 _ _ _ _ _) ?_
  rw [zzI64 hn]
  unfold m32_2
  refine new_ok (al96 _) hS ?_
  intro b4 w hS
  unfold m32_3 m32_4
  refine loop_in (fun s w' => ∃ (u : Nat) (out rest : List Nat), s = (.int .u64 (u : Int), .int .i64 (out.length : Int)) ∧ u < 2 ^ 64 ∧ out ++ lebN u = lebN (zz n) ∧ out.length + rest.length = 10 ∧ St w0 F w' (Res.cells b4 96 (e8 (out ++ rest)) :: L)) (fun s _ => 10 - (intOf s.2).toNat) ⟨zz n, [], [0, 0, 0, 0, 0, 0, 0, 0, 0, 0], rfl, hz, rfl, rfl, hS⟩ ?_
  clear hS
  rintro s w ⟨u, out, rest, rfl, hu, ho, hlen, hS⟩
  simp only
  have hp := lebN_pos u
  have hl := congrArg List.length ho
  rw [List.length_append] at hl
  obtain ⟨r, rest, rfl⟩ : ∃ r rest', rest = r :: rest' := by
    cases rest with
    | nil => simp at hlen; omega
    | cons r rest => exact ⟨r, rest, rfl⟩
  have hk : out.length < (e8 (out ++ r :: rest)).length := by simp
  have hk10 : out.length < 10 := by omega
  unfold m32_8
  refine valP_ok (geq_ok _ _ _ _ _ _ _) ?_
  unfold m32_12
  refine cond_split (fun h => ?_) (fun h => ?_)
  · have h1 := lebN_hi (u := u) (by omega)
    unfold m32_9
    refine valP_ok (cv64_8 _ _) ?_
    rw [IntKind.wrap_u8]
    refine valP_ok (or8 _ _ _ _ _) ?_
    rw [or128]
    refine valP_ok (iarr _ hk10) ?_
    refine store_at 0 st5 hS rfl hk rfl ?_
    intro w hS
    simp only [List.set_cons_zero] at hS
    rw [e8_set, set_mid] at hS
    unfold m32_11
    refine valP_ok (shr7 _ _ _ _) ?_
    rw [show (u : Int) / 128 = ((u / 128 : Nat) : Int) by omega]
    unfold m32_10
    refine valP_ok (add_ok _ _ _ (by omega) (by omega) _) ?_
    refine ⟨⟨u / 128, out ++ [u % 128 + 128], rest, by simp, by omega, ?_, by simp at hlen ⊢; omega, hS⟩, by simp [intOf]; omega⟩
    rw [List.append_assoc, List.singleton_append, ← h1, ho]
  · have h1 := lebN_lo (u := u) (by omega)
    unfold m32_5
    refine valP_ok (cv64_8 _ _) ?_
    rw [IntKind.wrap_u8, show (u : Int) % 256 = ((u : Nat) : Int) by omega]
    refine valP_ok (iarr _ hk10) ?_
    refine store_at 0 st5 hS rfl hk rfl ?_
    intro w hS
    simp only [List.set_cons_zero] at hS
    rw [e8_set, set_mid] at hS
    unfold m32_6
    refine valP_ok (add_ok _ _ _ (by omega) (by omega) _) ?_
    rw [show (out.length : Int) + 1 = ((out.length + 1 : Nat) : Int) by omega]
    refine valP_ok (sarr _ (by omega)) ?_
    refine valP_ok (strOf_run (l := out ++ [u]) (by simp) (fun i hi => hS.cell 0 rfl (e8_get hi))) ?_
    unfold m32_7
    refine ⟨?_, hS.tail⟩
    unfold putS
    rw [← ho, h1]
abbrev r8 (A : Option Addr) (c : Nat) (l : List Nat) : Res := Res.row 5 1 (.slice A l.length c) l.length (l.flatMap fun (c : Nat) => [.int .u8 (c : Int)])
theorem flat8 (l : List Nat) : (l.flatMap fun (c : Nat) => [Value.int .u8 (c : Int)]) = e8 l := by
  induction l with
  | nil => rfl
  | cons c l ih => rw [List.flatMap_cons, ih]; rfl
theorem rput_ret {n : Int} (hn : -9223372036854775808 ≤ n ∧ n ≤ 9223372036854775807) (hS : St w0 F w L) : Ret Try.prog 17 #[.int .i64 n] w fun v w' => v = .string (putS n) ∧ St w0 F w' L := by
  have hz := zz_lt n hn.1 hn.2
  have hl10 := lebN_len (zz n) hz
  have main : m17_3 (fun v w' => v = .string (putS n) ∧ St w0 F w' L) (.int .u64 (zz n : Int)) w := by
    unfold m17_3 m17_4
    refine loop_in (fun s w' => ∃ (u : Nat) (out : List Nat) (A : Option Addr) (c : Nat), s = (.int .u64 (u : Int), .slice A out.length c) ∧ u < 2 ^ 64 ∧ out ++ lebN u = lebN (zz n) ∧ St w0 F w' (r8 A c out :: L)) (fun s _ => (intOf s.1).toNat) ⟨zz n, [], none, 0, rfl, hz, rfl, hS.row_nil 5 1⟩ ?_
    clear hS
    rintro s w ⟨u, out, A, c, rfl, hu, ho, hS⟩
    simp only
    have hp := lebN_pos u
    have hl := congrArg List.length ho
    rw [List.length_append] at hl
    unfold m17_8
    refine valP_ok (gtr_ok _ _ _ _ _ _ _) ?_
    unfold m17_11
    refine cond_split (fun h => ?_) (fun h => ?_)
    · have h1 := lebN_hi (u := u) (by omega)
      unfold m17_9
      refine valP_ok (remu _ _ _ u 128 (by omega) hu) ?_
      refine valP_ok (addu _ _ _ _ _) ?_
      rw [wraps_u64 _ (by omega) (by omega)]
      refine valP_ok (cv64_8 _ _) ?_
      rw [IntKind.wrap_u8, show (((u % 128 : Nat) : Int) + 128) % 256 = ((u % 128 + 128 : Nat) : Int) by omega]
      refine newslice_ok (bs74_1 rfl _) hS ?_
      intro b23 w hS
      refine append_one1 (enc := fun (c : Nat) => [.int .u8 (c : Int)]) 0 (u % 128 + 128) sl74 (fun _ => rfl) (fun _ v hv => by obtain rfl := List.mem_singleton.1 hv; rfl) (by unfold maxLen; omega) (by omega) hS rfl ?_
      intro A' c' w' hS
      simp only [List.set_cons_zero] at hS
      unfold m17_10
      refine valP_ok (quou _ _ _ u 128 (by omega) hu) ?_
      refine ⟨⟨u / 128, _, A', c', rfl, by omega, ?_, hS⟩, by simp [intOf]; omega⟩
      rw [List.append_assoc, List.singleton_append, ← h1, ho]
    · have h1 := lebN_lo (u := u) (by omega)
      unfold m17_5
      refine valP_ok (cv64_8 _ _) ?_
      rw [IntKind.wrap_u8, show (u : Int) % 256 = ((u : Nat) : Int) by omega]
      refine newslice_ok (bs74_1 rfl _) hS ?_
      intro b30 w hS
      refine append_one1 (enc := fun (c : Nat) => [.int .u8 (c : Int)]) 0 u sl74 (fun _ => rfl) (fun _ v hv => by obtain rfl := List.mem_singleton.1 hv; rfl) (by unfold maxLen; omega) (by omega) hS rfl ?_
      intro A' c' w' hS
      simp only [List.set_cons_zero] at hS
      obtain ⟨g, rfl⟩ := hS.row_ptr 0 rfl (by simp)
      unfold m17_6
      refine valP_ok (strOf_run (l := out ++ [u]) rfl (fun i hi => hS.row_cell 0 rfl (by have := e8_get (rest := []) hi; rw [List.append_nil] at this; rw [flat8]; exact this))) ?_
      unfold m17_7
      refine ⟨?_, hS.tail⟩
      unfold putS
      rw [← ho, h1]
  refine s17 _ ?_
  unfold m17 m17_0 m17_1
  refine valP_ok (cvi_64 _ _) ?_
  refine valP_ok (mulu _ _ _ _ _) ?_
  unfold m17_2
  refine valP_ok (lss_ok _ _ _ _ _ _ _) ?_
  unfold m17_12
  refine cond_split (fun h => ?_) (fun h => ?_)
  · refine valP_ok (add_ok _ _ _ (by omega) (by omega) _) ?_
    refine valP_ok (negI _ _) ?_
    refine valP_ok (cvi_64 _ _) ?_
    refine valP_ok (mulu _ _ _ _ _) ?_
    refine valP_ok (addu _ _ _ _ _) ?_
    have e : IntKind.u64.wrap (IntKind.u64.wrap (IntKind.u64.wrap (IntKind.i64.wrap (-(n + 1))) * 2) + 1) = ((zz n : Nat) : Int) := by
      unfold zz
      rw [if_neg (by omega), IntKind.wrap_i64, wrap_u64, wrap_u64, wrap_u64]
      omega
    rw [e]
    exact main
  · have e : IntKind.u64.wrap (IntKind.u64.wrap n * 2) = ((zz n : Nat) : Int) := by
      unfold zz
      rw [if_pos (by omega), wrap_u64, wrap_u64]
      omega
    rw [e]
    exact main
end


end Go.Proofs.Ytnhgdngbdoifnaa.M
