/- varint.Take. -/
import Derived.Test.YtnhgdngbdoifnaaV2
import Derived.Test.YtnhgdngbdoifnaaMbase0
namespace Go.Proofs.Ytnhgdngbdoifnaa.M
open Go.Proofs.Ytnhgdngbdoifnaa.F Go.RowKit
set_option linter.unusedVariables false
set_option linter.unusedSimpArgs false
set_option maxRecDepth 100000
set_option maxHeartbeats 2000000
attribute [local irreducible] Res.cells Res.row Res.map Res.any World.cell? World.frozen? Instr.fieldAt Instr.loadAt Instr.storeAt Instr.indexAt Instr.lookup Instr.mapUpdate Instr.box Instr.build Instr.buildSlice Instr.extract Instr.alloc Instr.field Instr.index Instr.sliceAt Instr.makeSlice Instr.makeMap Instr.makeFunc binS Op.unary Sem.run
theorem wrap64_eq (n : Int) : IntKind.i64.wrap n = wrap64 n := by
  rw [IntKind.wrap_i64, wrap64]
abbrev noV : Value := .tuple #[.int .i64 0, .string ⟨#[]⟩, .int .i64 2]
/-- what Take answers. -/
def tkV (s : ByteArray) : Value := match takeS s with
  | none => noV
  | some (n, r) => .tuple #[.int .i64 n, .string r, .int .i64 0]
theorem strN_drop (s : ByteArray) (j : Nat) : strN ((bytesN s).drop j) = s.extract j s.size := by
  refine bytesN_inj ?_
  rw [bytesN_strN (fun b hb => bytesN_lt s b (List.mem_of_mem_drop hb)), bytesN_drop]
theorem takeS_none {s : ByteArray} (h : vT 0 0 (bytesN s) = none) : takeS s = none := by
  unfold takeS
  rw [h]
  rfl
theorem takeS_some {s : ByteArray} {v : Nat} {j : Nat} (h : vT 0 0 (bytesN s) = some (v, (bytesN s).drop j)) : takeS s = some (unz v, s.extract j s.size) := by
  unfold takeS
  rw [h]
  simp only [Option.map_some]
  rw [strN_drop]
def TkInv (s : ByteArray) (x : Int) (k : Nat) : Prop := k ≤ s.size ∧ ((k = 10 ∧ vT 0 0 (bytesN s) = none) ∨ ∃ a : Nat, x = (a : Int) ∧ a < 2 ^ (7 * k) ∧ k ≤ 9 ∧ vT k a ((bytesN s).drop k) = vT 0 0 (bytesN s))
theorem TkInv.le {s : ByteArray} {x : Int} {k : Nat} (h : TkInv s x k) : k ≤ 10 := by
  rcases h.2 with h | ⟨_, _, _, h, _⟩ <;> omega
theorem TkInv.stop {s : ByteArray} {x : Int} {k : Nat} (h : TkInv s x k) (hk : k = s.size ∨ k = 10) : takeS s = none := by
  rcases h.2 with h2 | ⟨a, rfl, ha, h9, e⟩
  · exact takeS_none h2.2
  · refine takeS_none (e ▸ ?_)
    have hd : (bytesN s).drop k = [] := List.drop_eq_nil_of_le (by rw [bytesN_length]; omega)
    rw [hd]
    rfl
theorem TkInv.at {s : ByteArray} {x : Int} {k : Nat} (h : TkInv s x k) (h10 : ¬ k = 10) (hk : k < s.size) : ∃ a : Nat, x = (a : Int) ∧ a < 2 ^ (7 * k) ∧ k ≤ 9 ∧
    (if 128 ≤ s[k].toNat then vT (k + 1) (a + (s[k].toNat - 128) * 2 ^ (7 * k)) ((bytesN s).drop (k + 1)) else if (0 < k ∧ s[k].toNat = 0) ∨ (k = 9 ∧ 1 < s[k].toNat) then none else some (a + s[k].toNat * 2 ^ (7 * k), (bytesN s).drop (k + 1))) = vT 0 0 (bytesN s) := by
  rcases h.2 with h2 | ⟨a, rfl, ha, h9, e⟩
  · omega
  · refine ⟨a, rfl, ha, h9, ?_⟩
    rw [← e, List.drop_eq_getElem_cons (l := bytesN s) (i := k) (by rw [bytesN_length]; exact hk), bytesN_get s k hk]
    simp only [vT]
    rw [if_neg (by omega : ¬ 10 ≤ k)]
theorem TkInv.next {s : ByteArray} {x : Int} {k : Nat} (h : TkInv s x k) (h10 : ¬ k = 10) (hk : k < s.size) (hc : 128 ≤ s[k].toNat) : TkInv s (nextU x s[k].toNat k) (k + 1) := by
  obtain ⟨a, rfl, ha, h9, e⟩ := h.at h10 hk
  rw [if_pos hc] at e
  have hlt := bytesN_lt s _ (List.getElem_mem (l := bytesN s) (n := k) (by rw [bytesN_length]; exact hk))
  rw [bytesN_get s k hk] at hlt
  refine ⟨hk, ?_⟩
  rcases Nat.lt_or_ge k 9 with g | g
  · have hn := nextU_eq a s[k].toNat k (by omega) ha hlt (by omega)
    have e1 : s[k].toNat % 128 = s[k].toNat - 128 := by omega
    refine .inr ⟨_, hn, ?_, by omega, by rw [e1]; exact e⟩
    rw [e1, pow7]
    have h127 : s[k].toNat - 128 ≤ 127 := by omega
    have hm : (s[k].toNat - 128) * 2 ^ (7 * k) ≤ 127 * 2 ^ (7 * k) := Nat.mul_le_mul h127 (Nat.le_refl _)
    generalize 2 ^ (7 * k) = z at *
    omega
  · obtain rfl : k = 9 := by omega
    exact .inl ⟨rfl, e.symm.trans (vT_ten _ _)⟩
theorem TkInv.bad {s : ByteArray} {x : Int} {k : Nat} (h : TkInv s x k) (h10 : ¬ k = 10) (hk : k < s.size) (hc : ¬ 128 ≤ s[k].toNat) (hb : (0 < k ∧ s[k].toNat = 0) ∨ (k = 9 ∧ 1 < s[k].toNat)) : takeS s = none := by
  obtain ⟨a, rfl, ha, h9, e⟩ := h.at h10 hk
  rw [if_neg hc, if_pos hb] at e
  exact takeS_none e.symm
theorem TkInv.good {s : ByteArray} {x : Int} {k : Nat} (h : TkInv s x k) (h10 : ¬ k = 10) (hk : k < s.size) (hc : ¬ 128 ≤ s[k].toNat) (hb : ¬ ((0 < k ∧ s[k].toNat = 0) ∨ (k = 9 ∧ 1 < s[k].toNat))) : takeS s = some (unzI (nextU x s[k].toNat k), s.extract (k + 1) s.size) := by
  obtain ⟨a, rfl, ha, h9, e⟩ := h.at h10 hk
  rw [if_neg hc, if_neg hb] at e
  have hn := nextU_eq a s[k].toNat k h9 ha (by omega) (fun e => by omega)
  rw [hn, show s[k].toNat % 128 = s[k].toNat by omega, unzI_eq]
  · exact takeS_some e.symm
  · rcases Nat.lt_or_ge k 9 with g | g
    · have h1 := Nat.pow_le_pow_right (n := 2) (by decide) (show 7 * k ≤ 56 by omega)
      have h127 : s[k].toNat ≤ 127 := by omega
      have hm : s[k].toNat * 2 ^ (7 * k) ≤ 127 * 2 ^ (7 * k) := Nat.mul_le_mul h127 (Nat.le_refl _)
      generalize 2 ^ (7 * k) = z at *
      omega
    · obtain rfl : k = 9 := by omega
      have h1' : s[9].toNat ≤ 1 := by omega
      have hm : s[9].toNat * 2 ^ (7 * 9) ≤ 1 * 2 ^ (7 * 9) := Nat.mul_le_mul h1' (Nat.le_refl _)
      omega
section
variable {w0 w : World} {F : List Nat} {L : List Res} {s : ByteArray}
theorem take_ret (hS : St w0 F w L) : Ret Try.prog 31 #[.string s] w fun v w' => v = tkV s ∧ St w0 F w' L := by
  refine s31 _ ?_
  unfold m31 m31_0 m31_1 m31_2 m31_3
  refine loop_in (fun u w' => ∃ (x : Int) (k : Nat), u = (.int .u64 x, .int .i64 (k : Int)) ∧ TkInv s x k ∧ St w0 F w' L) (fun u _ => 10 - (intOf u.2).toNat) ⟨0, 0, rfl, ⟨by omega, .inr ⟨0, rfl, by decide, by omega, rfl⟩⟩, hS⟩ ?_
  clear hS
  rintro u w ⟨x, k, rfl, hI, hS⟩
  simp only
  have hk := hI.1
  have hk10 := hI.le
  have bad : ∀ K1 w, takeS s = none → St w0 F w L → m31_16 (fun v w' => v = tkV s ∧ St w0 F w' L) K1 (.int .i64 0) (.string ⟨#[]⟩) (.int .i64 2) w := fun K1 w h hS => by
    unfold m31_16
    refine ⟨?_, hS⟩
    unfold tkV
    rw [h]
  unfold m31_4
  refine builtin_ok (len9 _) ?_
  refine valP_ok (eq3 _ _ _ _ _) ?_
  refine cond_split (fun h => ?_) (fun h => ?_)
  · first | refine pick_dt (by first | assumption | omega) ?_ | refine pick_df (by first | assumption | omega) ?_ | refine pick_t (by first | rfl | assumption) ?_ | refine pick_f (by first | rfl | assumption) ?_ | refine pick_dt rfl ?_ | refine pick_df (not_not_intro rfl) ?_
    unfold m31_15
    refine cond_t rfl ?_
    exact bad _ _ (hI.stop (.inl (by omega))) hS
  · refine valP_ok (eq3 _ _ _ _ _) ?_
    first | refine pick_dt (by first | assumption | omega) ?_ | refine pick_df (by first | assumption | omega) ?_ | refine pick_t (by first | rfl | assumption) ?_ | refine pick_f (by first | rfl | assumption) ?_ | refine pick_dt rfl ?_ | refine pick_df (not_not_intro rfl) ?_
    unfold m31_15
    refine cond_split (fun h1 => ?_) (fun h1 => ?_)
    · exact bad _ _ (hI.stop (.inr (by omega))) hS
    · have hlt : k < s.size := by omega
      have h10 : ¬ k = 10 := by omega
      unfold m31_5
      refine valP_ok (sidx _ hlt) ?_
      unfold m31_6
      refine valP_ok (and8 _ _ _ _ _) ?_
      refine valP_ok (cv8_64 _ _) ?_
      refine valP_ok (mul_ok _ _ _ (by omega) (by omega) _) ?_
      rw [show 7 * (k : Int) = ((7 * k : Nat) : Int) by omega]
      refine valP_ok (shl64 _ _ _ _ (by omega)) ?_
      refine valP_ok (or64 _ _ _ _ _) ?_
      show m31_7 _ _ _ (.int .u64 (nextU x s[k].toNat k)) _ _ _
      unfold m31_7
      refine valP_ok (add_ok _ _ _ (by omega) (by omega) _) ?_
      unfold m31_8
      refine valP_ok (geq_ok _ _ _ _ _ _ _) ?_
      unfold m31_14
      refine cond_split (fun h2 => ?_) (fun h2 => ?_)
      · exact ⟨⟨_, k + 1, rfl, hI.next h10 hlt (by omega), hS⟩, by simp [intOf]; omega⟩
      · have leaf : ∀ t : Bool, (t = true ↔ ((0 < k ∧ s[k].toNat = 0) ∨ (k = 9 ∧ 1 < s[k].toNat))) → ∀ K1, m31_12 (fun v w' => v = tkV s ∧ St w0 F w' L) K1 (.string s) (.int .u64 (nextU x s[k].toNat k)) (.int .i64 ((k : Int) + 1)) (.bool t) w := fun t ht K1 => by
          unfold m31_12
          cases t with
          | true =>
            refine cond_t rfl ?_
            exact bad K1 _ (hI.bad h10 hlt (by omega) (ht.1 rfl)) hS
          | false =>
            have hb : ¬ ((0 < k ∧ s[k].toNat = 0) ∨ (k = 9 ∧ 1 < s[k].toNat)) := fun h => by have := ht.2 h; cases this
            refine cond_f rfl ?_
            unfold m31_10
            refine valQ_ok (shr1 _ _ · _) ?_
            refine valQ_ok (cv64_i · _) ?_
            refine valQ_ok (and64 _ _ · _ _) ?_
            refine valQ_ok (cv64_i · _) ?_
            refine valQ_ok (negI · _) ?_
            refine valQ_ok (xorI _ _ · _ _) ?_
            rw [show (k : Int) + 1 = ((k + 1 : Nat) : Int) by omega]
            refine valQ_ok (fun w => sfrom w (by omega)) ?_
            refine drawn_ok hS ?_
            intro w hS
            unfold m31_11
            refine ⟨?_, hS⟩
            unfold tkV
            rw [hI.good h10 hlt (by omega) hb]
            simp only [unzI, wrap64_eq]
        unfold m31_9
        refine valP_ok (gtr_ok _ _ _ _ _ _ _) ?_
        first | refine cond_split (fun hc0 => ?_) (fun hc0 => ?_) | refine cond_bsplit (fun hc0 => ?_) (fun hc0 => ?_)
        · refine valP_ok (eq5 _ _ _ _ _) ?_
          first | refine pick_dt (by first | assumption | omega) ?_ | refine pick_df (by first | assumption | omega) ?_ | refine pick_t (by first | rfl | assumption) ?_ | refine pick_f (by first | rfl | assumption) ?_ | refine pick_dt rfl ?_ | refine pick_df (not_not_intro rfl) ?_
          first | refine cond_split (fun hc1 => ?_) (fun hc1 => ?_) | refine cond_bsplit (fun hc1 => ?_) (fun hc1 => ?_)
          · first | refine pick_dt (by first | assumption | omega) ?_ | refine pick_df (by first | assumption | omega) ?_ | refine pick_t (by first | rfl | assumption) ?_ | refine pick_f (by first | rfl | assumption) ?_ | refine pick_dt rfl ?_ | refine pick_df (not_not_intro rfl) ?_
            exact leaf _ (by simp only [decide_eq_true_eq, Bool.false_eq_true, false_iff, true_iff] <;> first | contradiction | omega) _
          · refine valP_ok (eq3 _ _ _ _ _) ?_
            first | refine cond_split (fun hc2 => ?_) (fun hc2 => ?_) | refine cond_bsplit (fun hc2 => ?_) (fun hc2 => ?_)
            · refine valP_ok (gtr_ok _ _ _ _ _ _ _) ?_
              first | refine pick_dt (by first | assumption | omega) ?_ | refine pick_df (by first | assumption | omega) ?_ | refine pick_t (by first | rfl | assumption) ?_ | refine pick_f (by first | rfl | assumption) ?_ | refine pick_dt rfl ?_ | refine pick_df (not_not_intro rfl) ?_
              first | refine pick_dt (by first | assumption | omega) ?_ | refine pick_df (by first | assumption | omega) ?_ | refine pick_t (by first | rfl | assumption) ?_ | refine pick_f (by first | rfl | assumption) ?_ | refine pick_dt rfl ?_ | refine pick_df (not_not_intro rfl) ?_
              exact leaf _ (by simp only [decide_eq_true_eq, Bool.false_eq_true, false_iff, true_iff] <;> first | contradiction | omega) _
            · first | refine pick_dt (by first | assumption | omega) ?_ | refine pick_df (by first | assumption | omega) ?_ | refine pick_t (by first | rfl | assumption) ?_ | refine pick_f (by first | rfl | assumption) ?_ | refine pick_dt rfl ?_ | refine pick_df (not_not_intro rfl) ?_
              first | refine pick_dt (by first | assumption | omega) ?_ | refine pick_df (by first | assumption | omega) ?_ | refine pick_t (by first | rfl | assumption) ?_ | refine pick_f (by first | rfl | assumption) ?_ | refine pick_dt rfl ?_ | refine pick_df (not_not_intro rfl) ?_
              exact leaf _ (by simp only [decide_eq_true_eq, Bool.false_eq_true, false_iff, true_iff] <;> first | contradiction | omega) _
        · first | refine pick_dt (by first | assumption | omega) ?_ | refine pick_df (by first | assumption | omega) ?_ | refine pick_t (by first | rfl | assumption) ?_ | refine pick_f (by first | rfl | assumption) ?_ | refine pick_dt rfl ?_ | refine pick_df (not_not_intro rfl) ?_
          first | refine cond_split (fun hc1 => ?_) (fun hc1 => ?_) | refine cond_bsplit (fun hc1 => ?_) (fun hc1 => ?_)
          · first | refine pick_dt (by first | assumption | omega) ?_ | refine pick_df (by first | assumption | omega) ?_ | refine pick_t (by first | rfl | assumption) ?_ | refine pick_f (by first | rfl | assumption) ?_ | refine pick_dt rfl ?_ | refine pick_df (not_not_intro rfl) ?_
            exact leaf _ (by simp only [decide_eq_true_eq, Bool.false_eq_true, false_iff, true_iff] <;> first | contradiction | omega) _
          · refine valP_ok (eq3 _ _ _ _ _) ?_
            first | refine cond_split (fun hc2 => ?_) (fun hc2 => ?_) | refine cond_bsplit (fun hc2 => ?_) (fun hc2 => ?_)
            · refine valP_ok (gtr_ok _ _ _ _ _ _ _) ?_
              first | refine pick_dt (by first | assumption | omega) ?_ | refine pick_df (by first | assumption | omega) ?_ | refine pick_t (by first | rfl | assumption) ?_ | refine pick_f (by first | rfl | assumption) ?_ | refine pick_dt rfl ?_ | refine pick_df (not_not_intro rfl) ?_
              first | refine pick_dt (by first | assumption | omega) ?_ | refine pick_df (by first | assumption | omega) ?_ | refine pick_t (by first | rfl | assumption) ?_ | refine pick_f (by first | rfl | assumption) ?_ | refine pick_dt rfl ?_ | refine pick_df (not_not_intro rfl) ?_
              exact leaf _ (by simp only [decide_eq_true_eq, Bool.false_eq_true, false_iff, true_iff] <;> first | contradiction | omega) _
            · first | refine pick_dt (by first | assumption | omega) ?_ | refine pick_df (by first | assumption | omega) ?_ | refine pick_t (by first | rfl | assumption) ?_ | refine pick_f (by first | rfl | assumption) ?_ | refine pick_dt rfl ?_ | refine pick_df (not_not_intro rfl) ?_
              first | refine pick_dt (by first | assumption | omega) ?_ | refine pick_df (by first | assumption | omega) ?_ | refine pick_t (by first | rfl | assumption) ?_ | refine pick_f (by first | rfl | assumption) ?_ | refine pick_dt rfl ?_ | refine pick_df (not_not_intro rfl) ?_
              exact leaf _ (by simp only [decide_eq_true_eq, Bool.false_eq_true, false_iff, true_iff] <;> first | contradiction | omega) _
end


end Go.Proofs.Ytnhgdngbdoifnaa.M
