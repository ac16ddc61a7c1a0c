/- What numbers come to: fold's Add, and the document's. -/
import Derived.Test.YtojgdmcojmllkaaS23
import Derived.Test.YtojgdmcojmllkaaMres0
import Derived.Test.YtojgdmcojmllkaaMlf0
namespace Go.Proofs.Ytojgdmcojmllkaa.M
open Go.Proofs.Ytojgdmcojmllkaa.F Go.RowKit
set_option linter.unusedVariables false
set_option linter.unusedSimpArgs false
set_option maxRecDepth 100000
set_option maxHeartbeats 2000000
attribute [local irreducible] Res.cells Res.row Res.map Res.any World.cell? World.frozen? Instr.fieldAt Instr.loadAt Instr.storeAt Instr.indexAt Instr.lookup Instr.mapUpdate Instr.box Instr.build Instr.buildSlice Instr.extract Instr.alloc Instr.field Instr.index Instr.sliceAt Instr.makeSlice Instr.makeMap Instr.makeFunc binS Op.unary Sem.run
structure Ag where
  count : Int
  sum : Int
  mn : Int
  mx : Int
  h0 : Int
  h1 : Int
  h2 : Int
  h3 : Int
  re : Int
  im : Int
abbrev encA (a : Ag) : List Value := [.int .i64 a.count, .int .i64 a.sum, .int .i64 a.mn, .int .i64 a.mx, .int .i64 a.h0, .int .i64 a.h1, .int .i64 a.h2, .int .i64 a.h3, .int .i64 a.re, .int .i64 a.im]
abbrev agv (a : Ag) : Value := .agg #[.int .i64 a.count, .int .i64 a.sum, .int .i64 a.mn, .int .i64 a.mx, .int .i64 a.h0, .int .i64 a.h1, .int .i64 a.h2, .int .i64 a.h3, .int .i64 a.re, .int .i64 a.im]
def I64 (x : Int) : Prop := -9223372036854775808 ≤ x ∧ x ≤ 9223372036854775807
/-- a sum that stays at the ends. -/
def plusI (a b : Int) : Int := if 9223372036854775807 < a + b then 9223372036854775807 else if a + b < -9223372036854775808 then -9223372036854775808 else a + b
theorem plusI_ok (a b : Int) : I64 (plusI a b) := by
  unfold plusI I64
  split
  · omega
  · split <;> omega
def srtI (v : Int) : Nat := if v < 0 then 0 else if v < 10 then 1 else if v < 100 then 2 else 3
def hitI (h : Int) (k j : Nat) : Int := if k = j then plusI h 1 else h
/-- a number more. -/
def addAg (a : Ag) (v : Int) : Ag :=
  ⟨plusI a.count 1, plusI a.sum v, if a.count = 0 then v else min a.mn v, if a.count = 0 then v else max a.mx v, hitI a.h0 (srtI v) 0, hitI a.h1 (srtI v) 1, hitI a.h2 (srtI v) 2, hitI a.h3 (srtI v) 3,
    if v % 4 = 0 then plusI a.re 1 else if v % 4 = 2 then plusI a.re (-1) else a.re, if v % 4 = 1 then plusI a.im 1 else if v % 4 = 3 then plusI a.im (-1) else a.im⟩
structure AgOk (a : Ag) : Prop where
  count : I64 a.count
  sum : I64 a.sum
  mn : I64 a.mn
  mx : I64 a.mx
  h0 : I64 a.h0
  h1 : I64 a.h1
  h2 : I64 a.h2
  h3 : I64 a.h3
  re : I64 a.re
  im : I64 a.im
theorem hitI_ok {h : Int} (hh : I64 h) (k j : Nat) : I64 (hitI h k j) := by
  unfold hitI
  split
  · exact plusI_ok _ _
  · exact hh
theorem addAg_ok {a : Ag} {v : Int} (h : AgOk a) (hv : I64 v) : AgOk (addAg a v) := by
  have h3 := h.mn
  have h4 := h.mx
  refine ⟨plusI_ok _ _, plusI_ok _ _, ?_, ?_, hitI_ok h.h0 _ _, hitI_ok h.h1 _ _, hitI_ok h.h2 _ _, hitI_ok h.h3 _ _, ?_, ?_⟩
  · show I64 (if a.count = 0 then v else min a.mn v)
    unfold I64 at *
    split <;> omega
  · show I64 (if a.count = 0 then v else max a.mx v)
    unfold I64 at *
    split <;> omega
  · show I64 (if v % 4 = 0 then _ else if v % 4 = 2 then _ else _)
    split
    · exact plusI_ok _ _
    · split
      · exact plusI_ok _ _
      · exact h.re
  · show I64 (if v % 4 = 1 then _ else if v % 4 = 3 then _ else _)
    split
    · exact plusI_ok _ _
    · split
      · exact plusI_ok _ _
      · exact h.im
theorem and3 {v : Int} (hv : I64 v) : Go.bits .and .i64 v 3 = v % 4 := by
  have e : Go.bits .and .i64 v 3 = IntKind.i64.wrap ((BitVec.ofInt 64 v &&& BitVec.ofInt 64 3).toNat : Int) := rfl
  have e2 : (BitVec.ofInt 64 v &&& BitVec.ofInt 64 3).toNat = (v % 18446744073709551616).toNat % 4 := by
    rw [BitVec.toNat_and, show (BitVec.ofInt 64 3).toNat = 2 ^ 2 - 1 from rfl, Nat.and_two_pow_sub_one_eq_mod, BitVec.toNat_ofInt]
    rfl
  rw [e, e2, IntKind.wrap_i64]
  unfold I64 at hv
  omega
theorem cx1 (x y : Operand) (w : World) : (binS .mul 83 x y (.complex .f64 4607182418800017408 0) (.complex .f64 0 4607182418800017408)).run Try.prog w = .ok (.complex .f64 0 4607182418800017408) w := by kernel_rfl
theorem cx2 (x y : Operand) (w : World) : (binS .mul 83 x y (.complex .f64 0 4607182418800017408) (.complex .f64 0 4607182418800017408)).run Try.prog w = .ok (.complex .f64 13830554455654793216 0) w := by kernel_rfl
theorem cx3 (x y : Operand) (w : World) : (binS .mul 83 x y (.complex .f64 13830554455654793216 0) (.complex .f64 0 4607182418800017408)).run Try.prog w = .ok (.complex .f64 9223372036854775808 13830554455654793216) w := by kernel_rfl
theorem fi0 (w : World) : (convert 85 3 (.float .f64 0)).run Try.prog w = .ok (.int .i64 0) w := by kernel_rfl
theorem fi1 (w : World) : (convert 85 3 (.float .f64 4607182418800017408)).run Try.prog w = .ok (.int .i64 1) w := by kernel_rfl
theorem fi2 (w : World) : (convert 85 3 (.float .f64 13830554455654793216)).run Try.prog w = .ok (.int .i64 (-1)) w := by kernel_rfl
theorem fi3 (w : World) : (convert 85 3 (.float .f64 9223372036854775808)).run Try.prog w = .ok (.int .i64 0) w := by kernel_rfl
theorem re_run {t : TypeId} {cs : Array Bool} (a b : Nat) (w : World) : (builtin .real #[83] t cs #[.complex .f64 a b] : Sem Next).run Try.prog w = .ok (.value (.float .f64 a)) w := by kernel_rfl
theorem im_run {t : TypeId} {cs : Array Bool} (a b : Nat) (w : World) : (builtin .imag #[83] t cs #[.complex .f64 a b] : Sem Next).run Try.prog w = .ok (.value (.float .f64 b)) w := by kernel_rfl
theorem hx0 (b : Nat) (w : World) : (Instr.indexAt 56 (.pointer (some ⟨b, 4, none⟩)) (.int .i64 0)).run Try.prog w = .ok (.pointer (some ⟨b, 4, none⟩)) w := by kernel_rfl
theorem hx1 (b : Nat) (w : World) : (Instr.indexAt 56 (.pointer (some ⟨b, 4, none⟩)) (.int .i64 1)).run Try.prog w = .ok (.pointer (some ⟨b, 5, none⟩)) w := by kernel_rfl
theorem hx2 (b : Nat) (w : World) : (Instr.indexAt 56 (.pointer (some ⟨b, 4, none⟩)) (.int .i64 2)).run Try.prog w = .ok (.pointer (some ⟨b, 6, none⟩)) w := by kernel_rfl
theorem hx3 (b : Nat) (w : World) : (Instr.indexAt 56 (.pointer (some ⟨b, 4, none⟩)) (.int .i64 3)).run Try.prog w = .ok (.pointer (some ⟨b, 7, none⟩)) w := by kernel_rfl
/-- so many quarter turns. -/
def turnV (q : Int) : Value := if q = 0 then .complex .f64 4607182418800017408 0 else if q = 1 then .complex .f64 0 4607182418800017408 else if q = 2 then .complex .f64 13830554455654793216 0 else .complex .f64 9223372036854775808 13830554455654793216
theorem turn_ret {v : Int} (hv : I64 v) (w : World) : Ret Try.prog 52 #[.int .i64 v] w fun u w' => u = turnV (v % 4) ∧ w' = w := by
  refine s52 _ ?_
  unfold m52 m52_0 m52_1
  unfold m52_2
  refine valP_ok (and_ok _ _ _ _ _ _) ?_
  rw [and3 hv]
  have hq : 0 ≤ v % 4 ∧ v % 4 < 4 := by omega
  unfold m52_5
  refine loop_in (fun u w' => ∃ i : Int, u = (turnV i, .int .i64 i) ∧ 0 ≤ i ∧ i ≤ v % 4 ∧ w' = w) (fun u _ => 5 - (intOf u.2).toNat) ⟨0, rfl, by omega, by omega, rfl⟩ ?_
  rintro u w' ⟨i, rfl, h0, hi, rfl⟩
  simp only
  unfold m52_6
  refine valP_ok (lss_ok _ _ _ _ _ _ _) ?_
  unfold m52_7
  refine cond_split (fun h => ?_) (fun h => ?_)
  · unfold m52_8
    have hi3 : i = 0 ∨ i = 1 ∨ i = 2 := by omega
    rcases hi3 with rfl | rfl | rfl
    · refine valP_ok (cx1 _ _ _) ?_
      unfold m52_9
      refine valP_ok (add_ok _ _ _ (by omega) (by omega) _) ?_
      exact ⟨⟨1, rfl, by omega, by omega, rfl⟩, by simp [intOf]⟩
    · refine valP_ok (cx2 _ _ _) ?_
      unfold m52_9
      refine valP_ok (add_ok _ _ _ (by omega) (by omega) _) ?_
      exact ⟨⟨2, rfl, by omega, by omega, rfl⟩, by simp [intOf]⟩
    · refine valP_ok (cx3 _ _ _) ?_
      unfold m52_9
      refine valP_ok (add_ok _ _ _ (by omega) (by omega) _) ?_
      exact ⟨⟨3, rfl, by omega, by omega, rfl⟩, by simp [intOf]⟩
  · have e : i = v % 4 := by omega
    subst e
    unfold m52_3 m52_4
    exact ⟨rfl, rfl⟩
theorem plus_ret {a b : Int} (ha : I64 a) (hb : I64 b) (w : World) : Ret Try.prog 50 #[.int .i64 a, .int .i64 b] w fun v w' => v = .int .i64 (plusI a b) ∧ w' = w := by
  unfold I64 at ha hb
  refine s50 _ _ ?_
  unfold m50 m50_0
  unfold m50_1
  refine valP_ok (addw_ok _ _ _ _ _ _) ?_
  have hw := IntKind.wrap_i64 (a + b)
  generalize IntKind.i64.wrap (a + b) = n at *
  have leaf2 : ∀ t : Bool, (t = true ↔ (b < 0 ∧ a < n)) → ¬ (0 < b ∧ n < a) → m50_5 (fun v w' => v = .int .i64 (plusI a b) ∧ w' = w) (.int .i64 n) (.bool t) w := fun t ht h1 => by
    unfold m50_5
    cases t with
    | true =>
      have := ht.1 rfl
      refine cond_t rfl ?_
      unfold m50_6
      refine ⟨?_, rfl⟩
      unfold plusI
      rw [if_neg (by omega), if_pos (by omega)]
    | false =>
      have : ¬ (b < 0 ∧ a < n) := fun h => by have := ht.2 h; cases this
      refine cond_f rfl ?_
      unfold m50_7
      refine ⟨?_, rfl⟩
      unfold plusI
      rw [if_neg (by omega), if_neg (by omega)]
      congr 1
      omega
  have leaf1 : ∀ t : Bool, (t = true ↔ (0 < b ∧ n < a)) → m50_3 (fun v w' => v = .int .i64 (plusI a b) ∧ w' = w) (.int .i64 a) (.int .i64 b) (.int .i64 n) (.bool t) w := fun t ht => by
    unfold m50_3
    cases t with
    | true =>
      have := ht.1 rfl
      refine cond_t rfl ?_
      unfold m50_4
      refine ⟨?_, rfl⟩
      unfold plusI
      rw [if_pos (by omega)]
    | false =>
      have h1 : ¬ (0 < b ∧ n < a) := fun h => by have := ht.2 h; cases this
      refine cond_f rfl ?_
      refine valP_ok (lss_ok _ _ _ _ _ _ _) ?_
      refine cond_split (fun h => ?_) (fun h => ?_)
      · refine valP_ok (gtr_ok _ _ _ _ _ _ _) ?_
        first | refine pick_dt (by first | assumption | omega) ?_ | refine pick_df (by first | assumption | omega) ?_ | refine pick_t (by first | rfl | assumption) ?_ | refine pick_f (by first | rfl | assumption) ?_ | refine pick_dt rfl ?_ | refine pick_df (not_not_intro rfl) ?_
        exact leaf2 _ (by simp only [decide_eq_true_eq]; omega) h1
      · first | refine pick_dt (by first | assumption | omega) ?_ | refine pick_df (by first | assumption | omega) ?_ | refine pick_t (by first | rfl | assumption) ?_ | refine pick_f (by first | rfl | assumption) ?_ | refine pick_dt rfl ?_ | refine pick_df (not_not_intro rfl) ?_
        exact leaf2 _ (by simp only [Bool.false_eq_true, false_iff]; omega) h1
  unfold m50_2
  refine valP_ok (gtr_ok _ _ _ _ _ _ _) ?_
  refine cond_split (fun h => ?_) (fun h => ?_)
  · refine valP_ok (lss_ok _ _ _ _ _ _ _) ?_
    first | refine pick_dt (by first | assumption | omega) ?_ | refine pick_df (by first | assumption | omega) ?_ | refine pick_t (by first | rfl | assumption) ?_ | refine pick_f (by first | rfl | assumption) ?_ | refine pick_dt rfl ?_ | refine pick_df (not_not_intro rfl) ?_
    exact leaf1 _ (by simp only [decide_eq_true_eq]; omega)
  · first | refine pick_dt (by first | assumption | omega) ?_ | refine pick_df (by first | assumption | omega) ?_ | refine pick_t (by first | rfl | assumption) ?_ | refine pick_f (by first | rfl | assumption) ?_ | refine pick_dt rfl ?_ | refine pick_df (not_not_intro rfl) ?_
    exact leaf1 _ (by simp only [Bool.false_eq_true, false_iff]; omega)
theorem rplus_ret {a b : Int} (ha : I64 a) (hb : I64 b) (w : World) : Ret Try.prog 53 #[.int .i64 a, .int .i64 b] w fun v w' => v = .int .i64 (plusI a b) ∧ w' = w := by
  unfold I64 at ha hb
  refine s53 _ _ ?_
  unfold m53 m53_0
  have leaf2 : ∀ t : Bool, (t = true ↔ (b < 0 ∧ a < -9223372036854775808 - b)) → ¬ (0 < b ∧ 9223372036854775807 - b < a) → m53_5 (fun v w' => v = .int .i64 (plusI a b) ∧ w' = w) (.int .i64 a) (.int .i64 b) (.bool t) w := fun t ht h1 => by
    unfold m53_5
    cases t with
    | true =>
      have := ht.1 rfl
      refine cond_t rfl ?_
      unfold m53_6
      refine ⟨?_, rfl⟩
      unfold plusI
      rw [if_neg (by omega), if_pos (by omega)]
    | false =>
      have : ¬ (b < 0 ∧ a < -9223372036854775808 - b) := fun h => by have := ht.2 h; cases this
      refine cond_f rfl ?_
      unfold m53_3
      refine valP_ok (add_ok _ _ _ (by omega) (by omega) _) ?_
      unfold m53_4
      refine ⟨?_, rfl⟩
      unfold plusI
      rw [if_neg (by omega), if_neg (by omega)]
  have leaf1 : ∀ t : Bool, (t = true ↔ (0 < b ∧ 9223372036854775807 - b < a)) → m53_7 (fun v w' => v = .int .i64 (plusI a b) ∧ w' = w) (.int .i64 a) (.int .i64 b) (.bool t) w := fun t ht => by
    unfold m53_7
    cases t with
    | true =>
      have := ht.1 rfl
      refine cond_t rfl ?_
      unfold m53_8
      refine ⟨?_, rfl⟩
      unfold plusI
      rw [if_pos (by omega)]
    | false =>
      have h1 : ¬ (0 < b ∧ 9223372036854775807 - b < a) := fun h => by have := ht.2 h; cases this
      refine cond_f rfl ?_
      unfold m53_2
      refine valP_ok (lss_ok _ _ _ _ _ _ _) ?_
      refine cond_split (fun h => ?_) (fun h => ?_)
      · refine valP_ok (sub_ok _ _ _ (by omega) (by omega) _) ?_
        refine valP_ok (lss_ok _ _ _ _ _ _ _) ?_
        first | refine pick_dt (by first | assumption | omega) ?_ | refine pick_df (by first | assumption | omega) ?_ | refine pick_t (by first | rfl | assumption) ?_ | refine pick_f (by first | rfl | assumption) ?_ | refine pick_dt rfl ?_ | refine pick_df (not_not_intro rfl) ?_
        exact leaf2 _ (by simp only [decide_eq_true_eq]; omega) h1
      · first | refine pick_dt (by first | assumption | omega) ?_ | refine pick_df (by first | assumption | omega) ?_ | refine pick_t (by first | rfl | assumption) ?_ | refine pick_f (by first | rfl | assumption) ?_ | refine pick_dt rfl ?_ | refine pick_df (not_not_intro rfl) ?_
        exact leaf2 _ (by simp only [Bool.false_eq_true, false_iff]; omega) h1
  unfold m53_1
  refine valP_ok (gtr_ok _ _ _ _ _ _ _) ?_
  refine cond_split (fun h => ?_) (fun h => ?_)
  · refine valP_ok (sub_ok _ _ _ (by omega) (by omega) _) ?_
    refine valP_ok (gtr_ok _ _ _ _ _ _ _) ?_
    first | refine pick_dt (by first | assumption | omega) ?_ | refine pick_df (by first | assumption | omega) ?_ | refine pick_t (by first | rfl | assumption) ?_ | refine pick_f (by first | rfl | assumption) ?_ | refine pick_dt rfl ?_ | refine pick_df (not_not_intro rfl) ?_
    exact leaf1 _ (by simp only [decide_eq_true_eq]; omega)
  · first | refine pick_dt (by first | assumption | omega) ?_ | refine pick_df (by first | assumption | omega) ?_ | refine pick_t (by first | rfl | assumption) ?_ | refine pick_f (by first | rfl | assumption) ?_ | refine pick_dt rfl ?_ | refine pick_df (not_not_intro rfl) ?_
    exact leaf1 _ (by simp only [Bool.false_eq_true, false_iff]; omega)
theorem sort_ret (v : Int) (w : World) : Ret Try.prog 51 #[.int .i64 v] w fun u w' => u = .int .i64 (srtI v : Int) ∧ w' = w := by
  refine s51 _ ?_
  unfold m51
  unfold m51_0
  unfold m51_1
  refine valP_ok (lss_ok _ _ _ _ _ _ _) ?_
  unfold m51_4
  first | refine cond_split (fun hc0 => ?_) (fun hc0 => ?_) | refine cond_bsplit (fun hc0 => ?_) (fun hc0 => ?_)
  · unfold m51_5
    exact ⟨by unfold srtI; first | (rw [if_pos (by assumption)]; rfl) | (rw [if_neg (by assumption), if_pos (by assumption)]; rfl) | (rw [if_neg (by assumption), if_neg (by assumption), if_pos (by assumption)]; rfl) | (rw [if_neg (by assumption), if_neg (by assumption), if_neg (by assumption)]; rfl), rfl⟩
  · refine valP_ok (lss_ok _ _ _ _ _ _ _) ?_
    unfold m51_6
    first | refine cond_split (fun hc1 => ?_) (fun hc1 => ?_) | refine cond_bsplit (fun hc1 => ?_) (fun hc1 => ?_)
    · unfold m51_7
      exact ⟨by unfold srtI; first | (rw [if_pos (by assumption)]; rfl) | (rw [if_neg (by assumption), if_pos (by assumption)]; rfl) | (rw [if_neg (by assumption), if_neg (by assumption), if_pos (by assumption)]; rfl) | (rw [if_neg (by assumption), if_neg (by assumption), if_neg (by assumption)]; rfl), rfl⟩
    · refine valP_ok (lss_ok _ _ _ _ _ _ _) ?_
      unfold m51_8
      first | refine cond_split (fun hc2 => ?_) (fun hc2 => ?_) | refine cond_bsplit (fun hc2 => ?_) (fun hc2 => ?_)
      · unfold m51_9
        exact ⟨by unfold srtI; first | (rw [if_pos (by assumption)]; rfl) | (rw [if_neg (by assumption), if_pos (by assumption)]; rfl) | (rw [if_neg (by assumption), if_neg (by assumption), if_pos (by assumption)]; rfl) | (rw [if_neg (by assumption), if_neg (by assumption), if_neg (by assumption)]; rfl), rfl⟩
      · unfold m51_2
        unfold m51_3
        exact ⟨by unfold srtI; first | (rw [if_pos (by assumption)]; rfl) | (rw [if_neg (by assumption), if_pos (by assumption)]; rfl) | (rw [if_neg (by assumption), if_neg (by assumption), if_pos (by assumption)]; rfl) | (rw [if_neg (by assumption), if_neg (by assumption), if_neg (by assumption)]; rfl), rfl⟩
theorem rsort_ret (v : Int) (w : World) : Ret Try.prog 54 #[.int .i64 v] w fun u w' => u = .int .i64 (srtI v : Int) ∧ w' = w := by
  refine s54 _ ?_
  unfold m54
  unfold m54_0
  unfold m54_1
  refine valP_ok (geq_ok _ _ _ _ _ _ _) ?_
  unfold m54_10
  first | refine cond_split (fun hc0 => ?_) (fun hc0 => ?_) | refine cond_bsplit (fun hc0 => ?_) (fun hc0 => ?_)
  · unfold m54_11
    exact ⟨by unfold srtI; first | (rw [if_pos (by omega)]; rfl) | (rw [if_neg (by omega), if_pos (by omega)]; rfl) | (rw [if_neg (by omega), if_neg (by omega), if_pos (by omega)]; rfl) | (rw [if_neg (by omega), if_neg (by omega), if_neg (by omega)]; rfl), rfl⟩
  · unfold m54_2
    refine valP_ok (geq_ok _ _ _ _ _ _ _) ?_
    unfold m54_8
    first | refine cond_split (fun hc1 => ?_) (fun hc1 => ?_) | refine cond_bsplit (fun hc1 => ?_) (fun hc1 => ?_)
    · unfold m54_9
      exact ⟨by unfold srtI; first | (rw [if_pos (by omega)]; rfl) | (rw [if_neg (by omega), if_pos (by omega)]; rfl) | (rw [if_neg (by omega), if_neg (by omega), if_pos (by omega)]; rfl) | (rw [if_neg (by omega), if_neg (by omega), if_neg (by omega)]; rfl), rfl⟩
    · unfold m54_3
      refine valP_ok (geq_ok _ _ _ _ _ _ _) ?_
      unfold m54_6
      first | refine cond_split (fun hc2 => ?_) (fun hc2 => ?_) | refine cond_bsplit (fun hc2 => ?_) (fun hc2 => ?_)
      · unfold m54_7
        exact ⟨by unfold srtI; first | (rw [if_pos (by omega)]; rfl) | (rw [if_neg (by omega), if_pos (by omega)]; rfl) | (rw [if_neg (by omega), if_neg (by omega), if_pos (by omega)]; rfl) | (rw [if_neg (by omega), if_neg (by omega), if_neg (by omega)]; rfl), rfl⟩
      · unfold m54_4
        unfold m54_5
        exact ⟨by unfold srtI; first | (rw [if_pos (by omega)]; rfl) | (rw [if_neg (by omega), if_pos (by omega)]; rfl) | (rw [if_neg (by omega), if_neg (by omega), if_pos (by omega)]; rfl) | (rw [if_neg (by omega), if_neg (by omega), if_neg (by omega)]; rfl), rfl⟩

end Go.Proofs.Ytojgdmcojmllkaa.M
