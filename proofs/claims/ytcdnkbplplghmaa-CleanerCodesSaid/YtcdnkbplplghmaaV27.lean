/- The document's Decode. -/
import Derived.Test.YtcdnkbplplghmaaV26
import Derived.Test.YtcdnkbplplghmaaFwW
import Derived.Test.YtcdnkbplplghmaaFwB
import Derived.Test.YtcdnkbplplghmaaMcod0
namespace Go.Proofs.Ytcdnkbplplghmaa.M
open Go.Proofs.Ytcdnkbplplghmaa.F Go.RowKit
set_option linter.unusedVariables false
set_option linter.unusedSimpArgs false
set_option maxRecDepth 100000
set_option maxHeartbeats 2000000
attribute [local irreducible] Res.cells Res.row Res.map Res.any World.cell? World.frozen? Instr.fieldAt Instr.loadAt Instr.storeAt Instr.indexAt Instr.lookup Instr.mapUpdate Instr.box Instr.build Instr.buildSlice Instr.extract Instr.alloc Instr.field Instr.index Instr.sliceAt Instr.makeSlice Instr.makeMap Instr.makeFunc binS Op.unary Sem.run
section
variable {w0 w : World} {F : List Nat} {L : List Res} {s : ByteArray}
theorem rdec_main {n : Int} {r : ByteArray} (hn : 0 ≤ n ∧ n ≤ 4096) (hS : St w0 F w L) : m17_4 (DecR (decG n r) w0 F L) (.int .i64 n) (.string r) w := by
  obtain ⟨n, rfl⟩ : ∃ k : Nat, n = (k : Int) := ⟨n.toNat, by omega⟩
  unfold m17_4 m17_5 m17_11
  have hdec : decG (n : Int) r = (match takeGs n r with
      | none => none
      | some (l, q) => if q = ⟨#[]⟩ ∧ MayL l then some l else none) := by
    unfold decG
    rw [if_pos hn, Int.toNat_natCast]
    rfl
  refine loop_in (fun u w' => ∃ (i : Nat) (l : List Gt) (t : ByteArray) (A : Option Addr) (c : Nat), u = (.string t, .slice A l.length c, .int .i64 (i : Int)) ∧ i ≤ n ∧ l.length = i ∧ takeGs n r = (takeGs (n - i) t).map (fun p => (l ++ p.1, p.2)) ∧ St w0 F w' (grow A c l :: L)) (fun u _ => n - (intOf u.2.2).toNat) ⟨0, [], r, none, 0, rfl, by omega, rfl, by simp, hS.row_nil 40 4⟩ ?_
  clear hS
  rintro u w ⟨i, l, t, A, c, rfl, hi, hl, he, hS⟩
  simp only
  unfold m17_12
  refine valP_ok (lss_ok _ _ _ _ _ _ _) ?_
  unfold m17_21
  refine cond_split (fun h => ?_) (fun h => ?_)
  · obtain ⟨m, hm⟩ : ∃ m, n - i = m + 1 := ⟨n - i - 1, by omega⟩
    rw [hm, takeGs_succ] at he
    unfold m17_13
    refine callR (by kernel_rfl) (rtake_ret hS) ?_
    rintro _ w ⟨rfl, hS⟩
    have leaf : ∀ (K1 : Value × Value × Value → World → Prop) (e1 e2 off : Int) (rc : Rc) (b : ByteArray), (e1 = 0 ∧ e2 = 0 → ∀ w' A' c', St w0 F w' (grow A' c' (l ++ [⟨off, rc⟩]) :: L) → K1 (.string b, .slice A' (l ++ [(⟨off, rc⟩ : Gt)]).length c', .int .i64 ((i + 1 : Nat) : Int)) w') → (¬ (e1 = 0 ∧ e2 = 0) → decG (n : Int) r = none) → ∀ w b14, St w0 F w (Res.cells b14 38 (encR rc) :: grow A c l :: L) → m17_16 (DecR (decG (n : Int) r) w0 F L) K1 (.int .i64 (n : Int)) (.slice A l.length c) (.int .i64 (i : Int)) (.int .i64 off) (.int .i64 e1) (.pointer (some ⟨b14, 0, none⟩)) (.string b) (.int .i64 e2) w := fun K1 e1 e2 off rc b hK hnone w b14 hS => by
      have leaf2 : ∀ x : Bool, (x = true ↔ ¬ (e1 = 0 ∧ e2 = 0)) → m17_19 (DecR (decG (n : Int) r) w0 F L) K1 (.int .i64 (n : Int)) (.slice A l.length c) (.int .i64 (i : Int)) (.int .i64 off) (.pointer (some ⟨b14, 0, none⟩)) (.string b) (.bool x) w := fun x hx => by
        unfold m17_19
        cases x with
        | true =>
          refine cond_t rfl ?_
          rw [hnone (hx.1 rfl)]
          unfold m17_20
          exact .none_ hS.tail.tail
        | false =>
          refine cond_f rfl ?_
          unfold m17_17
          first | refine ls38 0 hS rfl ?_ | refine ls38 1 hS rfl ?_ | refine ls38 2 hS rfl ?_ | refine ls38 3 hS rfl ?_ | refine ls38 4 hS rfl ?_ | refine ls38 5 hS rfl ?_ | refine ls38 6 hS rfl ?_ | refine ls38 7 hS rfl ?_ | refine valP_ok (ld38 (by assumption) (by assumption) (by assumption)) ?_
          refine valP_ok (bd40_0_1 rfl _) ?_
          refine newslice_ok (bs22_1 _) hS ?_
          intro b69 w hS
          refine append_one1 (enc := encG) 1 ⟨off, rc⟩ sl22 encG_len encG_one (by unfold maxLen; omega) (by omega) hS rfl ?_
          intro A' c' w hS
          simp only [List.set_cons_zero, List.set_cons_succ] at hS
          unfold m17_18
          unfold m17_14
          refine valP_ok (add_ok _ _ _ (by omega) (by omega) _) ?_
          exact hK (Classical.byContradiction fun h => by have := hx.2 h; cases this) w A' c' hS.tail
      unfold m17_16
      refine valP_ok (ne3 _ _ _ _ _) ?_
      first | refine cond_split (fun hc0 => ?_) (fun hc0 => ?_) | refine cond_bsplit (fun hc0 => ?_) (fun hc0 => ?_)
      · first | refine pick_dt (by first | assumption | omega) ?_ | refine pick_df (by first | assumption | omega) ?_ | refine pick_t (by first | rfl | assumption) ?_ | refine pick_f (by first | rfl | assumption) ?_ | refine pick_dt rfl ?_ | refine pick_df (not_not_intro rfl) ?_
        exact leaf2 _ (by simp only [decide_eq_true_eq, Bool.false_eq_true, false_iff, true_iff] <;> first | contradiction | omega)
      · refine valP_ok (ne3 _ _ _ _ _) ?_
        first | refine pick_dt (by first | assumption | omega) ?_ | refine pick_df (by first | assumption | omega) ?_ | refine pick_t (by first | rfl | assumption) ?_ | refine pick_f (by first | rfl | assumption) ?_ | refine pick_dt rfl ?_ | refine pick_df (not_not_intro rfl) ?_
        exact leaf2 _ (by simp only [decide_eq_true_eq, Bool.false_eq_true, false_iff, true_iff] <;> first | contradiction | omega)
    unfold tkV
    cases ht : takeS t with
    | none =>
      rw [ht] at he
      simp only [Option.map_none] at he
      simp only
      refine valP_ok (extract_ok _ 0 rfl _) ?_
      refine valP_ok (extract_ok _ 1 rfl _) ?_
      refine valP_ok (extract_ok _ 2 rfl _) ?_
      unfold m17_15
      refine callR (by kernel_rfl) (rtakerec_ret hS) ?_
      rintro _ w ⟨rfl, hS⟩
      have e : recV ⟨#[]⟩ = noRec := by unfold recV takeRec; rw [takeS_nil]
      rw [e]
      refine valP_ok (extract_ok _ 0 rfl _) ?_
      refine valP_ok (extract_ok _ 1 rfl _) ?_
      refine valP_ok (extract_ok _ 2 rfl _) ?_
      refine new_ok (al38 _) hS ?_
      intro b14 w hS
      first | refine ss38 0 hS rfl rfl rfl rfl ?_ | refine ss38 1 hS rfl rfl rfl rfl ?_ | refine ss38 2 hS rfl rfl rfl rfl ?_ | refine ss38 3 hS rfl rfl rfl rfl ?_ | refine ss38 4 hS rfl rfl rfl rfl ?_ | refine ss38 5 hS rfl rfl rfl rfl ?_ | refine ss38 6 hS rfl rfl rfl rfl ?_ | refine ss38 7 hS rfl rfl rfl rfl ?_
      intro w hS
      simp only [List.set_cons_zero, List.set_cons_succ] at hS
      exact leaf _ _ _ _ ⟨0, 0, ⟨#[]⟩⟩ _ (fun h => by omega) (fun _ => by rw [hdec, he]) _ _ hS
    | some p =>
      obtain ⟨off, a⟩ := p
      rw [ht] at he
      simp only at he
      simp only
      refine valP_ok (extract_ok _ 0 rfl _) ?_
      refine valP_ok (extract_ok _ 1 rfl _) ?_
      refine valP_ok (extract_ok _ 2 rfl _) ?_
      unfold m17_15
      refine callR (by kernel_rfl) (rtakerec_ret hS) ?_
      rintro _ w ⟨rfl, hS⟩
      unfold recV
      cases hr : takeRec a with
      | none =>
        rw [hr] at he
        simp only [Option.map_none] at he
        simp only
        refine valP_ok (extract_ok _ 0 rfl _) ?_
        refine valP_ok (extract_ok _ 1 rfl _) ?_
        refine valP_ok (extract_ok _ 2 rfl _) ?_
        refine new_ok (al38 _) hS ?_
        intro b14 w hS
        first | refine ss38 0 hS rfl rfl rfl rfl ?_ | refine ss38 1 hS rfl rfl rfl rfl ?_ | refine ss38 2 hS rfl rfl rfl rfl ?_ | refine ss38 3 hS rfl rfl rfl rfl ?_ | refine ss38 4 hS rfl rfl rfl rfl ?_ | refine ss38 5 hS rfl rfl rfl rfl ?_ | refine ss38 6 hS rfl rfl rfl rfl ?_ | refine ss38 7 hS rfl rfl rfl rfl ?_
        intro w hS
        simp only [List.set_cons_zero, List.set_cons_succ] at hS
        exact leaf _ _ _ _ ⟨0, 0, ⟨#[]⟩⟩ _ (fun h => by omega) (fun _ => by rw [hdec, he]) _ _ hS
      | some p =>
        obtain ⟨rc, b⟩ := p
        rw [hr] at he
        simp only at he
        simp only
        refine valP_ok (extract_ok _ 0 rfl _) ?_
        refine valP_ok (extract_ok _ 1 rfl _) ?_
        refine valP_ok (extract_ok _ 2 rfl _) ?_
        refine new_ok (al38 _) hS ?_
        intro b14 w hS
        first | refine ss38 0 hS rfl rfl rfl rfl ?_ | refine ss38 1 hS rfl rfl rfl rfl ?_ | refine ss38 2 hS rfl rfl rfl rfl ?_ | refine ss38 3 hS rfl rfl rfl rfl ?_ | refine ss38 4 hS rfl rfl rfl rfl ?_ | refine ss38 5 hS rfl rfl rfl rfl ?_ | refine ss38 6 hS rfl rfl rfl rfl ?_ | refine ss38 7 hS rfl rfl rfl rfl ?_
        intro w hS
        simp only [List.set_cons_zero, List.set_cons_succ] at hS
        refine leaf _ _ _ _ rc _ (fun _ w' A' c' hS => ⟨⟨i + 1, l ++ [⟨off, rc⟩], b, A', c', rfl, by omega, by simp [hl], ?_, hS⟩, by simp [intOf]; omega⟩) (fun h => absurd ⟨rfl, rfl⟩ h) _ _ hS
        rw [he, show n - (i + 1) = m by omega, Option.map_map]
        congr 1
        funext p
        simp
  · obtain rfl : i = n := by omega
    rw [Nat.sub_self] at he
    simp only [takeGs, Option.map_some, List.append_nil] at he
    rw [he] at hdec
    simp only at hdec
    have leaf : ∀ b : Bool, (b = true ↔ ¬ (t = ⟨#[]⟩ ∧ MayL l)) → ∀ w, St w0 F w (grow A c l :: L) → m17_9 (DecR (decG (i : Int) r) w0 F L) (.slice A l.length c) (.bool b) w := fun b hb w hS => by
      rw [hdec]
      unfold m17_9
      cases b with
      | true =>
        refine cond_t rfl ?_
        rw [if_neg (hb.1 rfl)]
        unfold m17_10
        exact .none_ hS.tail
      | false =>
        refine cond_f rfl ?_
        rw [if_pos (Classical.byContradiction fun h => by have := hb.2 h; cases this)]
        unfold m17_7 m17_8
        exact ⟨A, c, rfl, hS⟩
    unfold m17_6
    refine builtin_ok (len9 _) ?_
    refine valP_ok (gtr_ok _ _ _ _ _ _ _) ?_
    refine cond_split (fun h1 => ?_) (fun h1 => ?_)
    · first | refine pick_dt (by first | assumption | omega) ?_ | refine pick_df (by first | assumption | omega) ?_ | refine pick_t (by first | rfl | assumption) ?_ | refine pick_f (by first | rfl | assumption) ?_ | refine pick_dt rfl ?_ | refine pick_df (not_not_intro rfl) ?_
      exact leaf _ ⟨fun _ h => noSize.1 h.1 (by omega), fun _ => rfl⟩ _ hS
    · refine callR (by kernel_rfl) (rmay_ret (l := l) (by omega) (Bes.of_row 0 rfl) hS) ?_
      rintro _ w ⟨rfl, hS⟩
      first | refine valP_ok (not_ok _ _) ?_ | refine valP_ok (notb_ok _ _) ?_
      first | refine pick_dt (by first | assumption | omega) ?_ | refine pick_df (by first | assumption | omega) ?_ | refine pick_t (by first | rfl | assumption) ?_ | refine pick_f (by first | rfl | assumption) ?_ | refine pick_dt rfl ?_ | refine pick_df (not_not_intro rfl) ?_
      refine leaf _ ?_ _ hS
      rw [decide_eq_true_eq]
      exact ⟨fun h h2 => h h2.2, fun h h2 => h ⟨noSize.2 (by omega), h2⟩⟩
theorem rdecode_ret (hs : s.size ≤ maxLen) (hS : St w0 F w L) : Ret Try.prog 17 #[.string s] w fun v w' => DecR (decS s) w0 F L v w' := by
  refine s17 _ ?_
  unfold m17 m17_0 m17_1
  refine callR (by kernel_rfl) (runseal_ret hs hS) ?_
  rintro _ w ⟨rfl, hS⟩
  show _
  rw [show (fun v w' => DecR (decS s) w0 F L v w') = DecR (decS s) w0 F L from rfl, decS_G]
  unfold unV
  have leaf : ∀ (e f n : Int) (r : ByteArray) (o : Option (List Gt)), (o = if e = 0 ∧ f = 0 then decG n r else none) → ∀ w, St w0 F w L → ∀ b : Bool, (b = true ↔ (e ≠ 0 ∨ f ≠ 0 ∨ n < 0 ∨ 4096 < n)) → m17_22 (DecR o w0 F L) (.int .i64 n) (.string r) (.bool b) w := fun e f n r o ho w hS b hb => by
    unfold m17_22
    cases b with
    | true =>
      refine cond_t rfl ?_
      have h := hb.1 rfl
      have : o = none := by
        rw [ho]
        split
        · unfold decG
          rw [if_neg (by omega)]
        · rfl
      rw [this]
      unfold m17_23
      exact .none_ hS
    | false =>
      have h : ¬ (e ≠ 0 ∨ f ≠ 0 ∨ n < 0 ∨ 4096 < n) := fun h => by have := hb.2 h; cases this
      refine cond_f rfl ?_
      rw [ho, if_pos (by omega)]
      exact rdec_main (by omega) hS
  have all : ∀ (e f n : Int) (r : ByteArray) (o : Option (List Gt)), (o = if e = 0 ∧ f = 0 then decG n r else none) → ∀ w, St w0 F w L → m17_3 (DecR o w0 F L) (.int .i64 e) (.int .i64 n) (.string r) (.int .i64 f) w := fun e f n r o ho w hS => by
    unfold m17_3
    refine valP_ok (ne3 _ _ _ _ _) ?_
    first | refine cond_split (fun hc0 => ?_) (fun hc0 => ?_) | refine cond_bsplit (fun hc0 => ?_) (fun hc0 => ?_)
    · first | refine pick_dt (by first | assumption | omega) ?_ | refine pick_df (by first | assumption | omega) ?_ | refine pick_t (by first | rfl | assumption) ?_ | refine pick_f (by first | rfl | assumption) ?_ | refine pick_dt rfl ?_ | refine pick_df (not_not_intro rfl) ?_
      first | refine cond_split (fun hc1 => ?_) (fun hc1 => ?_) | refine cond_bsplit (fun hc1 => ?_) (fun hc1 => ?_)
      · first | refine pick_dt (by first | assumption | omega) ?_ | refine pick_df (by first | assumption | omega) ?_ | refine pick_t (by first | rfl | assumption) ?_ | refine pick_f (by first | rfl | assumption) ?_ | refine pick_dt rfl ?_ | refine pick_df (not_not_intro rfl) ?_
        first | refine cond_split (fun hc2 => ?_) (fun hc2 => ?_) | refine cond_bsplit (fun hc2 => ?_) (fun hc2 => ?_)
        · first | refine pick_dt (by first | assumption | omega) ?_ | refine pick_df (by first | assumption | omega) ?_ | refine pick_t (by first | rfl | assumption) ?_ | refine pick_f (by first | rfl | assumption) ?_ | refine pick_dt rfl ?_ | refine pick_df (not_not_intro rfl) ?_
          exact leaf e f _ _ _ ho _ hS _ (by simp only [decide_eq_true_eq, Bool.false_eq_true, false_iff, true_iff] <;> first | contradiction | omega)
        · refine valP_ok (gtr_ok _ _ _ _ _ _ _) ?_
          first | refine pick_dt (by first | assumption | omega) ?_ | refine pick_df (by first | assumption | omega) ?_ | refine pick_t (by first | rfl | assumption) ?_ | refine pick_f (by first | rfl | assumption) ?_ | refine pick_dt rfl ?_ | refine pick_df (not_not_intro rfl) ?_
          exact leaf e f _ _ _ ho _ hS _ (by simp only [decide_eq_true_eq, Bool.false_eq_true, false_iff, true_iff] <;> first | contradiction | omega)
      · refine valP_ok (lss_ok _ _ _ _ _ _ _) ?_
        first | refine pick_dt (by first | assumption | omega) ?_ | refine pick_df (by first | assumption | omega) ?_ | refine pick_t (by first | rfl | assumption) ?_ | refine pick_f (by first | rfl | assumption) ?_ | refine pick_dt rfl ?_ | refine pick_df (not_not_intro rfl) ?_
        first | refine cond_split (fun hc2 => ?_) (fun hc2 => ?_) | refine cond_bsplit (fun hc2 => ?_) (fun hc2 => ?_)
        · first | refine pick_dt (by first | assumption | omega) ?_ | refine pick_df (by first | assumption | omega) ?_ | refine pick_t (by first | rfl | assumption) ?_ | refine pick_f (by first | rfl | assumption) ?_ | refine pick_dt rfl ?_ | refine pick_df (not_not_intro rfl) ?_
          exact leaf e f _ _ _ ho _ hS _ (by simp only [decide_eq_true_eq, Bool.false_eq_true, false_iff, true_iff] <;> first | contradiction | omega)
        · refine valP_ok (gtr_ok _ _ _ _ _ _ _) ?_
          first | refine pick_dt (by first | assumption | omega) ?_ | refine pick_df (by first | assumption | omega) ?_ | refine pick_t (by first | rfl | assumption) ?_ | refine pick_f (by first | rfl | assumption) ?_ | refine pick_dt rfl ?_ | refine pick_df (not_not_intro rfl) ?_
          exact leaf e f _ _ _ ho _ hS _ (by simp only [decide_eq_true_eq, Bool.false_eq_true, false_iff, true_iff] <;> first | contradiction | omega)
    · refine valP_ok (ne3 _ _ _ _ _) ?_
      first | refine pick_dt (by first | assumption | omega) ?_ | refine pick_df (by first | assumption | omega) ?_ | refine pick_t (by first | rfl | assumption) ?_ | refine pick_f (by first | rfl | assumption) ?_ | refine pick_dt rfl ?_ | refine pick_df (not_not_intro rfl) ?_
      first | refine cond_split (fun hc1 => ?_) (fun hc1 => ?_) | refine cond_bsplit (fun hc1 => ?_) (fun hc1 => ?_)
      · first | refine pick_dt (by first | assumption | omega) ?_ | refine pick_df (by first | assumption | omega) ?_ | refine pick_t (by first | rfl | assumption) ?_ | refine pick_f (by first | rfl | assumption) ?_ | refine pick_dt rfl ?_ | refine pick_df (not_not_intro rfl) ?_
        first | refine cond_split (fun hc2 => ?_) (fun hc2 => ?_) | refine cond_bsplit (fun hc2 => ?_) (fun hc2 => ?_)
        · first | refine pick_dt (by first | assumption | omega) ?_ | refine pick_df (by first | assumption | omega) ?_ | refine pick_t (by first | rfl | assumption) ?_ | refine pick_f (by first | rfl | assumption) ?_ | refine pick_dt rfl ?_ | refine pick_df (not_not_intro rfl) ?_
          exact leaf e f _ _ _ ho _ hS _ (by simp only [decide_eq_true_eq, Bool.false_eq_true, false_iff, true_iff] <;> first | contradiction | omega)
        · refine valP_ok (gtr_ok _ _ _ _ _ _ _) ?_
          first | refine pick_dt (by first | assumption | omega) ?_ | refine pick_df (by first | assumption | omega) ?_ | refine pick_t (by first | rfl | assumption) ?_ | refine pick_f (by first | rfl | assumption) ?_ | refine pick_dt rfl ?_ | refine pick_df (not_not_intro rfl) ?_
          exact leaf e f _ _ _ ho _ hS _ (by simp only [decide_eq_true_eq, Bool.false_eq_true, false_iff, true_iff] <;> first | contradiction | omega)
      · refine valP_ok (lss_ok _ _ _ _ _ _ _) ?_
        first | refine pick_dt (by first | assumption | omega) ?_ | refine pick_df (by first | assumption | omega) ?_ | refine pick_t (by first | rfl | assumption) ?_ | refine pick_f (by first | rfl | assumption) ?_ | refine pick_dt rfl ?_ | refine pick_df (not_not_intro rfl) ?_
        first | refine cond_split (fun hc2 => ?_) (fun hc2 => ?_) | refine cond_bsplit (fun hc2 => ?_) (fun hc2 => ?_)
        · first | refine pick_dt (by first | assumption | omega) ?_ | refine pick_df (by first | assumption | omega) ?_ | refine pick_t (by first | rfl | assumption) ?_ | refine pick_f (by first | rfl | assumption) ?_ | refine pick_dt rfl ?_ | refine pick_df (not_not_intro rfl) ?_
          exact leaf e f _ _ _ ho _ hS _ (by simp only [decide_eq_true_eq, Bool.false_eq_true, false_iff, true_iff] <;> first | contradiction | omega)
        · refine valP_ok (gtr_ok _ _ _ _ _ _ _) ?_
          first | refine pick_dt (by first | assumption | omega) ?_ | refine pick_df (by first | assumption | omega) ?_ | refine pick_t (by first | rfl | assumption) ?_ | refine pick_f (by first | rfl | assumption) ?_ | refine pick_dt rfl ?_ | refine pick_df (not_not_intro rfl) ?_
          exact leaf e f _ _ _ ho _ hS _ (by simp only [decide_eq_true_eq, Bool.false_eq_true, false_iff, true_iff] <;> first | contradiction | omega)
  cases unsealS s with
  | none =>
    simp only
    refine valP_ok (extract_ok _ 0 rfl _) ?_
    refine valP_ok (extract_ok _ 1 rfl _) ?_
    unfold m17_2
    refine callR (by kernel_rfl) (rtake_ret hS) ?_
    rintro _ w ⟨rfl, hS⟩
    unfold tkV
    rw [takeS_nil]
    simp only
    refine valP_ok (extract_ok _ 0 rfl _) ?_
    refine valP_ok (extract_ok _ 1 rfl _) ?_
    refine valP_ok (extract_ok _ 2 rfl _) ?_
    exact all _ _ _ _ _ (by rw [if_neg (by omega)]) _ hS
  | some t =>
    simp only
    refine valP_ok (extract_ok _ 0 rfl _) ?_
    refine valP_ok (extract_ok _ 1 rfl _) ?_
    unfold m17_2
    refine callR (by kernel_rfl) (rtake_ret hS) ?_
    rintro _ w ⟨rfl, hS⟩
    unfold tkV
    cases takeS t with
    | none =>
      simp only
      refine valP_ok (extract_ok _ 0 rfl _) ?_
      refine valP_ok (extract_ok _ 1 rfl _) ?_
      refine valP_ok (extract_ok _ 2 rfl _) ?_
      exact all _ _ _ _ _ (by rw [if_neg (by omega)]) _ hS
    | some p =>
      obtain ⟨n, r⟩ := p
      simp only
      refine valP_ok (extract_ok _ 0 rfl _) ?_
      refine valP_ok (extract_ok _ 1 rfl _) ?_
      refine valP_ok (extract_ok _ 2 rfl _) ?_
      exact all _ _ _ _ _ (by rw [if_pos ⟨rfl, rfl⟩]) _ hS
end

end Go.Proofs.Ytcdnkbplplghmaa.M
