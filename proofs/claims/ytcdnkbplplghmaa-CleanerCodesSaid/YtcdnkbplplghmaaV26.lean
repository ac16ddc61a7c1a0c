/- Decode, and the document's. -/
import Derived.Test.YtcdnkbplplghmaaV25
import Derived.Test.YtcdnkbplplghmaaFwW
import Derived.Test.YtcdnkbplplghmaaFwB
import Derived.Test.YtcdnkbplplghmaaMcod0
namespace Go.Proofs.Ytcdnkbplplghmaa.M
open Go.Proofs.Ytcdnkbplplghmaa.F Go.RowKit
set_option linter.unusedVariables false
set_option linter.unusedSimpArgs false
set_option maxRecDepth 100000
set_option maxHeartbeats 2000000
attribute [local irreducible] Res.cells Res.row Res.map Res.any World.cell? World.frozen? Instr.fieldAt Instr.loadAt Instr.storeAt Instr.indexAt Instr.lookup Instr.mapUpdate Instr.box Instr.build Instr.buildSlice Instr.extract Instr.alloc Instr.field Instr.index Instr.sliceAt Instr.makeSlice Instr.makeMap Instr.makeFunc binS Op.unary Sem.run
theorem noSize {s : ByteArray} : s = ⟨#[]⟩ ↔ ¬ 0 < s.size := by
  constructor
  · rintro rfl
    exact Nat.lt_irrefl 0
  · intro h
    refine bytesN_inj ?_
    have : (bytesN s).length = 0 := by rw [bytesN_length]; omega
    rw [List.eq_nil_of_length_eq_zero this]
    rfl
theorem takeS_nil : takeS ⟨#[]⟩ = none := by
  unfold takeS
  rfl
/-- what so many changes, and no more, come to. -/
def decG (n : Int) (r : ByteArray) : Option (List Gt) := if 0 ≤ n ∧ n ≤ 4096 then (match takeGs n.toNat r with
      | none => none
      | some (l, q) => if q = ⟨#[]⟩ ∧ MayL l then some l else none) else none
theorem decS_G (s : ByteArray) : decS s = match unsealS s with
  | none => none
  | some t => match takeS t with
    | none => none
    | some (n, r) => decG n r := rfl
/-- what comes back. -/
def DecR (o : Option (List Gt)) (w0 : World) (F : List Nat) (L : List Res) (v : Value) (w' : World) : Prop := ∃ A c, v = .tuple #[.slice A (o.getD []).length c, .int .i64 (if o.isSome then 0 else 2)] ∧ St w0 F w' (grow A c (o.getD []) :: L)
section
variable {w0 w : World} {F : List Nat} {L : List Res} {s : ByteArray}
theorem DecR.none_ (hS : St w0 F w L) : DecR none w0 F L (.tuple #[.slice none 0 0, .int .i64 2]) w := ⟨none, 0, rfl, hS.row_nil 40 4⟩
theorem dec_main {n : Int} {r : ByteArray} (hn : 0 ≤ n ∧ n ≤ 4096) (hS : St w0 F w L) : m16_5 (DecR (decG n r) w0 F L) (.string r) (.int .i64 n) w := by
  obtain ⟨n, rfl⟩ : ∃ k : Nat, n = (k : Int) := ⟨n.toNat, by omega⟩
  unfold m16_5 m16_6 m16_12
  have hz := decG (n : Int) r
  have hdec : decG (n : Int) r = (match takeGs n r with
      | none => none
      | some (l, q) => if q = ⟨#[]⟩ ∧ MayL l then some l else none) := by
    unfold decG
    rw [if_pos hn, Int.toNat_natCast]
  refine loop_in (fun u w' => ∃ (i : Nat) (l : List Gt) (t : ByteArray) (A : Option Addr) (c : Nat), u = (.string t, .slice A l.length c, .int .i64 (i : Int)) ∧ i ≤ n ∧ l.length = i ∧ (∀ g ∈ l, GtS g) ∧ takeGs n r = (takeGs (n - i) t).map (fun p => (l ++ p.1, p.2)) ∧ St w0 F w' (grow A c l :: L)) (fun u _ => n - (intOf u.2.2).toNat) ⟨0, [], r, none, 0, rfl, by omega, rfl, by simp, by simp, hS.row_nil 40 4⟩ ?_
  clear hS
  rintro u w ⟨i, l, t, A, c, rfl, hi, hl, hg, he, hS⟩
  simp only
  unfold m16_13
  refine valP_ok (lss_ok _ _ _ _ _ _ _) ?_
  unfold m16_14
  refine cond_split (fun h => ?_) (fun h => ?_)
  · obtain ⟨m, hm⟩ : ∃ m, n - i = m + 1 := ⟨n - i - 1, by omega⟩
    rw [hm, takeGs_succ] at he
    unfold m16_15
    refine callR (by kernel_rfl) (take_ret hS) ?_
    rintro _ w ⟨rfl, hS⟩
    unfold tkV
    cases ht : takeS t with
    | none =>
      rw [ht] at he
      rw [hdec, he]
      simp only [Option.map_none]
      refine valP_ok (extract_ok _ 0 rfl _) ?_
      refine valP_ok (extract_ok _ 1 rfl _) ?_
      refine valP_ok (extract_ok _ 2 rfl _) ?_
      unfold m16_17
      refine valP_ok (ne42 _ _ _ _ _) ?_
      unfold m16_24
      refine cond_dt (by omega) ?_
      unfold m16_25
      exact .none_ hS.tail
    | some p =>
      obtain ⟨off, a⟩ := p
      rw [ht] at he
      simp only at he
      simp only
      refine valP_ok (extract_ok _ 0 rfl _) ?_
      refine valP_ok (extract_ok _ 1 rfl _) ?_
      refine valP_ok (extract_ok _ 2 rfl _) ?_
      unfold m16_17
      refine valP_ok (ne42 _ _ _ _ _) ?_
      unfold m16_24
      refine cond_df (by omega) ?_
      unfold m16_18
      refine callR (by kernel_rfl) (takerec_ret hS) ?_
      rintro _ w ⟨rfl, hS⟩
      unfold recV
      cases hr : takeRec a with
      | none =>
        rw [hr] at he
        rw [hdec, he]
        simp only [Option.map_none]
        refine valP_ok (extract_ok _ 0 rfl _) ?_
        refine valP_ok (extract_ok _ 1 rfl _) ?_
        refine valP_ok (extract_ok _ 2 rfl _) ?_
        refine new_ok (al38 _) hS ?_
        intro b11 w hS
        first | refine ss38 0 hS rfl rfl rfl rfl ?_ | refine ss38 1 hS rfl rfl rfl rfl ?_ | refine ss38 2 hS rfl rfl rfl rfl ?_ | refine ss38 3 hS rfl rfl rfl rfl ?_ | refine ss38 4 hS rfl rfl rfl rfl ?_ | refine ss38 5 hS rfl rfl rfl rfl ?_ | refine ss38 6 hS rfl rfl rfl rfl ?_ | refine ss38 7 hS rfl rfl rfl rfl ?_
        intro w hS
        simp only [List.set_cons_zero, List.set_cons_succ] at hS
        unfold m16_19
        refine valP_ok (ne42 _ _ _ _ _) ?_
        unfold m16_22
        refine cond_dt (by omega) ?_
        unfold m16_23
        exact .none_ hS.tail.tail
      | some p =>
        obtain ⟨rc, b⟩ := p
        rw [hr] at he
        simp only at he
        simp only
        refine valP_ok (extract_ok _ 0 rfl _) ?_
        refine valP_ok (extract_ok _ 1 rfl _) ?_
        refine valP_ok (extract_ok _ 2 rfl _) ?_
        refine new_ok (al38 _) hS ?_
        intro b11 w hS
        first | refine ss38 0 hS rfl rfl rfl rfl ?_ | refine ss38 1 hS rfl rfl rfl rfl ?_ | refine ss38 2 hS rfl rfl rfl rfl ?_ | refine ss38 3 hS rfl rfl rfl rfl ?_ | refine ss38 4 hS rfl rfl rfl rfl ?_ | refine ss38 5 hS rfl rfl rfl rfl ?_ | refine ss38 6 hS rfl rfl rfl rfl ?_ | refine ss38 7 hS rfl rfl rfl rfl ?_
        intro w hS
        simp only [List.set_cons_zero, List.set_cons_succ] at hS
        unfold m16_19
        refine valP_ok (ne42 _ _ _ _ _) ?_
        unfold m16_22
        refine cond_df (by omega) ?_
        unfold m16_20
        first | refine ls38 0 hS rfl ?_ | refine ls38 1 hS rfl ?_ | refine ls38 2 hS rfl ?_ | refine ls38 3 hS rfl ?_ | refine ls38 4 hS rfl ?_ | refine ls38 5 hS rfl ?_ | refine ls38 6 hS rfl ?_ | refine ls38 7 hS rfl ?_ | refine valP_ok (ld38 (by assumption) (by assumption) (by assumption)) ?_
        refine valP_ok (bd40_0_1 rfl _) ?_
        refine newslice_ok (bs22_1 _) hS ?_
        intro b61 w hS
        refine append_one1 (enc := encG) 1 ⟨off, rc⟩ sl22 encG_len encG_one (by unfold maxLen; omega) (by omega) hS rfl ?_
        intro A' c' w hS
        simp only [List.set_cons_zero, List.set_cons_succ] at hS
        unfold m16_21
        unfold m16_16
        refine valP_ok (add_ok _ _ _ (by omega) (by omega) _) ?_
        refine ⟨⟨i + 1, l ++ [⟨off, rc⟩], b, A', c', rfl, by omega, by simp [hl], fun g hg2 => ?_, ?_, hS.tail⟩, by simp [intOf]; omega⟩
        · rcases List.mem_append.1 hg2 with h2 | h2
          · exact hg g h2
          · obtain rfl := List.mem_singleton.1 h2
            have h3 : takeGs 1 t = some ([⟨off, rc⟩], b) := by
              rw [takeGs_succ, ht]
              simp only
              rw [hr]
              rfl
            exact (takeGs_ok h3).2 _ (.head _)
        · rw [he, show n - (i + 1) = m by omega, Option.map_map]
          congr 1
          funext p
          simp
  · obtain rfl : i = n := by omega
    rw [Nat.sub_self] at he
    simp only [takeGs, Option.map_some, List.append_nil] at he
    rw [he] at hdec
    simp only at hdec
    have leaf : ∀ b : Bool, (b = true ↔ ¬ (t = ⟨#[]⟩ ∧ MayL l)) → ∀ w, St w0 F w (grow A c l :: L) → m16_10 (DecR (decG (i : Int) r) w0 F L) (.slice A l.length c) (.bool b) w := fun b hb w hS => by
      rw [hdec]
      unfold m16_10
      cases b with
      | true =>
        refine cond_t rfl ?_
        rw [if_neg (hb.1 rfl)]
        unfold m16_11
        exact .none_ hS.tail
      | false =>
        refine cond_f rfl ?_
        rw [if_pos (Classical.byContradiction fun h => by have := hb.2 h; cases this)]
        unfold m16_8 m16_9
        exact ⟨A, c, rfl, hS⟩
    unfold m16_7
    refine valP_ok (ne9 _ _ _ _ _) ?_
    refine cond_split (fun h1 => ?_) (fun h1 => ?_)
    · first | refine pick_dt (by first | assumption | omega) ?_ | refine pick_df (by first | assumption | omega) ?_ | refine pick_t (by first | rfl | assumption) ?_ | refine pick_f (by first | rfl | assumption) ?_ | refine pick_dt rfl ?_ | refine pick_df (not_not_intro rfl) ?_
      exact leaf _ ⟨fun _ h => h1 h.1, fun _ => rfl⟩ _ hS
    · refine callR (by kernel_rfl) (check_ret (l := l) (by omega) hg (Bes.of_row 0 rfl) hS) ?_
      rintro _ w ⟨rfl, hS⟩
      refine valP_ok (ne42 _ _ _ _ _) ?_
      first | refine pick_dt (by first | assumption | omega) ?_ | refine pick_df (by first | assumption | omega) ?_ | refine pick_t (by first | rfl | assumption) ?_ | refine pick_f (by first | rfl | assumption) ?_ | refine pick_dt rfl ?_ | refine pick_df (not_not_intro rfl) ?_
      refine leaf _ ?_ _ hS
      rw [decide_eq_true_eq]
      by_cases h2 : MayL l
      · rw [if_pos h2]
        exact ⟨fun h => absurd rfl h, fun h => absurd ⟨Classical.not_not.1 h1, h2⟩ h⟩
      · rw [if_neg h2]
        exact ⟨fun _ h => h2 h.2, fun _ h => by omega⟩
theorem decode_ret (hs : s.size ≤ maxLen) (hS : St w0 F w L) : Ret Try.prog 16 #[.string s] w fun v w' => DecR (decS s) w0 F L v w' := by
  refine s16 _ ?_
  unfold m16 m16_0 m16_1
  refine callR (by kernel_rfl) (unseal_ret hs hS) ?_
  rintro _ w ⟨rfl, hS⟩
  show _
  rw [show (fun v w' => DecR (decS s) w0 F L v w') = DecR (decS s) w0 F L from rfl, decS_G]
  unfold unV
  cases unsealS s with
  | none =>
    simp only
    refine valP_ok (extract_ok _ 0 rfl _) ?_
    refine valP_ok (extract_ok _ 1 rfl _) ?_
    unfold m16_2
    refine valP_ok (ne42 _ _ _ _ _) ?_
    unfold m16_28
    refine cond_dt (by omega) ?_
    unfold m16_29
    exact .none_ hS
  | some t =>
    simp only
    refine valP_ok (extract_ok _ 0 rfl _) ?_
    refine valP_ok (extract_ok _ 1 rfl _) ?_
    unfold m16_2
    refine valP_ok (ne42 _ _ _ _ _) ?_
    unfold m16_28
    refine cond_df (by omega) ?_
    unfold m16_3
    refine callR (by kernel_rfl) (take_ret hS) ?_
    rintro _ w ⟨rfl, hS⟩
    unfold tkV
    have leaf : ∀ (e n : Int) (r : ByteArray) (o : Option (List Gt)), (o = if e = 0 then decG n r else none) → ∀ b : Bool, (b = true ↔ (e ≠ 0 ∨ n < 0 ∨ 4096 < n)) → m16_26 (DecR o w0 F L) (.string r) (.int .i64 n) (.bool b) w := fun e n r o ho b hb => by
      unfold m16_26
      cases b with
      | true =>
        refine cond_t rfl ?_
        have h := hb.1 rfl
        have : o = none := by
          rw [ho]
          split
          · unfold decG
            rw [if_neg (by omega)]
          · rfl
        rw [this]
        unfold m16_27
        exact .none_ hS
      | false =>
        have h : ¬ (e ≠ 0 ∨ n < 0 ∨ 4096 < n) := fun h => by have := hb.2 h; cases this
        refine cond_f rfl ?_
        rw [ho, if_pos (by omega)]
        exact dec_main (by omega) hS
    cases takeS t with
    | none =>
      simp only
      refine valP_ok (extract_ok _ 0 rfl _) ?_
      refine valP_ok (extract_ok _ 1 rfl _) ?_
      refine valP_ok (extract_ok _ 2 rfl _) ?_
      unfold m16_4
      refine valP_ok (ne42 _ _ _ _ _) ?_
      first | refine cond_split (fun hc0 => ?_) (fun hc0 => ?_) | refine cond_bsplit (fun hc0 => ?_) (fun hc0 => ?_)
      · first | refine pick_dt (by first | assumption | omega) ?_ | refine pick_df (by first | assumption | omega) ?_ | refine pick_t (by first | rfl | assumption) ?_ | refine pick_f (by first | rfl | assumption) ?_ | refine pick_dt rfl ?_ | refine pick_df (not_not_intro rfl) ?_
        first | refine cond_split (fun hc1 => ?_) (fun hc1 => ?_) | refine cond_bsplit (fun hc1 => ?_) (fun hc1 => ?_)
        · first | refine pick_dt (by first | assumption | omega) ?_ | refine pick_df (by first | assumption | omega) ?_ | refine pick_t (by first | rfl | assumption) ?_ | refine pick_f (by first | rfl | assumption) ?_ | refine pick_dt rfl ?_ | refine pick_df (not_not_intro rfl) ?_
          exact leaf 2 _ _ _ (by rw [if_neg (by omega)]) _ (by simp only [decide_eq_true_eq, Bool.false_eq_true, false_iff, true_iff] <;> first | contradiction | omega)
        · refine valP_ok (gtr_ok _ _ _ _ _ _ _) ?_
          first | refine pick_dt (by first | assumption | omega) ?_ | refine pick_df (by first | assumption | omega) ?_ | refine pick_t (by first | rfl | assumption) ?_ | refine pick_f (by first | rfl | assumption) ?_ | refine pick_dt rfl ?_ | refine pick_df (not_not_intro rfl) ?_
          exact leaf 2 _ _ _ (by rw [if_neg (by omega)]) _ (by simp only [decide_eq_true_eq, Bool.false_eq_true, false_iff, true_iff] <;> first | contradiction | omega)
      · refine valP_ok (lss_ok _ _ _ _ _ _ _) ?_
        first | refine pick_dt (by first | assumption | omega) ?_ | refine pick_df (by first | assumption | omega) ?_ | refine pick_t (by first | rfl | assumption) ?_ | refine pick_f (by first | rfl | assumption) ?_ | refine pick_dt rfl ?_ | refine pick_df (not_not_intro rfl) ?_
        first | refine cond_split (fun hc1 => ?_) (fun hc1 => ?_) | refine cond_bsplit (fun hc1 => ?_) (fun hc1 => ?_)
        · first | refine pick_dt (by first | assumption | omega) ?_ | refine pick_df (by first | assumption | omega) ?_ | refine pick_t (by first | rfl | assumption) ?_ | refine pick_f (by first | rfl | assumption) ?_ | refine pick_dt rfl ?_ | refine pick_df (not_not_intro rfl) ?_
          exact leaf 2 _ _ _ (by rw [if_neg (by omega)]) _ (by simp only [decide_eq_true_eq, Bool.false_eq_true, false_iff, true_iff] <;> first | contradiction | omega)
        · refine valP_ok (gtr_ok _ _ _ _ _ _ _) ?_
          first | refine pick_dt (by first | assumption | omega) ?_ | refine pick_df (by first | assumption | omega) ?_ | refine pick_t (by first | rfl | assumption) ?_ | refine pick_f (by first | rfl | assumption) ?_ | refine pick_dt rfl ?_ | refine pick_df (not_not_intro rfl) ?_
          exact leaf 2 _ _ _ (by rw [if_neg (by omega)]) _ (by simp only [decide_eq_true_eq, Bool.false_eq_true, false_iff, true_iff] <;> first | contradiction | omega)
    | some p =>
      obtain ⟨n, r⟩ := p
      simp only
      refine valP_ok (extract_ok _ 0 rfl _) ?_
      refine valP_ok (extract_ok _ 1 rfl _) ?_
      refine valP_ok (extract_ok _ 2 rfl _) ?_
      unfold m16_4
      refine valP_ok (ne42 _ _ _ _ _) ?_
      first | refine cond_split (fun hc0 => ?_) (fun hc0 => ?_) | refine cond_bsplit (fun hc0 => ?_) (fun hc0 => ?_)
      · first | refine pick_dt (by first | assumption | omega) ?_ | refine pick_df (by first | assumption | omega) ?_ | refine pick_t (by first | rfl | assumption) ?_ | refine pick_f (by first | rfl | assumption) ?_ | refine pick_dt rfl ?_ | refine pick_df (not_not_intro rfl) ?_
        first | refine cond_split (fun hc1 => ?_) (fun hc1 => ?_) | refine cond_bsplit (fun hc1 => ?_) (fun hc1 => ?_)
        · first | refine pick_dt (by first | assumption | omega) ?_ | refine pick_df (by first | assumption | omega) ?_ | refine pick_t (by first | rfl | assumption) ?_ | refine pick_f (by first | rfl | assumption) ?_ | refine pick_dt rfl ?_ | refine pick_df (not_not_intro rfl) ?_
          exact leaf 0 _ _ _ (by rw [if_pos rfl]) _ (by simp only [decide_eq_true_eq, Bool.false_eq_true, false_iff, true_iff] <;> first | contradiction | omega)
        · refine valP_ok (gtr_ok _ _ _ _ _ _ _) ?_
          first | refine pick_dt (by first | assumption | omega) ?_ | refine pick_df (by first | assumption | omega) ?_ | refine pick_t (by first | rfl | assumption) ?_ | refine pick_f (by first | rfl | assumption) ?_ | refine pick_dt rfl ?_ | refine pick_df (not_not_intro rfl) ?_
          exact leaf 0 _ _ _ (by rw [if_pos rfl]) _ (by simp only [decide_eq_true_eq, Bool.false_eq_true, false_iff, true_iff] <;> first | contradiction | omega)
      · refine valP_ok (lss_ok _ _ _ _ _ _ _) ?_
        first | refine pick_dt (by first | assumption | omega) ?_ | refine pick_df (by first | assumption | omega) ?_ | refine pick_t (by first | rfl | assumption) ?_ | refine pick_f (by first | rfl | assumption) ?_ | refine pick_dt rfl ?_ | refine pick_df (not_not_intro rfl) ?_
        first | refine cond_split (fun hc1 => ?_) (fun hc1 => ?_) | refine cond_bsplit (fun hc1 => ?_) (fun hc1 => ?_)
        · first | refine pick_dt (by first | assumption | omega) ?_ | refine pick_df (by first | assumption | omega) ?_ | refine pick_t (by first | rfl | assumption) ?_ | refine pick_f (by first | rfl | assumption) ?_ | refine pick_dt rfl ?_ | refine pick_df (not_not_intro rfl) ?_
          exact leaf 0 _ _ _ (by rw [if_pos rfl]) _ (by simp only [decide_eq_true_eq, Bool.false_eq_true, false_iff, true_iff] <;> first | contradiction | omega)
        · refine valP_ok (gtr_ok _ _ _ _ _ _ _) ?_
          first | refine pick_dt (by first | assumption | omega) ?_ | refine pick_df (by first | assumption | omega) ?_ | refine pick_t (by first | rfl | assumption) ?_ | refine pick_f (by first | rfl | assumption) ?_ | refine pick_dt rfl ?_ | refine pick_df (not_not_intro rfl) ?_
          exact leaf 0 _ _ _ (by rw [if_pos rfl]) _ (by simp only [decide_eq_true_eq, Bool.false_eq_true, false_iff, true_iff] <;> first | contradiction | omega)
end

end Go.Proofs.Ytcdnkbplplghmaa.M
