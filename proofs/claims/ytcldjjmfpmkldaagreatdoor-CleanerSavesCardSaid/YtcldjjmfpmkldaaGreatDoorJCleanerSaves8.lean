/- Parts of a proof, in one text: what it needs of V27, E2, E3, D22, Mqd0, Mqd1. -/
import Derived.Test.YtcldjjmfpmkldaaGreatDoorJCleanerSaves7
import Derived.Maps.Range
import Derived.Test.YtcldjjmfpmkldaaGreatDoorProg
namespace Go.Proofs.YtcldjjmfpmkldaaGreatDoor.M
open Go.Proofs.YtcldjjmfpmkldaaGreatDoor.F Go.RowKit
set_option linter.unusedVariables false
set_option linter.unusedSimpArgs false
set_option maxRecDepth 100000
set_option maxHeartbeats 2000000
attribute [local irreducible] Res.cells Res.row Res.map Res.any World.cell? World.frozen? Instr.fieldAt Instr.loadAt Instr.storeAt Instr.indexAt Instr.lookup Instr.mapUpdate Instr.box Instr.build Instr.buildSlice Instr.extract Instr.alloc Instr.field Instr.index Instr.sliceAt Instr.makeSlice Instr.makeMap Instr.makeFunc binS Op.unary Sem.run
section
variable {w0 w : World} {F : List Nat} {L : List Res} {s : ByteArray}
theorem rdec_main {n : Int} {r : ByteArray} (hn : 0 ≤ n ∧ n ≤ 4096) (hS : St w0 F w L) : m53_4 (DecR (decG n r) w0 F L) (.int .i64 n) (.string r) w := by
  obtain ⟨n, rfl⟩ : ∃ k : Nat, n = (k : Int) := ⟨n.toNat, by omega⟩
  unfold m53_4 m53_5 m53_11
  have hdec : decG (n : Int) r = (match takeGs n r with
      | none => none
      | some (l, q) => if q = ⟨#[]⟩ ∧ MayL l then some l else none) := by
    unfold decG
    rw [if_pos hn, Int.toNat_natCast]
    all_goals rfl
  refine loop_in (fun u w' => ∃ (i : Nat) (l : List Gt) (t : ByteArray) (A : Option Addr) (c : Nat), u = (.string t, .slice A l.length c, .int .i64 (i : Int)) ∧ i ≤ n ∧ l.length = i ∧ takeGs n r = (takeGs (n - i) t).map (fun p => (l ++ p.1, p.2)) ∧ St w0 F w' (grow A c l :: L)) (fun u _ => n - (intOf u.2.2).toNat) ⟨0, [], r, none, 0, rfl, by omega, rfl, by simp, hS.row_nil 58 4⟩ ?_
  clear hS
  rintro u w ⟨i, l, t, A, c, rfl, hi, hl, he, hS⟩
  simp only
  unfold m53_12
  refine valP_ok (lss_ok _ _ _ _ _ _ _) ?_
  unfold m53_21
  refine cond_split (fun h => ?_) (fun h => ?_)
  · obtain ⟨m, hm⟩ : ∃ m, n - i = m + 1 := ⟨n - i - 1, by omega⟩
    rw [hm, takeGs_succ] at he
    unfold m53_13
    refine callR (by kernel_rfl) (rtake_ret hS) ?_
    rintro _ w ⟨rfl, hS⟩
    have leaf : ∀ (K1 : Value × Value × Value → World → Prop) (e1 e2 off : Int) (rc : Rc) (b : ByteArray), (e1 = 0 ∧ e2 = 0 → ∀ w' A' c', St w0 F w' (grow A' c' (l ++ [⟨off, rc⟩]) :: L) → K1 (.string b, .slice A' (l ++ [(⟨off, rc⟩ : Gt)]).length c', .int .i64 ((i + 1 : Nat) : Int)) w') → (¬ (e1 = 0 ∧ e2 = 0) → decG (n : Int) r = none) → ∀ w b14, St w0 F w (Res.cells b14 56 (encR rc) :: grow A c l :: L) → m53_16 (DecR (decG (n : Int) r) w0 F L) K1 (.int .i64 (n : Int)) (.slice A l.length c) (.int .i64 (i : Int)) (.int .i64 off) (.int .i64 e1) (.pointer (some ⟨b14, 0, none⟩)) (.string b) (.int .i64 e2) w := fun K1 e1 e2 off rc b hK hnone w b14 hS => by
      have leaf2 : ∀ x : Bool, (x = true ↔ ¬ (e1 = 0 ∧ e2 = 0)) → m53_19 (DecR (decG (n : Int) r) w0 F L) K1 (.int .i64 (n : Int)) (.slice A l.length c) (.int .i64 (i : Int)) (.int .i64 off) (.pointer (some ⟨b14, 0, none⟩)) (.string b) (.bool x) w := fun x hx => by
        unfold m53_19
        cases x with
        | true =>
          refine cond_t rfl ?_
          rw [hnone (hx.1 rfl)]
          unfold m53_20
          exact .none_ hS.tail.tail
        | false =>
          refine cond_f rfl ?_
          unfold m53_17
          refine ls56 0 hS rfl ?_
          refine valP_ok (bd58_0_1 rfl _) ?_
          refine newslice_ok (bs22_1 _) hS ?_
          intro b69 w hS
          refine append_one1 (enc := encG) 1 ⟨off, rc⟩ sl22 encG_len encG_one (by unfold maxLen; omega) (by omega) hS rfl ?_
          intro A' c' w hS
          simp only [List.set_cons_zero, List.set_cons_succ] at hS
          unfold m53_18
          unfold m53_14
          refine valP_ok (add_ok _ _ _ (by omega) (by omega) _) ?_
          exact hK (Classical.byContradiction fun h => by have := hx.2 h; cases this) w A' c' hS.tail
      unfold m53_16
      refine valP_ok (ne3 _ _ _ _ _) ?_
      refine cond_split (fun hc0 => ?_) (fun hc0 => ?_)
      · refine pick_dt (by first | assumption | omega) ?_
        exact leaf2 _ (by simp only [decide_eq_true_eq, Bool.false_eq_true, false_iff, true_iff] <;> first | contradiction | omega)
      · refine valP_ok (ne3 _ _ _ _ _) ?_
        refine pick_df (by first | assumption | omega) ?_
        exact leaf2 _ (by simp only [decide_eq_true_eq, Bool.false_eq_true, false_iff, true_iff] <;> first | contradiction | omega)
    unfold tkV
    cases ht : takeS t with
    | none =>
      rw [ht] at he
      simp only [Option.map_none] at he
      simp only
      refine valP_ok (extract_ok _ 0 rfl _) ?_
      refine valP_ok (extract_ok _ 1 rfl _) ?_
      refine valP_ok (extract_ok _ 2 rfl _) ?_
      unfold m53_15
      refine callR (by kernel_rfl) (rtakerec_ret hS) ?_
      rintro _ w ⟨rfl, hS⟩
      have e : recV ⟨#[]⟩ = noRec := by unfold recV takeRec; rw [takeS_nil]
      rw [e]
      refine valP_ok (extract_ok _ 0 rfl _) ?_
      refine valP_ok (extract_ok _ 1 rfl _) ?_
      refine valP_ok (extract_ok _ 2 rfl _) ?_
      refine new_ok (al56 _) hS ?_
      intro b14 w hS
      refine ss56 0 hS rfl rfl rfl rfl ?_
      intro w hS
      simp only [List.set_cons_zero, List.set_cons_succ] at hS
      exact leaf _ _ _ _ ⟨0, 0, ⟨#[]⟩⟩ _ (fun h => by omega) (fun _ => by rw [hdec, he]) _ _ hS
    | some p =>
      obtain ⟨off, a⟩ := p
      rw [ht] at he
      simp only at he
      simp only
      refine valP_ok (extract_ok _ 0 rfl _) ?_
      refine valP_ok (extract_ok _ 1 rfl _) ?_
      refine valP_ok (extract_ok _ 2 rfl _) ?_
      unfold m53_15
      refine callR (by kernel_rfl) (rtakerec_ret hS) ?_
      rintro _ w ⟨rfl, hS⟩
      unfold recV
      cases hr : takeRec a with
      | none =>
        rw [hr] at he
        simp only [Option.map_none] at he
        simp only
        refine valP_ok (extract_ok _ 0 rfl _) ?_
        refine valP_ok (extract_ok _ 1 rfl _) ?_
        refine valP_ok (extract_ok _ 2 rfl _) ?_
        refine new_ok (al56 _) hS ?_
        intro b14 w hS
        refine ss56 0 hS rfl rfl rfl rfl ?_
        intro w hS
        simp only [List.set_cons_zero, List.set_cons_succ] at hS
        exact leaf _ _ _ _ ⟨0, 0, ⟨#[]⟩⟩ _ (fun h => by omega) (fun _ => by rw [hdec, he]) _ _ hS
      | some p =>
        obtain ⟨rc, b⟩ := p
        rw [hr] at he
        simp only at he
        simp only
        refine valP_ok (extract_ok _ 0 rfl _) ?_
        refine valP_ok (extract_ok _ 1 rfl _) ?_
        refine valP_ok (extract_ok _ 2 rfl _) ?_
        refine new_ok (al56 _) hS ?_
        intro b14 w hS
        refine ss56 0 hS rfl rfl rfl rfl ?_
        intro w hS
        simp only [List.set_cons_zero, List.set_cons_succ] at hS
        refine leaf _ _ _ _ rc _ (fun _ w' A' c' hS => ⟨⟨i + 1, l ++ [⟨off, rc⟩], b, A', c', rfl, by omega, by simp [hl], ?_, hS⟩, by simp [intOf]; omega⟩) (fun h => absurd ⟨rfl, rfl⟩ h) _ _ hS
        rw [he, show n - (i + 1) = m by omega, Option.map_map]
        congr 1
        funext p
        simp
  · obtain rfl : i = n := by omega
    rw [Nat.sub_self] at he
    simp only [takeGs, Option.map_some, List.append_nil] at he
    rw [he] at hdec
    simp only at hdec
    have leaf : ∀ b : Bool, (b = true ↔ ¬ (t = ⟨#[]⟩ ∧ MayL l)) → ∀ w, St w0 F w (grow A c l :: L) → m53_9 (DecR (decG (i : Int) r) w0 F L) (.slice A l.length c) (.bool b) w := fun b hb w hS => by
      rw [hdec]
      unfold m53_9
      cases b with
      | true =>
        refine cond_t rfl ?_
        rw [if_neg (hb.1 rfl)]
        unfold m53_10
        exact .none_ hS.tail
      | false =>
        refine cond_f rfl ?_
        rw [if_pos (Classical.byContradiction fun h => by have := hb.2 h; cases this)]
        unfold m53_7 m53_8
        exact ⟨A, c, rfl, hS⟩
    unfold m53_6
    refine builtin_ok (len9 _) ?_
    refine valP_ok (gtr_ok _ _ _ _ _ _ _) ?_
    refine cond_split (fun h1 => ?_) (fun h1 => ?_)
    · refine pick_dt (by first | assumption | omega) ?_
      exact leaf _ ⟨fun _ h => noSize.1 h.1 (by omega), fun _ => rfl⟩ _ hS
    · refine callR (by kernel_rfl) (rmay_ret (l := l) (by omega) (Bes.of_row 0 rfl) hS) ?_
      rintro _ w ⟨rfl, hS⟩
      refine valP_ok (not_ok _ _) ?_
      refine pick_df (by first | assumption | omega) ?_
      refine leaf _ ?_ _ hS
      rw [decide_eq_true_eq]
      exact ⟨fun h h2 => h h2.2, fun h h2 => h ⟨noSize.2 (by omega), h2⟩⟩
theorem rdecode_ret (hs : s.size ≤ maxLen) (hS : St w0 F w L) : Ret Tryz.prog 53 #[.string s] w fun v w' => DecR (decS s) w0 F L v w' := by
  refine s53 _ ?_
  unfold m53 m53_0 m53_1
  refine callR (by kernel_rfl) (runseal_ret hs hS) ?_
  rintro _ w ⟨rfl, hS⟩
  show _
  rw [show (fun v w' => DecR (decS s) w0 F L v w') = DecR (decS s) w0 F L from rfl, decS_G]
  unfold unV
  have leaf : ∀ (e f n : Int) (r : ByteArray) (o : Option (List Gt)), (o = if e = 0 ∧ f = 0 then decG n r else none) → ∀ w, St w0 F w L → ∀ b : Bool, (b = true ↔ (e ≠ 0 ∨ f ≠ 0 ∨ n < 0 ∨ 4096 < n)) → m53_22 (DecR o w0 F L) (.int .i64 n) (.string r) (.bool b) w := fun e f n r o ho w hS b hb => by
    unfold m53_22
    cases b with
    | true =>
      refine cond_t rfl ?_
      have h := hb.1 rfl
      have : o = none := by
        rw [ho]
        split
        · unfold decG
          rw [if_neg (by omega)]
        · rfl
      rw [this]
      unfold m53_23
      exact .none_ hS
    | false =>
      have h : ¬ (e ≠ 0 ∨ f ≠ 0 ∨ n < 0 ∨ 4096 < n) := fun h => by have := hb.2 h; cases this
      refine cond_f rfl ?_
      rw [ho, if_pos (by omega)]
      exact rdec_main (by omega) hS
  have all : ∀ (e f n : Int) (r : ByteArray) (o : Option (List Gt)), (o = if e = 0 ∧ f = 0 then decG n r else none) → ∀ w, St w0 F w L → m53_3 (DecR o w0 F L) (.int .i64 e) (.int .i64 n) (.string r) (.int .i64 f) w := fun e f n r o ho w hS => by
    unfold m53_3
    refine valP_ok (ne3 _ _ _ _ _) ?_
    refine cond_split (fun hc0 => ?_) (fun hc0 => ?_)
    · refine pick_dt (by first | assumption | omega) ?_
      refine cond_bsplit (fun hc1 => ?_) (fun hc1 => ?_)
      · refine pick_dt (by first | assumption | omega) ?_
        refine cond_bsplit (fun hc2 => ?_) (fun hc2 => ?_)
        · refine pick_dt (by first | assumption | omega) ?_
          exact leaf e f _ _ _ ho _ hS _ (by simp only [decide_eq_true_eq, Bool.false_eq_true, false_iff, true_iff] <;> first | contradiction | omega)
        · refine valP_ok (gtr_ok _ _ _ _ _ _ _) ?_
          refine pick_t (by first | rfl | assumption) ?_
          exact leaf e f _ _ _ ho _ hS _ (by simp only [decide_eq_true_eq, Bool.false_eq_true, false_iff, true_iff] <;> first | contradiction | omega)
      · refine valP_ok (lss_ok _ _ _ _ _ _ _) ?_
        refine pick_t (by first | rfl | assumption) ?_
        refine cond_bsplit (fun hc2 => ?_) (fun hc2 => ?_)
        · refine pick_dt (by first | assumption | omega) ?_
          exact leaf e f _ _ _ ho _ hS _ (by simp only [decide_eq_true_eq, Bool.false_eq_true, false_iff, true_iff] <;> first | contradiction | omega)
        · refine valP_ok (gtr_ok _ _ _ _ _ _ _) ?_
          refine pick_t (by first | rfl | assumption) ?_
          exact leaf e f _ _ _ ho _ hS _ (by simp only [decide_eq_true_eq, Bool.false_eq_true, false_iff, true_iff] <;> first | contradiction | omega)
    · refine valP_ok (ne3 _ _ _ _ _) ?_
      refine pick_df (by first | assumption | omega) ?_
      refine cond_split (fun hc1 => ?_) (fun hc1 => ?_)
      · refine pick_dt (by first | assumption | omega) ?_
        refine cond_bsplit (fun hc2 => ?_) (fun hc2 => ?_)
        · refine pick_dt (by first | assumption | omega) ?_
          exact leaf e f _ _ _ ho _ hS _ (by simp only [decide_eq_true_eq, Bool.false_eq_true, false_iff, true_iff] <;> first | contradiction | omega)
        · refine valP_ok (gtr_ok _ _ _ _ _ _ _) ?_
          refine pick_t (by first | rfl | assumption) ?_
          exact leaf e f _ _ _ ho _ hS _ (by simp only [decide_eq_true_eq, Bool.false_eq_true, false_iff, true_iff] <;> first | contradiction | omega)
      · refine valP_ok (lss_ok _ _ _ _ _ _ _) ?_
        refine pick_df (by first | assumption | omega) ?_
        refine cond_split (fun hc2 => ?_) (fun hc2 => ?_)
        · refine pick_dt (by first | assumption | omega) ?_
          exact leaf e f _ _ _ ho _ hS _ (by simp only [decide_eq_true_eq, Bool.false_eq_true, false_iff, true_iff] <;> first | contradiction | omega)
        · refine valP_ok (gtr_ok _ _ _ _ _ _ _) ?_
          refine pick_df (by first | assumption | omega) ?_
          exact leaf e f _ _ _ ho _ hS _ (by simp only [decide_eq_true_eq, Bool.false_eq_true, false_iff, true_iff] <;> first | contradiction | omega)
  cases unsealS s with
  | none =>
    simp only
    refine valP_ok (extract_ok _ 0 rfl _) ?_
    refine valP_ok (extract_ok _ 1 rfl _) ?_
    unfold m53_2
    refine callR (by kernel_rfl) (rtake_ret hS) ?_
    rintro _ w ⟨rfl, hS⟩
    unfold tkV
    rw [takeS_nil]
    simp only
    refine valP_ok (extract_ok _ 0 rfl _) ?_
    refine valP_ok (extract_ok _ 1 rfl _) ?_
    refine valP_ok (extract_ok _ 2 rfl _) ?_
    exact all _ _ _ _ _ (by rw [if_neg (by omega)]) _ hS
  | some t =>
    simp only
    refine valP_ok (extract_ok _ 0 rfl _) ?_
    refine valP_ok (extract_ok _ 1 rfl _) ?_
    unfold m53_2
    refine callR (by kernel_rfl) (rtake_ret hS) ?_
    rintro _ w ⟨rfl, hS⟩
    unfold tkV
    cases takeS t with
    | none =>
      simp only
      refine valP_ok (extract_ok _ 0 rfl _) ?_
      refine valP_ok (extract_ok _ 1 rfl _) ?_
      refine valP_ok (extract_ok _ 2 rfl _) ?_
      exact all _ _ _ _ _ (by rw [if_neg (by omega)]) _ hS
    | some p =>
      obtain ⟨n, r⟩ := p
      simp only
      refine valP_ok (extract_ok _ 0 rfl _) ?_
      refine valP_ok (extract_ok _ 1 rfl _) ?_
      refine valP_ok (extract_ok _ 2 rfl _) ?_
      exact all _ _ _ _ _ (by rw [if_pos ⟨rfl, rfl⟩]) _ hS
end
abbrev newS : ByteArray := ⟨#[46, 110, 101, 119]⟩
def newN (s : ByteArray) : ByteArray := s ++ newS
theorem inTl {d m : Res} {Y L : List Res} : ∀ r ∈ L, r ∈ d :: m :: (Y ++ L) := fun r hr => .tail _ (.tail _ (List.mem_append_right _ hr))
section
variable {w0 w : World} {F : List Nat} {L : List Res} {b : Nat} {D : Dk}
theorem fl_at {l : List Fl} {o b i : Nat} (hr : Rd w 3 (some ⟨b, o, none⟩) l.length (l.flatMap encFl)) (hi : i < l.length) : w.cell? ⟨b, o + i * 3, none⟩ = some (.string l[i].name) ∧ w.cell? ⟨b, o + i * 3 + 1, none⟩ = some (.string l[i].sure) ∧ w.cell? ⟨b, o + i * 3 + 2, none⟩ = some (.string l[i].loose) :=
  ⟨hr.struct encFl_len hi (j := 0) (by omega) rfl, hr.struct encFl_len hi (j := 1) (by omega) rfl, hr.struct encFl_len hi (j := 2) (by omega) rfl⟩
theorem cell_in {t : TypeId} {cs : List Value} {i : Nat} {v : Value} (hS : St w0 F w L) (hm : Res.cells b t cs ∈ L) (hi : cs[i]? = some v) : w.cell? ⟨b, i, none⟩ = some v := by
  obtain ⟨k, hk⟩ := List.mem_iff_getElem?.1 hm
  exact hS.cell k hk hi
theorem Dsk.with {f : FuncId} {args : Array Value} {Q : Value → Prop} (hD : Dsk w0 F L b D w) (h : ∀ L', (∀ r ∈ L, r ∈ L') → St w0 F w L' → Ret Tryz.prog f args w fun v w' => Q v ∧ St w0 F w' L') : Ret Tryz.prog f args w fun v w' => Q v ∧ Dsk w0 F L b D w' := by
  obtain ⟨mb, X, hX, hS⟩ := hD
  exact (h _ inTl hS).mono fun v w' ⟨hq, hS'⟩ => ⟨hq, mb, X, hX, hS'⟩
theorem Dsk.st (hD : Dsk w0 F L b D w) : ∃ L', (∀ r ∈ L, r ∈ L') ∧ St w0 F w L' := by
  obtain ⟨mb, X, hX, hS⟩ := hD
  exact ⟨_, inTl, hS⟩
theorem save1_ret {f : Fl} {name : ByteArray} {b4 : Nat} (hz : name.size ≤ 1000000) (hn : Res.cells b4 9 [.string name] ∈ L) (hS : St w0 F w L) : Ret Tryz.prog 25 #[.agg #[.string f.name, .string f.sure, .string f.loose], ptr b4] w fun v w' => v = .bool (decide (f.name = newN name)) ∧ St w0 F w' L := by
  have e4 : (⟨#[46, 110, 101, 119]⟩ : ByteArray).size = 4 := rfl
  refine s25 _ _ ?_
  unfold m25
  unfold m25_0
  refine new_ok (bx67 _ _ _ _) hS ?_
  intro b2 w hS
  unfold m25_1
  refine valP_ok (fa67_0 _ _) ?_
  refine valP_ok (ld9 (hS.cell 0 rfl rfl)) ?_
  refine valP_ok (ld9 (cell_in hS (.tail _ hn) (i := 0) rfl)) ?_
  refine valP_ok (sadd _ _ (by omega) _) ?_
  refine valP_ok (eq9 _ _ _ _ _) ?_
  unfold m25_2
  exact ⟨rfl, hS.tail⟩
theorem index64_ret {l : List Fl} {A : Option Addr} {c : Nat} {name : ByteArray} {b4 : Nat} (hm : l.length ≤ 1000000) (hz : name.size ≤ 1000000) (hn : Res.cells b4 9 [.string name] ∈ L) (hE : Bes w0 F L 3 A l.length (l.flatMap encFl)) (hS : St w0 F w L) : Ret Tryz.prog 64 #[.slice A l.length c, .func (.func 25) #[] #[ptr b4]] w fun v w' => (∃ k : Int, v = .int .i64 k ∧ (0 ≤ k ↔ ∃ f ∈ l, f.name = newN name)) ∧ St w0 F w' L := by
  refine s64 _ _ ?_
  unfold m64
  unfold m64_0
  unfold m64_1
  refine builtin_ok (len39 _) ?_
  unfold m64_4
  refine loop_in (fun u w' => ∃ i : Nat, u = .int .i64 (i : Int) ∧ i ≤ l.length ∧ (∀ j (hj : j < l.length), j < i → ¬ l[j].name = newN name) ∧ St w0 F w' L) (fun u _ => l.length - (intOf u).toNat) ⟨0, rfl, by omega, fun j _ h => by omega, hS⟩ ?_
  clear hS
  rintro u w ⟨i, rfl, hi, hno, hS⟩
  unfold m64_5
  refine valP_ok (lss_ok _ _ _ _ _ _ _) ?_
  unfold m64_6
  refine cond_split (fun h => ?_) (fun h => ?_)
  · have hil : i < l.length := by omega
    have hR := hE.rd hS
    obtain ⟨gb, o, rfl⟩ := hR.some_ (by omega) (by omega)
    have p := fl_at hR hil
    unfold m64_7 m64_9
    refine valP_ok (ix39 hil _) ?_
    refine valP_ok (ld67 p.1 p.2.1 p.2.2) ?_
    refine callvR (by kernel_rfl) rfl (save1_ret (f := l[i]) hz hn hS) ?_
    rintro _ w ⟨rfl, hS⟩
    unfold m64_10
    refine cond_split (fun h1 => ?_) (fun h1 => ?_)
    · unfold m64_11
      exact ⟨⟨_, rfl, ⟨fun _ => ⟨_, List.getElem_mem hil, h1⟩, fun _ => by omega⟩⟩, hS⟩
    · unfold m64_8
      refine valP_ok (add_ok _ _ _ (by omega) (by omega) _) ?_
      refine ⟨⟨i + 1, rfl, by omega, fun j hj h3 => ?_, hS⟩, by simp [intOf]; omega⟩
      rcases Nat.lt_or_ge j i with g | g
      · exact hno j hj g
      · obtain rfl : j = i := by omega
        exact h1
  · unfold m64_2 m64_3
    refine ⟨⟨_, rfl, ⟨fun h1 => by omega, fun ⟨x, hx, h1⟩ => ?_⟩⟩, hS⟩
    obtain ⟨j, hj, rfl⟩ := List.mem_iff_getElem.1 hx
    exact absurd h1 (hno j hj (by omega))
theorem contains23_ret {l : List Fl} {A : Option Addr} {c : Nat} {name : ByteArray} {b4 : Nat} (hm : l.length ≤ 1000000) (hz : name.size ≤ 1000000) (hn : Res.cells b4 9 [.string name] ∈ L) (hE : Bes w0 F L 3 A l.length (l.flatMap encFl)) (hS : St w0 F w L) : Ret Tryz.prog 23 #[.slice A l.length c, .func (.func 25) #[] #[ptr b4]] w fun v w' => (∃ t : Bool, v = .bool t ∧ (t = true ↔ ∃ f ∈ l, f.name = newN name)) ∧ St w0 F w' L := by
  refine s23 _ _ ?_
  unfold m23
  unfold m23_0
  unfold m23_1
  refine callR (by kernel_rfl) (index64_ret hm hz hn hE hS) ?_
  rintro _ w ⟨⟨k, rfl, hk⟩, hS⟩
  refine valP_ok (geq_ok _ _ _ _ _ _ _) ?_
  unfold m23_2
  exact ⟨⟨_, rfl, by rw [decide_eq_true_eq]; exact hk⟩, hS⟩
end
def thenD (p : Dk × Int) (f : Dk → Dk × Int) : Dk × Int := if p.2 = 0 then f p.1 else p
def saveT (D : Dk) (name s : ByteArray) : Dk × Int := thenD (thenD (appD D (newN name) s) (fun D => workD D (newN name) syncR)) (fun D => renD D (newN name) name)
open Classical in
noncomputable def saveD (D : Dk) (name : ByteArray) (l : List Gt) : Dk × Int :=
  if MayL l ∧ NamedB name then thenD (if ∃ f ∈ D.L, f.name = newN name then workD D (newN name) removeR else (D, 0)) (fun D => saveT D name (sealS (encL l))) else (D, 1)
def loadL (D : Dk) (name : ByteArray) : List Gt × Int :=
  if NamedB name then (if (readV D name).2 = 0 then ((decS (readV D name).1).getD [], if (decS (readV D name).1).isSome then 0 else 2) else ([], (readV D name).2)) else ([], 1)
theorem Ok.then_ {size : Nat} {p : Dk × Int} {f : Dk → Dk × Int} (h : Ok size p.1) (hf : ∀ D, Ok size D → Ok size (f D).1) : Ok size (thenD p f).1 := by
  unfold thenD
  split
  · exact hf _ h
  · exact h
theorem Ok.saveT {size : Nat} {D : Dk} {name s : ByteArray} (h : Ok size D) : Ok size (saveT D name s).1 := Ok.then_ (Ok.then_ (Ok.app h) fun D h => Ok.sync h) fun D h => Ok.ren h
theorem Ok.save {size : Nat} {D : Dk} {name : ByteArray} {l : List Gt} (h : Ok size D) : Ok size (saveD D name l).1 := by
  unfold saveD
  split
  · refine Ok.then_ ?_ fun D h => Ok.saveT h
    split
    · exact Ok.remove h
    · exact h
  · exact h
section
variable {w0 w : World} {F : List Nat} {L : List Res} {b b4 size : Nat} {D : Dk} {name : ByteArray}
abbrev SvR (w0 : World) (F : List Nat) (L : List Res) (b : Nat) (p : Dk × Int) (v : Value) (w : World) : Prop := v = .int .i64 p.2 ∧ Dsk w0 F L b p.1 w
theorem Dsk.cell {cs : List Value} {t : TypeId} {v : Value} {i : Nat} (hD : Dsk w0 F (Res.cells b4 t cs :: L) b D w) (hi : cs[i]? = some v) : w.cell? ⟨b4, i, none⟩ = some v := by
  obtain ⟨L', hL, hS⟩ := hD.st
  exact cell_in hS (hL _ (.head _)) hi
theorem save_6 (hz : name.size ≤ 1000000) (hO : Ok size D) (hD : Dsk w0 F (Res.cells b4 9 [.string name] :: L) b D w) : m7_6 (SvR w0 F L b (renD D (newN name) name)) (ptr b) (ptr b4) w := by
  have e4 : (⟨#[46, 110, 101, 119]⟩ : ByteArray).size = 4 := rfl
  unfold m7_6
  refine valP_ok (ld9 (hD.cell (i := 0) rfl)) ?_
  refine valP_ok (sadd _ _ (by omega) _) ?_
  refine valP_ok (ld9 (hD.cell (i := 0) rfl)) ?_
  refine callR (by kernel_rfl) (rename_ret hO hD) ?_
  rintro _ w ⟨rfl, hD⟩
  unfold m7_7
  exact ⟨rfl, hD.pop⟩
theorem save_5 (hz : name.size ≤ 1000000) (hO : Ok size D) (hD : Dsk w0 F (Res.cells b4 9 [.string name] :: L) b D w) : m7_5 (SvR w0 F L b (thenD (workD D (newN name) syncR) fun D => renD D (newN name) name)) (ptr b) (ptr b4) w := by
  have e4 : (⟨#[46, 110, 101, 119]⟩ : ByteArray).size = 4 := rfl
  unfold m7_5
  refine valP_ok (ld9 (hD.cell (i := 0) rfl)) ?_
  refine valP_ok (sadd _ _ (by omega) _) ?_
  refine callR (by kernel_rfl) (sync_ret hO hD) ?_
  rintro _ w ⟨rfl, hD⟩
  have hO2 : Ok size (workD D (newN name) syncR).1 := Ok.sync hO
  have e : workD D (newN name) syncR = ((workD D (newN name) syncR).1, (workD D (newN name) syncR).2) := rfl
  change m7_8 _ _ _ (.int .i64 (workD D (newN name) syncR).2) w
  have hD : Dsk w0 F (Res.cells b4 9 [.string name] :: L) b (workD D (newN name) syncR).1 w := hD
  generalize workD D (newN name) syncR = p at *
  unfold m7_8
  refine valP_ok (ne26 _ _ _ _ _) ?_
  unfold m7_9 thenD
  refine cond_split (fun h => ?_) (fun h => ?_)
  · unfold m7_10
    rw [if_neg h]
    exact ⟨rfl, hD.pop⟩
  · rw [if_pos (Classical.not_not.1 h)]
    exact save_6 hz hO2 hD
theorem thenD_assoc (p : Dk × Int) (f g : Dk → Dk × Int) : thenD (thenD p f) g = thenD p (fun D => thenD (f D) g) := by
  unfold thenD
  by_cases h : p.2 = 0
  · rw [if_pos h, if_pos h]
  · rw [if_neg h, if_neg h, if_neg h]
theorem save_4 {s : ByteArray} (hs : s.size ≤ 1000000000) (hz : name.size ≤ 1000000) (hO : Ok size D) (hD : Dsk w0 F (Res.cells b4 9 [.string name] :: L) b D w) : m7_4 (SvR w0 F L b (saveT D name s)) (ptr b) (ptr b4) (.string s) w := by
  have e4 : (⟨#[46, 110, 101, 119]⟩ : ByteArray).size = 4 := rfl
  unfold m7_4 saveT
  rw [thenD_assoc]
  refine valP_ok (ld9 (hD.cell (i := 0) rfl)) ?_
  refine valP_ok (sadd _ _ (by omega) _) ?_
  refine callR (by kernel_rfl) (append_ret hO hs hD) ?_
  rintro _ w ⟨rfl, hD⟩
  have hO2 : Ok size (appD D (newN name) s).1 := Ok.app hO
  change m7_11 _ _ _ (.int .i64 (appD D (newN name) s).2) w
  have hD : Dsk w0 F (Res.cells b4 9 [.string name] :: L) b (appD D (newN name) s).1 w := hD
  generalize appD D (newN name) s = p at *
  unfold m7_11
  refine valP_ok (ne26 _ _ _ _ _) ?_
  unfold m7_12
  refine cond_split (fun h => ?_) (fun h => ?_)
  · unfold m7_13 thenD
    rw [if_neg h]
    exact ⟨rfl, hD.pop⟩
  · rw [thenD, if_pos (Classical.not_not.1 h)]
    exact save_5 hz hO2 hD
theorem save_ret {l : List Gt} {A : Option Addr} {c : Nat} (hm : l.length ≤ 100000) (hg : ∀ g ∈ l, GtS g) (hE : BG w0 F L A l) (hO : Ok size D) (hD : Dsk w0 F L b D w) : Ret Tryz.prog 7 #[ptr b, .string name, .slice A l.length c] w (SvR w0 F L b (saveD D name l)) := by
  have hlen := hO.len
  have e4 : (⟨#[46, 110, 101, 119]⟩ : ByteArray).size = 4 := rfl
  obtain ⟨mb, X, hX, hS⟩ := hD
  refine s7 _ _ _ ?_
  unfold m7
  unfold m7_0
  refine new_ok (bx9 rfl _) hS ?_
  intro b4 w hS
  have hD : Dsk w0 F (Res.cells b4 9 [.string name] :: L) b D w := Dsk.push hX hS
  clear hS hX
  unfold m7_1
  refine callR (by kernel_rfl) (hD.with fun L' hL' hS => encode_ret hm hg (hE.mono fun r hr => hL' _ (.tail _ hr)) hS) ?_
  rintro _ w ⟨rfl, hD⟩
  have leaf : ∀ (t : Bool) (s : ByteArray) w, Dsk w0 F (Res.cells b4 9 [.string name] :: L) b D w → (t = true ↔ ¬ (MayL l ∧ NamedB name)) → (t = false → s = sealS (encL l)) → m7_18 (SvR w0 F L b (saveD D name l)) (ptr b) (ptr b4) (.string s) (.bool t) w := fun t s w hD ht hs => by
    unfold m7_18
    cases t with
    | true =>
      refine cond_t rfl ?_
      unfold m7_19 saveD
      rw [if_neg (ht.1 rfl)]
      exact ⟨rfl, hD.pop⟩
    | false =>
      have h : MayL l ∧ NamedB name := Classical.byContradiction fun h => by have := ht.2 h; cases this
      obtain rfl := hs rfl
      have hz : name.size ≤ 1000000 := by have := h.2.2.1; omega
      have hsz : (sealS (encL l)).size ≤ 1000000000 := by
        have := encL_size h.1
        rw [sealS_size]
        omega
      refine cond_f rfl ?_
      unfold m7_3 saveD
      rw [if_pos h]
      refine callR (by kernel_rfl) (files_ret hO hD) ?_
      rintro _ w ⟨A1, c1, rfl, hD⟩
      refine valP_ok (mf25 _ _) ?_
      have hB : Bes w0 F (flRow A1 c1 D.L :: Res.cells b4 9 [.string name] :: L) 3 A1 D.L.length (D.L.flatMap encFl) := Bes.of_row 0 rfl
      refine callR (by kernel_rfl) (hD.with fun L' hL' hS => contains23_ret (by omega) hz (hL' _ (.tail _ (.head _))) (hB.mono hL') hS) ?_
      rintro _ w ⟨⟨t, rfl, ht⟩, hD⟩
      have hD := hD.pop
      unfold m7_14
      cases t with
      | true =>
        rw [if_pos (ht.1 rfl)]
        refine cond_t rfl ?_
        refine valP_ok (ld9 (hD.cell (i := 0) rfl)) ?_
        refine valP_ok (sadd _ _ (by omega) _) ?_
        refine callR (by kernel_rfl) (remove_ret hO hD) ?_
        rintro _ w ⟨rfl, hD⟩
        have hO2 : Ok size (workD D (newN name) removeR).1 := Ok.remove hO
        change m7_15 _ _ _ _ (.int .i64 (workD D (newN name) removeR).2) w
        have hD : Dsk w0 F (Res.cells b4 9 [.string name] :: L) b (workD D (newN name) removeR).1 w := hD
        generalize workD D (newN name) removeR = p at *
        unfold m7_15
        refine valP_ok (ne26 _ _ _ _ _) ?_
        unfold m7_16
        refine cond_split (fun h => ?_) (fun h => ?_)
        · unfold m7_17 thenD
          rw [if_neg h]
          exact ⟨rfl, hD.pop⟩
        · rw [thenD, if_pos (Classical.not_not.1 h)]
          exact save_4 hsz hz hO2 hD
      | false =>
        rw [if_neg (fun h => by have := ht.2 h; cases this)]
        refine cond_f rfl ?_
        rw [thenD, if_pos rfl]
        exact save_4 hsz hz hO hD
  unfold encV
  by_cases hM : MayL l
  · rw [if_pos hM]
    refine valP_ok (extract_ok _ 0 rfl _) ?_
    refine valP_ok (extract_ok _ 1 rfl _) ?_
    unfold m7_2
    refine valP_ok (ne26 _ _ _ _ _) ?_
    refine cond_split (fun h => absurd rfl h) (fun h => ?_)
    refine valP_ok (eq25s _ _ _ _) ?_
    refine pick_df (by first | assumption | omega) ?_
    refine cond_f rfl ?_
    refine valP_ok (ld9 (hD.cell (i := 0) rfl)) ?_
    refine callR (by kernel_rfl) (hD.with fun L' hL' hS => named22_ret hS) ?_
    rintro _ w ⟨rfl, hD⟩
    refine valP_ok (not_ok _ _) ?_
    refine pick_df (by first | assumption | omega) ?_
    exact leaf _ _ _ hD (by rw [decide_eq_true_eq]; exact ⟨fun h h1 => h h1.2, fun h h1 => h ⟨hM, h1⟩⟩) (fun _ => rfl)
  · rw [if_neg hM]
    refine valP_ok (extract_ok _ 0 rfl _) ?_
    refine valP_ok (extract_ok _ 1 rfl _) ?_
    unfold m7_2
    refine valP_ok (ne26 _ _ _ _ _) ?_
    refine cond_split (fun h => ?_) (fun h => absurd (Classical.not_not.1 h) (by decide))
    refine pick_dt (by first | assumption | omega) ?_
    refine cond_t rfl ?_
    refine pick_dt (by first | assumption | omega) ?_
    exact leaf true _ _ hD ⟨fun _ h => hM h.1, fun _ => rfl⟩ (fun h => (by cases h))
def LdR (w0 : World) (F : List Nat) (L : List Res) (b : Nat) (D : Dk) (p : List Gt × Int) (v : Value) (w : World) : Prop := ∃ A c, v = .tuple #[.slice A p.1.length c, .int .i64 p.2] ∧ Dsk w0 F (grow A c p.1 :: L) b D w
theorem LdR.none_ {e : Int} (hD : Dsk w0 F L b D w) : LdR w0 F L b D ([], e) (.tuple #[.slice none 0 0, .int .i64 e]) w := by
  obtain ⟨mb, X, hX, hS⟩ := hD
  exact ⟨none, 0, rfl, Dsk.push hX (hS.row_nil 58 4)⟩
theorem load_ret (hO : Ok size D) (hD : Dsk w0 F L b D w) : Ret Tryz.prog 10 #[ptr b, .string name] w (LdR w0 F L b D (loadL D name)) := by
  refine s10 _ _ ?_
  unfold m10
  unfold m10_0
  unfold m10_1
  refine valP_ok (eq25s _ _ _ _) ?_
  refine cond_f rfl ?_
  refine callR (by kernel_rfl) (hD.with fun L' hL' hS => named22_ret hS) ?_
  rintro _ w ⟨rfl, hD⟩
  refine valP_ok (not_ok _ _) ?_
  refine pick_f (by first | rfl | assumption) ?_
  unfold m10_8 loadL
  refine cond_split (fun h => ?_) (fun h => ?_)
  · unfold m10_9
    rw [if_neg h]
    exact LdR.none_ hD
  · rw [if_pos (Classical.not_not.1 h)]
    unfold m10_2
    refine callR (by kernel_rfl) (read_ret hO hD) ?_
    rintro _ w ⟨rfl, hD⟩
    have hsz : (readV D name).1.size ≤ 1048576 := by
      unfold readV
      split
      · cases hg : getF D.L name with
        | none => exact Nat.zero_le _
        | some f =>
          have := hO.sz (getF_some hg).1
          show (f.sure ++ f.loose).size ≤ _
          rw [ByteArray.size_append]
          exact this
      · exact Nat.zero_le _
    generalize readV D name = p at *
    refine valP_ok (extract_ok _ 0 rfl _) ?_
    refine valP_ok (extract_ok _ 1 rfl _) ?_
    unfold m10_3
    refine valP_ok (ne26 _ _ _ _ _) ?_
    unfold m10_6
    refine cond_split (fun h => ?_) (fun h => ?_)
    · unfold m10_7
      rw [if_neg h]
      exact LdR.none_ hD
    · rw [if_pos (Classical.not_not.1 h)]
      obtain ⟨mb, X, hX, hS⟩ := hD
      unfold m10_4
      refine callR (by kernel_rfl) (decode_ret (by unfold maxLen; omega) hS) ?_
      rintro _ w ⟨A, c, rfl, hS⟩
      refine valP_ok (extract_ok _ 0 rfl _) ?_
      refine valP_ok (extract_ok _ 1 rfl _) ?_
      unfold m10_5
      exact ⟨A, c, rfl, Dsk.push hX hS⟩
end
section
variable {k e t : TypeId} {b r : Nat} {A B : Assoc} {w w0 : World} {F : List Nat} {L : List Res} {K : Value → World → Prop}
def RangeT (k : TypeId) (b r : Nat) (A B : Assoc) (m : Nat) (w : World) : Prop := ∃ es left, w.ranges Tryz.prog k PtrE b r A.length (.map es) left m ∧ es.Perm (A.map ent) ∧ A.Nd ∧ (∀ p ∈ A, p.1.size ≤ maxLen) ∧ (∀ kl, left kl = true → ∃ p ∈ B, kl = .string (lst p.1)) ∧ (∀ p ∈ B, p ∈ A ∧ left (.string (lst p.1)) = true)
theorem RangeT.loc {w' : World} (h : ∀ g ∈ [b, r], w'.heap[g]? = w.heap[g]?) {m : Nat} (hM : RangeT k b r A B m w) : RangeT k b r A B m w' := by
  obtain ⟨es, left, ⟨xs, clock, since, seen, c0, hb, F, hs, hD, hr, rest⟩, h2⟩ := hM
  exact ⟨es, left, ⟨xs, clock, since, seen, c0, (h b (.head _)).trans hb, F, hs, hD, (h r (.tail _ (.head _))).trans hr, rest⟩, h2⟩
end
end Go.Proofs.YtcldjjmfpmkldaaGreatDoor.M
namespace Go.Proofs.YtcldjjmfpmkldaaGreatDoor.M
open Go.Proofs.YtcldjjmfpmkldaaGreatDoor.F
set_option linter.unusedVariables false
set_option maxRecDepth 100000
variable {R : VP} {Q : EQ}
def m46_14 (R : VP) (t2 : Value) (w : World) : Prop :=
  R t2 w
def m46_11 (R : VP) (K1 : VP) (t2 : Value) (w : World) : Prop :=
  R t2 w
def m46_8 (R : VP) (K1 : VP) (s0 i3 : Value) (w : World) : Prop :=
  valP Tryz.prog (binS BinOp.add 3 (tm 17) (ci 1) i3 (vi 1)) w fun t18 w =>
  K1 t18 w
def m46_10 (R : VP) (K1 : VP) (s0 i3 t44 : Value) (w : World) : Prop :=
  condP t44
  (m46_11 R K1 (Value.bool false) w)
  (m46_8 R K1 s0 i3 w)
def m46_9 (R : VP) (K1 : VP) (s0 i3 b4 : Value) (w : World) : Prop :=
  valP Tryz.prog (binS BinOp.geq 5 (tm 22) (Operand.const (Value.int IntKind.u8 97)) b4 (Value.int IntKind.u8 97)) w fun t23 w =>
  condP t23
  (valP Tryz.prog (binS BinOp.leq 5 (tm 25) (Operand.const (Value.int IntKind.u8 122)) b4 (Value.int IntKind.u8 122)) w fun t26 w =>
  pickP t23 t26 (Value.bool false) fun t27 =>
  condP t27
  (pickP t27 (Value.bool true) undef fun t35 =>
  pickP t35 (Value.bool true) undef fun t39 =>
  pickP t39 (Value.bool true) undef fun t43 =>
  valP Tryz.prog (Op.unary UnOp.not t43) w fun t44 w =>
  m46_10 R K1 s0 i3 t44 w)
  (valP Tryz.prog (binS BinOp.geq 5 (tm 29) (Operand.const (Value.int IntKind.u8 48)) b4 (Value.int IntKind.u8 48)) w fun t30 w =>
  condP t30
  (valP Tryz.prog (binS BinOp.leq 5 (tm 32) (Operand.const (Value.int IntKind.u8 57)) b4 (Value.int IntKind.u8 57)) w fun t33 w =>
  pickP t30 t33 (Value.bool false) fun t34 =>
  pickP t27 (Value.bool true) t34 fun t35 =>
  condP t35
  (pickP t35 (Value.bool true) undef fun t39 =>
  pickP t39 (Value.bool true) undef fun t43 =>
  valP Tryz.prog (Op.unary UnOp.not t43) w fun t44 w =>
  m46_10 R K1 s0 i3 t44 w)
  (valP Tryz.prog (binS BinOp.eql 5 (tm 37) (Operand.const (Value.int IntKind.u8 46)) b4 (Value.int IntKind.u8 46)) w fun t38 w =>
  pickP t35 (Value.bool true) t38 fun t39 =>
  condP t39
  (pickP t39 (Value.bool true) undef fun t43 =>
  valP Tryz.prog (Op.unary UnOp.not t43) w fun t44 w =>
  m46_10 R K1 s0 i3 t44 w)
  (valP Tryz.prog (binS BinOp.eql 5 (tm 41) (Operand.const (Value.int IntKind.u8 45)) b4 (Value.int IntKind.u8 45)) w fun t42 w =>
  pickP t39 (Value.bool true) t42 fun t43 =>
  valP Tryz.prog (Op.unary UnOp.not t43) w fun t44 w =>
  m46_10 R K1 s0 i3 t44 w)))
  (pickP t30 undef (Value.bool false) fun t34 =>
  pickP t27 (Value.bool true) t34 fun t35 =>
  valP Tryz.prog (binS BinOp.eql 5 (tm 37) (Operand.const (Value.int IntKind.u8 46)) b4 (Value.int IntKind.u8 46)) w fun t38 w =>
  pickP t35 (Value.bool true) t38 fun t39 =>
  condP t39
  (pickP t39 (Value.bool true) undef fun t43 =>
  valP Tryz.prog (Op.unary UnOp.not t43) w fun t44 w =>
  m46_10 R K1 s0 i3 t44 w)
  (valP Tryz.prog (binS BinOp.eql 5 (tm 41) (Operand.const (Value.int IntKind.u8 45)) b4 (Value.int IntKind.u8 45)) w fun t42 w =>
  pickP t39 (Value.bool true) t42 fun t43 =>
  valP Tryz.prog (Op.unary UnOp.not t43) w fun t44 w =>
  m46_10 R K1 s0 i3 t44 w))))
  (pickP t23 undef (Value.bool false) fun t27 =>
  valP Tryz.prog (binS BinOp.geq 5 (tm 29) (Operand.const (Value.int IntKind.u8 48)) b4 (Value.int IntKind.u8 48)) w fun t30 w =>
  condP t30
  (valP Tryz.prog (binS BinOp.leq 5 (tm 32) (Operand.const (Value.int IntKind.u8 57)) b4 (Value.int IntKind.u8 57)) w fun t33 w =>
  pickP t30 t33 (Value.bool false) fun t34 =>
  pickP t27 (Value.bool true) t34 fun t35 =>
  condP t35
  (pickP t35 (Value.bool true) undef fun t39 =>
  pickP t39 (Value.bool true) undef fun t43 =>
  valP Tryz.prog (Op.unary UnOp.not t43) w fun t44 w =>
  m46_10 R K1 s0 i3 t44 w)
  (valP Tryz.prog (binS BinOp.eql 5 (tm 37) (Operand.const (Value.int IntKind.u8 46)) b4 (Value.int IntKind.u8 46)) w fun t38 w =>
  pickP t35 (Value.bool true) t38 fun t39 =>
  condP t39
  (pickP t39 (Value.bool true) undef fun t43 =>
  valP Tryz.prog (Op.unary UnOp.not t43) w fun t44 w =>
  m46_10 R K1 s0 i3 t44 w)
  (valP Tryz.prog (binS BinOp.eql 5 (tm 41) (Operand.const (Value.int IntKind.u8 45)) b4 (Value.int IntKind.u8 45)) w fun t42 w =>
  pickP t39 (Value.bool true) t42 fun t43 =>
  valP Tryz.prog (Op.unary UnOp.not t43) w fun t44 w =>
  m46_10 R K1 s0 i3 t44 w)))
  (pickP t30 undef (Value.bool false) fun t34 =>
  pickP t27 (Value.bool true) t34 fun t35 =>
  valP Tryz.prog (binS BinOp.eql 5 (tm 37) (Operand.const (Value.int IntKind.u8 46)) b4 (Value.int IntKind.u8 46)) w fun t38 w =>
  pickP t35 (Value.bool true) t38 fun t39 =>
  condP t39
  (pickP t39 (Value.bool true) undef fun t43 =>
  valP Tryz.prog (Op.unary UnOp.not t43) w fun t44 w =>
  m46_10 R K1 s0 i3 t44 w)
  (valP Tryz.prog (binS BinOp.eql 5 (tm 41) (Operand.const (Value.int IntKind.u8 45)) b4 (Value.int IntKind.u8 45)) w fun t42 w =>
  pickP t39 (Value.bool true) t42 fun t43 =>
  valP Tryz.prog (Op.unary UnOp.not t43) w fun t44 w =>
  m46_10 R K1 s0 i3 t44 w)))
def m46_7 (R : VP) (K1 : VP) (s0 i3 : Value) (w : World) : Prop :=
  valP Tryz.prog (Instr.index 9 s0 i3) w fun t21 w =>
  m46_9 R K1 s0 i3 t21 w
def m46_4 (R : VP) (t2 : Value) (w : World) : Prop :=
  R t2 w
def m46_3 (R : VP) (w : World) : Prop :=
  m46_4 R (Value.bool true) w
def m46_12 (R : VP) (K1 : VP) (s0 i3 t16 : Value) (w : World) : Prop :=
  condP t16
  (m46_7 R K1 s0 i3 w)
  (m46_3 R w)
def m46_6 (R : VP) (K1 : VP) (s0 i3 : Value) (w : World) : Prop :=
  builtinP Tryz.prog Builtin.len #[9] 3 #[false] #[s0] w fun t15 w =>
  valP Tryz.prog (binS BinOp.lss 3 (tm 13) (tm 15) i3 t15) w fun t16 w =>
  m46_12 R K1 s0 i3 t16 w
def m46_5 (R : VP) (s0 i3 : Value) (w : World) : Prop :=
  loopP (fun (K1 : VP) (s : Value) w => m46_6 R K1 s0 s w) i3 w
def m46_2 (R : VP) (s0 : Value) (w : World) : Prop :=
  m46_5 R s0 (vi 0) w
def m46_13 (R : VP) (s0 t12 : Value) (w : World) : Prop :=
  condP t12
  (m46_14 R (Value.bool false) w)
  (m46_2 R s0 w)
def m46_1 (R : VP) (s0 : Value) (w : World) : Prop :=
  builtinP Tryz.prog Builtin.len #[9] 3 #[false] #[s0] w fun t6 w =>
  valP Tryz.prog (binS BinOp.eql 3 (tm 6) (ci 0) t6 (vi 0)) w fun t7 w =>
  condP t7
  (pickP t7 (Value.bool true) undef fun t12 =>
  m46_13 R s0 t12 w)
  (builtinP Tryz.prog Builtin.len #[9] 3 #[false] #[s0] w fun t10 w =>
  valP Tryz.prog (binS BinOp.gtr 3 (tm 10) (ci 24) t10 (vi 24)) w fun t11 w =>
  pickP t7 (Value.bool true) t11 fun t12 =>
  m46_13 R s0 t12 w)
def m46_0 (R : VP) (s0 : Value) (w : World) : Prop :=
  m46_1 R s0 w
abbrev W46 := cwp Tryz.prog (fun i => 0)
noncomputable def k46_0 := bodyOf Tryz.f46
noncomputable def k46_1 := c2 k46_0
noncomputable def k46_2 := c2 k46_1
noncomputable def k46_3 := c2 k46_2
noncomputable def k46_4 := c2 k46_3
noncomputable def k46_5 := c2 (c1 k46_2)
noncomputable def k46_6 := c1 (c1 k46_5)
noncomputable def k46_7 := c2 k46_6
noncomputable def k46_8 := c2 k46_7
noncomputable def k46_9 := c2 (c1 (c1 k46_7))
noncomputable def k46_10 := c2 k46_9
noncomputable def k46_11 := c2 (c1 k46_10)
noncomputable def k46_12 := c2 (c1 k46_6)
noncomputable def k46_13 := c2 (c1 k46_1)
noncomputable def k46_14 := c2 (c1 k46_13)
abbrev hR46 (R : VP) (Q : EQ) : Prop := ∀ e w, (R (e 2) w) → Q .ret e w
theorem s46_14 (hR : hR46 R Q) (e : Env) (w : World) (h : m46_14 R (e 2) w) : W46 k46_14 Q e w := by
  exact reA (hR _ _ h)
theorem s46_11 {K1 : VP} (hR : hR46 R Q) (e : Env) (w : World) (h : m46_11 R K1 (e 2) w) : W46 k46_11 Q e w := by
  exact reA (hR _ _ h)
theorem s46_8 {K1 : VP} (hN : ∀ e w, (K1 (e 3) w) → Q .normal e w) (e : Env) (w : World) (h : m46_8 R K1 (e 0) (e 3) w) : W46 k46_8 Q e w := by
  exact rgA 5 (fun e w => K1 (e 3) w) h hN
theorem s46_10 {K1 : VP} (hN : ∀ e w, (m46_8 R K1 (e 0) (e 3) w) → Q .normal e w) (hR : hR46 R Q) (e : Env) (w : World) (h : m46_10 R K1 (e 0) (e 3) (e 44) w) : W46 k46_10 Q e w := by
  refine coA (Operand.tmp 44) h (fun h1 => ?_) (fun h1 => ?_)
  · refine seA ?_
    exact rgA 8 (fun e w => m46_11 R K1 (e 2) w) h1 fun e w h => then_N (s46_11 hR e w h)
  · exact skA (hN _ _ h1)
theorem s46_9 {K1 : VP} (hN : ∀ e w, (m46_8 R K1 (e 0) (e 3) w) → Q .normal e w) (hR : hR46 R Q) (e : Env) (w : World) (h : m46_9 R K1 (e 0) (e 3) (e 4) w) : W46 k46_9 Q e w := by
  refine seA ?_
  have hN : ∀ e w, (m46_10 R K1 (e 0) (e 3) (e 44) w) → (thenE (W46 k46_10 Q) Q) .normal e w := fun e w h => then_N (s46_10 hN hR e w h)
  exact rgK 7 (fun e w => m46_10 R K1 (e 0) (e 3) (e 44) w) h hN
theorem s46_7 {K1 : VP} (hN : ∀ e w, (K1 (e 3) w) → Q .normal e w) (hR : hR46 R Q) (e : Env) (w : World) (h : m46_7 R K1 (e 0) (e 3) w) : W46 k46_7 Q e w := by
  refine seA ?_
  have hN : ∀ e w, (m46_8 R K1 (e 0) (e 3) w) → (thenE (W46 k46_8 Q) Q) .normal e w := fun e w h => then_N (s46_8 hN e w h)
  have hR : hR46 R (thenE (W46 k46_8 Q) Q) := fun e w h => then_R (hR e w h)
  refine block_ok 1 (by kernel_rfl) ?_
  have hN : ∀ e w, (m46_8 R K1 (e 0) (e 3) w) → (inBlockE 1 (thenE (W46 k46_8 Q) Q)) .normal e w := fun e w h => block_N (hN e w h)
  have hR : hR46 R (inBlockE 1 (thenE (W46 k46_8 Q) Q)) := fun e w h => block_R (hR e w h)
  refine seA ?_
  exact rgA 6 (fun e w => m46_9 R K1 (e 0) (e 3) (e 4) w) h fun e w h => then_N (s46_9 (R := R) (Q := (inBlockE 1 (thenE (W46 k46_8 Q) Q))) hN hR e w h)
theorem s46_4 (hR : hR46 R Q) (e : Env) (w : World) (h : m46_4 R (e 2) w) : W46 k46_4 Q e w := by
  exact reA (hR _ _ h)
theorem s46_3 (hR : hR46 R Q) (e : Env) (w : World) (h : m46_3 R w) : W46 k46_3 Q e w := by
  refine seA ?_
  exact rgA 9 (fun e w => m46_4 R (e 2) w) h fun e w h => then_N (s46_4 hR e w h)
theorem s46_12 {K1 : VP} (hN : ∀ e w, (m46_7 R K1 (e 0) (e 3) w) → Q .normal e w) (hX0 : ∀ e w, (m46_3 R w) → Q (.exit 0) e w) (e : Env) (w : World) (h : m46_12 R K1 (e 0) (e 3) (e 16) w) : W46 k46_12 Q e w := by
  refine coA (Operand.tmp 16) h (fun h1 => ?_) (fun h1 => ?_)
  · exact skA (hN _ _ h1)
  · exact exA 0 (hX0 _ _ h1)
theorem s46_6 {K1 : VP} (hN : ∀ e w, (K1 (e 3) w) → Q .normal e w) (hR : hR46 R Q) (hX0 : ∀ e w, (m46_3 R w) → Q (.exit 0) e w) (e : Env) (w : World) (h : m46_6 R K1 (e 0) (e 3) w) : W46 k46_6 Q e w := by
  refine seA ?_
  have hN : ∀ e w, (m46_7 R K1 (e 0) (e 3) w) → (thenE (W46 k46_7 Q) Q) .normal e w := fun e w h => then_N (s46_7 hN hR e w h)
  have hX0 : ∀ e w, (m46_3 R w) → (thenE (W46 k46_7 Q) Q) (.exit 0) e w := fun e w h => then_X (hX0 e w h)
  refine seA ?_
  exact rgA 4 (fun e w => m46_12 R K1 (e 0) (e 3) (e 16) w) h fun e w h => then_N (s46_12 hN hX0 e w h)
theorem s46_5 (hN : ∀ e w, (m46_3 R w) → Q .normal e w) (hR : hR46 R Q) (e : Env) (w : World) (h : m46_5 R (e 0) (e 3) w) : W46 k46_5 Q e w := by
  refine block_ok 0 (by kernel_rfl) ?_
  have hX0 : ∀ e w, (m46_3 R w) → (inBlockE 0 Q) (.exit 0) e w := fun e w h => inBlock_same (Q := Q) 0 (hN e w h)
  have hR : hR46 R (inBlockE 0 Q) := fun e w h => block_R (hR e w h)
  refine loop_ok' (fun (e : Env) => e 3) [0] (by kernel_rfl) (by kernel_rfl) h (fun K e' w' hk h' => ?_)
  have r0 : e' 0 = e 0 := hk 0 (by decide)
  have hR : hR46 R (thenE (fun (e : Env) w => K (e 3) w) (inBlockE 0 Q)) := fun e w h => then_R (hR e w h)
  have hX0 : ∀ e w, (m46_3 R w) → (thenE (fun (e : Env) w => K (e 3) w) (inBlockE 0 Q)) (.exit 0) e w := fun e w h => then_X (hX0 e w h)
  exact s46_6 (K1 := K) (fun _ _ h => then_N h) hR hX0 e' w' (by rw [r0]; exact h')
theorem s46_2 (hR : hR46 R Q) (e : Env) (w : World) (h : m46_2 R (e 0) w) : W46 k46_2 Q e w := by
  refine seA ?_
  have hN : ∀ e w, (m46_3 R w) → (thenE (W46 k46_3 Q) Q) .normal e w := fun e w h => then_N (s46_3 hR e w h)
  have hR : hR46 R (thenE (W46 k46_3 Q) Q) := fun e w h => then_R (hR e w h)
  refine seA ?_
  exact rgA 3 (fun e w => m46_5 R (e 0) (e 3) w) h fun e w h => then_N (s46_5 hN hR e w h)
theorem s46_13 (hN : ∀ e w, (m46_2 R (e 0) w) → Q .normal e w) (hR : hR46 R Q) (e : Env) (w : World) (h : m46_13 R (e 0) (e 12) w) : W46 k46_13 Q e w := by
  refine coA (Operand.tmp 12) h (fun h1 => ?_) (fun h1 => ?_)
  · refine seA ?_
    exact rgA 2 (fun e w => m46_14 R (e 2) w) h1 fun e w h => then_N (s46_14 hR e w h)
  · exact skA (hN _ _ h1)
theorem s46_1 (hR : hR46 R Q) (e : Env) (w : World) (h : m46_1 R (e 0) w) : W46 k46_1 Q e w := by
  refine seA ?_
  have hN : ∀ e w, (m46_2 R (e 0) w) → (thenE (W46 k46_2 Q) Q) .normal e w := fun e w h => then_N (s46_2 hR e w h)
  have hR : hR46 R (thenE (W46 k46_2 Q) Q) := fun e w h => then_R (hR e w h)
  refine seA ?_
  exact rgA 1 (fun e w => m46_13 R (e 0) (e 12) w) h fun e w h => then_N (s46_13 hN hR e w h)
theorem s46_0 (hR : hR46 R Q) (e : Env) (w : World) (h : m46_0 R (e 0) w) : W46 k46_0 Q e w := by
  refine seA ?_
  exact rgA 0 (fun e w => m46_1 R (e 0) w) h fun e w h => then_N (s46_1 hR e w h)
abbrev m46 (R : VP) (s0 : Value) (w : World) : Prop := m46_0 R s0 w
theorem s46 (s0 : Value) {R : VP} {w : World} (h : m46 R s0 w) :
    Calls Tryz.prog 46 #[s0] w fun e w' => ∃ v, e = .returned v ∧ R v w' :=
  calls_of_cwp (st := (fun i => 0)) (c := k46_0) (by kernel_rfl) Tryz.func46 (by kernel_rfl) (Nat.le_of_ble_eq_true (by kernel_rfl)) (by kernel_rfl)
    (s46_0 (R := R) (Q := endE Tryz.prog Tryz.f46 R) (fun e w h => kcast (by kernel_rfl) h) (argsE #[s0]) w (kcast (by kernel_rfl) h))
def m47_9 (R : VP) (K1 : VP) (t4 : Value) (w : World) : Prop :=
  R t4 w
def m47_7 (R : VP) (K1 : VP) (d0 name1 i5 : Value) (w : World) : Prop :=
  valP Tryz.prog (binS BinOp.add 3 (tm 13) (ci 1) i5 (vi 1)) w fun t14 w =>
  K1 t14 w
def m47_8 (R : VP) (K1 : VP) (d0 name1 i5 t24 : Value) (w : World) : Prop :=
  condP t24
  (m47_9 R K1 i5 w)
  (m47_7 R K1 d0 name1 i5 w)
def m47_6 (R : VP) (K1 : VP) (d0 name1 i5 : Value) (w : World) : Prop :=
  nilCheckP d0 fun t16 =>
  valP Tryz.prog (Instr.fieldAt 41 t16 0) w fun t17 w =>
  valP Tryz.prog (Instr.loadAt 39 t17) w fun t18 w =>
  valP Tryz.prog (Instr.indexAt 39 t18 i5) w fun t20 w =>
  valP Tryz.prog (Instr.fieldAt 67 t20 0) w fun t21 w =>
  valP Tryz.prog (Instr.loadAt 9 t21) w fun t22 w =>
  valP Tryz.prog (binS BinOp.eql 9 (tm 22) (tm 23) t22 name1) w fun t24 w =>
  m47_8 R K1 d0 name1 i5 t24 w
def m47_3 (R : VP) (t4 : Value) (w : World) : Prop :=
  R t4 w
def m47_2 (R : VP) (w : World) : Prop :=
  m47_3 R (vi (-1)) w
def m47_10 (R : VP) (K1 : VP) (d0 name1 i5 t12 : Value) (w : World) : Prop :=
  condP t12
  (m47_6 R K1 d0 name1 i5 w)
  (m47_2 R w)
def m47_5 (R : VP) (K1 : VP) (d0 name1 i5 : Value) (w : World) : Prop :=
  nilCheckP d0 fun t8 =>
  valP Tryz.prog (Instr.fieldAt 41 t8 0) w fun t9 w =>
  valP Tryz.prog (Instr.loadAt 39 t9) w fun t10 w =>
  builtinP Tryz.prog Builtin.len #[39] 3 #[false] #[t10] w fun t11 w =>
  valP Tryz.prog (binS BinOp.lss 3 (tm 6) (tm 11) i5 t11) w fun t12 w =>
  m47_10 R K1 d0 name1 i5 t12 w
def m47_4 (R : VP) (d0 name1 i5 : Value) (w : World) : Prop :=
  loopP (fun (K1 : VP) (s : Value) w => m47_5 R K1 d0 name1 s w) i5 w
def m47_1 (R : VP) (d0 name1 : Value) (w : World) : Prop :=
  m47_4 R d0 name1 (vi 0) w
def m47_0 (R : VP) (d0 name1 : Value) (w : World) : Prop :=
  m47_1 R d0 name1 w
abbrev W47 := cwp Tryz.prog (fun i => 0)
noncomputable def k47_0 := bodyOf Tryz.f47
noncomputable def k47_1 := c2 k47_0
noncomputable def k47_2 := c2 k47_1
noncomputable def k47_3 := c2 k47_2
noncomputable def k47_4 := c2 (c1 k47_1)
noncomputable def k47_5 := c1 (c1 k47_4)
noncomputable def k47_6 := c2 k47_5
noncomputable def k47_7 := c2 k47_6
noncomputable def k47_8 := c2 (c1 (c1 k47_6))
noncomputable def k47_9 := c2 (c1 k47_8)
noncomputable def k47_10 := c2 (c1 k47_5)
abbrev hR47 (R : VP) (Q : EQ) : Prop := ∀ e w, (R (e 4) w) → Q .ret e w
theorem s47_9 {K1 : VP} (hR : hR47 R Q) (e : Env) (w : World) (h : m47_9 R K1 (e 4) w) : W47 k47_9 Q e w := by
  exact reA (hR _ _ h)
theorem s47_7 {K1 : VP} (hN : ∀ e w, (K1 (e 5) w) → Q .normal e w) (e : Env) (w : World) (h : m47_7 R K1 (e 0) (e 1) (e 5) w) : W47 k47_7 Q e w := by
  exact rgA 3 (fun e w => K1 (e 5) w) h hN
theorem s47_8 {K1 : VP} (hN : ∀ e w, (m47_7 R K1 (e 0) (e 1) (e 5) w) → Q .normal e w) (hR : hR47 R Q) (e : Env) (w : World) (h : m47_8 R K1 (e 0) (e 1) (e 5) (e 24) w) : W47 k47_8 Q e w := by
  refine coA (Operand.tmp 24) h (fun h1 => ?_) (fun h1 => ?_)
  · refine seA ?_
    exact rgA 5 (fun e w => m47_9 R K1 (e 4) w) h1 fun e w h => then_N (s47_9 hR e w h)
  · exact skA (hN _ _ h1)
theorem s47_6 {K1 : VP} (hN : ∀ e w, (K1 (e 5) w) → Q .normal e w) (hR : hR47 R Q) (e : Env) (w : World) (h : m47_6 R K1 (e 0) (e 1) (e 5) w) : W47 k47_6 Q e w := by
  refine seA ?_
  have hN : ∀ e w, (m47_7 R K1 (e 0) (e 1) (e 5) w) → (thenE (W47 k47_7 Q) Q) .normal e w := fun e w h => then_N (s47_7 hN e w h)
  have hR : hR47 R (thenE (W47 k47_7 Q) Q) := fun e w h => then_R (hR e w h)
  refine block_ok 1 (by kernel_rfl) ?_
  have hN : ∀ e w, (m47_7 R K1 (e 0) (e 1) (e 5) w) → (inBlockE 1 (thenE (W47 k47_7 Q) Q)) .normal e w := fun e w h => block_N (hN e w h)
  have hR : hR47 R (inBlockE 1 (thenE (W47 k47_7 Q) Q)) := fun e w h => block_R (hR e w h)
  refine seA ?_
  exact rgA 4 (fun e w => m47_8 R K1 (e 0) (e 1) (e 5) (e 24) w) h fun e w h => then_N (s47_8 (R := R) (Q := (inBlockE 1 (thenE (W47 k47_7 Q) Q))) hN hR e w h)
theorem s47_3 (hR : hR47 R Q) (e : Env) (w : World) (h : m47_3 R (e 4) w) : W47 k47_3 Q e w := by
  exact reA (hR _ _ h)
theorem s47_2 (hR : hR47 R Q) (e : Env) (w : World) (h : m47_2 R w) : W47 k47_2 Q e w := by
  refine seA ?_
  exact rgA 6 (fun e w => m47_3 R (e 4) w) h fun e w h => then_N (s47_3 hR e w h)
theorem s47_10 {K1 : VP} (hN : ∀ e w, (m47_6 R K1 (e 0) (e 1) (e 5) w) → Q .normal e w) (hX0 : ∀ e w, (m47_2 R w) → Q (.exit 0) e w) (e : Env) (w : World) (h : m47_10 R K1 (e 0) (e 1) (e 5) (e 12) w) : W47 k47_10 Q e w := by
  refine coA (Operand.tmp 12) h (fun h1 => ?_) (fun h1 => ?_)
  · exact skA (hN _ _ h1)
  · exact exA 0 (hX0 _ _ h1)
theorem s47_5 {K1 : VP} (hN : ∀ e w, (K1 (e 5) w) → Q .normal e w) (hR : hR47 R Q) (hX0 : ∀ e w, (m47_2 R w) → Q (.exit 0) e w) (e : Env) (w : World) (h : m47_5 R K1 (e 0) (e 1) (e 5) w) : W47 k47_5 Q e w := by
  refine seA ?_
  have hN : ∀ e w, (m47_6 R K1 (e 0) (e 1) (e 5) w) → (thenE (W47 k47_6 Q) Q) .normal e w := fun e w h => then_N (s47_6 hN hR e w h)
  have hX0 : ∀ e w, (m47_2 R w) → (thenE (W47 k47_6 Q) Q) (.exit 0) e w := fun e w h => then_X (hX0 e w h)
  refine seA ?_
  exact rgA 2 (fun e w => m47_10 R K1 (e 0) (e 1) (e 5) (e 12) w) h fun e w h => then_N (s47_10 hN hX0 e w h)
theorem s47_4 (hN : ∀ e w, (m47_2 R w) → Q .normal e w) (hR : hR47 R Q) (e : Env) (w : World) (h : m47_4 R (e 0) (e 1) (e 5) w) : W47 k47_4 Q e w := by
  refine block_ok 0 (by kernel_rfl) ?_
  have hX0 : ∀ e w, (m47_2 R w) → (inBlockE 0 Q) (.exit 0) e w := fun e w h => inBlock_same (Q := Q) 0 (hN e w h)
  have hR : hR47 R (inBlockE 0 Q) := fun e w h => block_R (hR e w h)
  refine loop_ok' (fun (e : Env) => e 5) [0, 1] (by kernel_rfl) (by kernel_rfl) h (fun K e' w' hk h' => ?_)
  have r0 : e' 0 = e 0 := hk 0 (by decide)
  have r1 : e' 1 = e 1 := hk 1 (by decide)
  have hR : hR47 R (thenE (fun (e : Env) w => K (e 5) w) (inBlockE 0 Q)) := fun e w h => then_R (hR e w h)
  have hX0 : ∀ e w, (m47_2 R w) → (thenE (fun (e : Env) w => K (e 5) w) (inBlockE 0 Q)) (.exit 0) e w := fun e w h => then_X (hX0 e w h)
  exact s47_5 (K1 := K) (fun _ _ h => then_N h) hR hX0 e' w' (by rw [r0, r1]; exact h')
theorem s47_1 (hR : hR47 R Q) (e : Env) (w : World) (h : m47_1 R (e 0) (e 1) w) : W47 k47_1 Q e w := by
  refine seA ?_
  have hN : ∀ e w, (m47_2 R w) → (thenE (W47 k47_2 Q) Q) .normal e w := fun e w h => then_N (s47_2 hR e w h)
  have hR : hR47 R (thenE (W47 k47_2 Q) Q) := fun e w h => then_R (hR e w h)
  refine seA ?_
  exact rgA 1 (fun e w => m47_4 R (e 0) (e 1) (e 5) w) h fun e w h => then_N (s47_4 hN hR e w h)
theorem s47_0 (hR : hR47 R Q) (e : Env) (w : World) (h : m47_0 R (e 0) (e 1) w) : W47 k47_0 Q e w := by
  refine seA ?_
  exact rgA 0 (fun e w => m47_1 R (e 0) (e 1) w) h fun e w h => then_N (s47_1 hR e w h)
abbrev m47 (R : VP) (d0 name1 : Value) (w : World) : Prop := m47_0 R d0 name1 w
theorem s47 (d0 name1 : Value) {R : VP} {w : World} (h : m47 R d0 name1 w) :
    Calls Tryz.prog 47 #[d0, name1] w fun e w' => ∃ v, e = .returned v ∧ R v w' :=
  calls_of_cwp (st := (fun i => 0)) (c := k47_0) (by kernel_rfl) Tryz.func47 (by kernel_rfl) (Nat.le_of_ble_eq_true (by kernel_rfl)) (by kernel_rfl)
    (s47_0 (R := R) (Q := endE Tryz.prog Tryz.f47 R) (fun e w h => kcast (by kernel_rfl) h) (argsE #[d0, name1]) w (kcast (by kernel_rfl) h))
def m48_6 (R : VP) (K1 : VP) (n0 k3 : Value) (w : World) : Prop :=
  valP Tryz.prog (binS BinOp.add 3 (tm 8) (ci 1) k3 (vi 1)) w fun t9 w =>
  K1 t9 w
def m48_4 (R : VP) (t2 : Value) (w : World) : Prop :=
  R t2 w
def m48_3 (R : VP) (k3 : Value) (w : World) : Prop :=
  m48_4 R k3 w
def m48_7 (R : VP) (K1 : VP) (n0 k3 t7 : Value) (w : World) : Prop :=
  condP t7
  (m48_6 R K1 n0 k3 w)
  (m48_3 R k3 w)
def m48_5 (R : VP) (K1 : VP) (n0 k3 : Value) (w : World) : Prop :=
  valP Tryz.prog (binS BinOp.mul 3 (tm 4) (ci 64) k3 (vi 64)) w fun t5 w =>
  valP Tryz.prog (binS BinOp.lss 3 (tm 5) (tm 6) t5 n0) w fun t7 w =>
  m48_7 R K1 n0 k3 t7 w
def m48_2 (R : VP) (n0 k3 : Value) (w : World) : Prop :=
  loopP (fun (K1 : VP) (s : Value) w => m48_5 R K1 n0 s w) k3 w
def m48_1 (R : VP) (n0 : Value) (w : World) : Prop :=
  m48_2 R n0 (vi 1) w
def m48_0 (R : VP) (n0 : Value) (w : World) : Prop :=
  m48_1 R n0 w
abbrev W48 := cwp Tryz.prog (fun i => 0)
noncomputable def k48_0 := bodyOf Tryz.f48
noncomputable def k48_1 := c2 k48_0
noncomputable def k48_2 := c2 k48_1
noncomputable def k48_3 := c2 k48_2
noncomputable def k48_4 := c2 k48_3
noncomputable def k48_5 := c1 (c1 (c1 k48_2))
noncomputable def k48_6 := c2 k48_5
noncomputable def k48_7 := c2 (c1 k48_5)
theorem s48_6 {K1 : VP} (hN : ∀ e w, (K1 (e 3) w) → Q .normal e w) (e : Env) (w : World) (h : m48_6 R K1 (e 0) (e 3) w) : W48 k48_6 Q e w := by
  refine block_ok 1 (by kernel_rfl) ?_
  exact rgA 3 (fun e w => K1 (e 3) w) h fun e w h => block_N (hN e w h)
abbrev hR48 (R : VP) (Q : EQ) : Prop := ∀ e w, (R (e 2) w) → Q .ret e w
theorem s48_4 (hR : hR48 R Q) (e : Env) (w : World) (h : m48_4 R (e 2) w) : W48 k48_4 Q e w := by
  exact reA (hR _ _ h)
theorem s48_3 (hR : hR48 R Q) (e : Env) (w : World) (h : m48_3 R (e 3) w) : W48 k48_3 Q e w := by
  refine seA ?_
  exact rgA 4 (fun e w => m48_4 R (e 2) w) h fun e w h => then_N (s48_4 hR e w h)
theorem s48_7 {K1 : VP} (hN : ∀ e w, (m48_6 R K1 (e 0) (e 3) w) → Q .normal e w) (hX0 : ∀ e w, (m48_3 R (e 3) w) → Q (.exit 0) e w) (e : Env) (w : World) (h : m48_7 R K1 (e 0) (e 3) (e 7) w) : W48 k48_7 Q e w := by
  refine coA (Operand.tmp 7) h (fun h1 => ?_) (fun h1 => ?_)
  · exact skA (hN _ _ h1)
  · exact exA 0 (hX0 _ _ h1)
theorem s48_5 {K1 : VP} (hN : ∀ e w, (K1 (e 3) w) → Q .normal e w) (hX0 : ∀ e w, (m48_3 R (e 3) w) → Q (.exit 0) e w) (e : Env) (w : World) (h : m48_5 R K1 (e 0) (e 3) w) : W48 k48_5 Q e w := by
  refine seA ?_
  have hN : ∀ e w, (m48_6 R K1 (e 0) (e 3) w) → (thenE (W48 k48_6 Q) Q) .normal e w := fun e w h => then_N (s48_6 hN e w h)
  have hX0 : ∀ e w, (m48_3 R (e 3) w) → (thenE (W48 k48_6 Q) Q) (.exit 0) e w := fun e w h => then_X (hX0 e w h)
  refine seA ?_
  exact rgA 2 (fun e w => m48_7 R K1 (e 0) (e 3) (e 7) w) h fun e w h => then_N (s48_7 hN hX0 e w h)
theorem s48_2 (hR : hR48 R Q) (e : Env) (w : World) (h : m48_2 R (e 0) (e 3) w) : W48 k48_2 Q e w := by
  refine seA ?_
  have hN : ∀ e w, (m48_3 R (e 3) w) → (thenE (W48 k48_3 Q) Q) .normal e w := fun e w h => then_N (s48_3 hR e w h)
  refine block_ok 0 (by kernel_rfl) ?_
  have hX0 : ∀ e w, (m48_3 R (e 3) w) → (inBlockE 0 (thenE (W48 k48_3 Q) Q)) (.exit 0) e w := fun e w h => inBlock_same (Q := (thenE (W48 k48_3 Q) Q)) 0 (hN e w h)
  refine loop_ok' (fun (e : Env) => e 3) [0] (by kernel_rfl) (by kernel_rfl) h (fun K e' w' hk h' => ?_)
  have r0 : e' 0 = e 0 := hk 0 (by decide)
  have hX0 : ∀ e w, (m48_3 R (e 3) w) → (thenE (fun (e : Env) w => K (e 3) w) (inBlockE 0 (thenE (W48 k48_3 Q) Q))) (.exit 0) e w := fun e w h => then_X (hX0 e w h)
  exact s48_5 (K1 := K) (fun _ _ h => then_N h) hX0 e' w' (by rw [r0]; exact h')
theorem s48_1 (hR : hR48 R Q) (e : Env) (w : World) (h : m48_1 R (e 0) w) : W48 k48_1 Q e w := by
  refine seA ?_
  exact rgA 1 (fun e w => m48_2 R (e 0) (e 3) w) h fun e w h => then_N (s48_2 hR e w h)
theorem s48_0 (hR : hR48 R Q) (e : Env) (w : World) (h : m48_0 R (e 0) w) : W48 k48_0 Q e w := by
  refine seA ?_
  exact rgA 0 (fun e w => m48_1 R (e 0) w) h fun e w h => then_N (s48_1 hR e w h)
abbrev m48 (R : VP) (n0 : Value) (w : World) : Prop := m48_0 R n0 w
theorem s48 (n0 : Value) {R : VP} {w : World} (h : m48 R n0 w) :
    Calls Tryz.prog 48 #[n0] w fun e w' => ∃ v, e = .returned v ∧ R v w' :=
  calls_of_cwp (st := (fun i => 0)) (c := k48_0) (by kernel_rfl) Tryz.func48 (by kernel_rfl) (Nat.le_of_ble_eq_true (by kernel_rfl)) (by kernel_rfl)
    (s48_0 (R := R) (Q := endE Tryz.prog Tryz.f48 R) (fun e w h => kcast (by kernel_rfl) h) (argsE #[n0]) w (kcast (by kernel_rfl) h))
def m83_8 (R : VP) (K1 : (Value × Value) → World → Prop) (d0 n3 i4 : Value) (w : World) : Prop :=
  valP Tryz.prog (binS BinOp.add 3 (tm 12) (ci 1) i4 (vi 1)) w fun t13 w =>
  K1 (n3, t13) w
def m83_7 (R : VP) (K1 : (Value × Value) → World → Prop) (d0 n3 i4 : Value) (w : World) : Prop :=
  anyDraw w fun w =>
  heldP w fun J =>
  nilCheckP d0 fun t16 =>
  valJ Tryz.prog J (Instr.fieldAt 41 t16 0) fun t17 =>
  valJ Tryz.prog J (Instr.loadAt 39 t17) fun t18 =>
  valJ Tryz.prog J (Instr.indexAt 39 t18 i4) fun t20 =>
  valJ Tryz.prog J (Instr.fieldAt 67 t20 1) fun t21 =>
  valJ Tryz.prog J (Instr.loadAt 9 t21) fun t22 =>
  builtinJ Tryz.prog J Builtin.len #[9] 3 #[false] #[t22] fun t23 =>
  nilCheckP d0 fun t25 =>
  valJ Tryz.prog J (Instr.fieldAt 41 t25 0) fun t26 =>
  valJ Tryz.prog J (Instr.loadAt 39 t26) fun t27 =>
  valJ Tryz.prog J (Instr.indexAt 39 t27 i4) fun t29 =>
  valJ Tryz.prog J (Instr.fieldAt 67 t29 2) fun t30 =>
  valJ Tryz.prog J (Instr.loadAt 9 t30) fun t31 =>
  builtinJ Tryz.prog J Builtin.len #[9] 3 #[false] #[t31] fun t32 =>
  valJ Tryz.prog J (binS BinOp.add 3 (tm 23) (tm 32) t23 t32) fun t33 =>
  callP Tryz.prog (fnV 48) #[t33] w fun t34 w =>
  stayP J w
  (valJ Tryz.prog J (binS BinOp.add 3 (tm 14) (tm 34) n3 t34) fun t35 =>
  m83_8 R K1 d0 t35 i4 w)
def m83_4 (R : VP) (t2 : Value) (w : World) : Prop :=
  R t2 w
def m83_3 (R : VP) (n3 : Value) (w : World) : Prop :=
  m83_4 R n3 w
def m83_9 (R : VP) (K1 : (Value × Value) → World → Prop) (d0 n3 i4 t11 : Value) (w : World) : Prop :=
  condP t11
  (m83_7 R K1 d0 n3 i4 w)
  (m83_3 R n3 w)
def m83_6 (R : VP) (K1 : (Value × Value) → World → Prop) (d0 n3 i4 : Value) (w : World) : Prop :=
  nilCheckP d0 fun t7 =>
  valP Tryz.prog (Instr.fieldAt 41 t7 0) w fun t8 w =>
  valP Tryz.prog (Instr.loadAt 39 t8) w fun t9 w =>
  builtinP Tryz.prog Builtin.len #[39] 3 #[false] #[t9] w fun t10 w =>
  valP Tryz.prog (binS BinOp.lss 3 (tm 5) (tm 10) i4 t10) w fun t11 w =>
  m83_9 R K1 d0 n3 i4 t11 w
def m83_5 (R : VP) (d0 n3 i4 : Value) (w : World) : Prop :=
  loopP (fun (K1 : (Value × Value) → World → Prop) (s : Value × Value) w => m83_6 R K1 d0 s.1 s.2 w) (n3, i4) w
def m83_2 (R : VP) (d0 n3 : Value) (w : World) : Prop :=
  m83_5 R d0 n3 (vi 0) w
def m83_1 (R : VP) (d0 : Value) (w : World) : Prop :=
  m83_2 R d0 (vi 0) w
def m83_0 (R : VP) (d0 : Value) (w : World) : Prop :=
  m83_1 R d0 w
abbrev W83 := cwp Tryz.prog (fun i => 0)
noncomputable def k83_0 := bodyOf Tryz.f83
noncomputable def k83_1 := c2 k83_0
noncomputable def k83_2 := c2 k83_1
noncomputable def k83_3 := c2 k83_2
noncomputable def k83_4 := c2 k83_3
noncomputable def k83_5 := c2 (c1 k83_2)
noncomputable def k83_6 := c1 (c1 k83_5)
noncomputable def k83_7 := c2 k83_6
noncomputable def k83_8 := c2 k83_7
noncomputable def k83_9 := c2 (c1 k83_6)
theorem s83_8 {K1 : (Value × Value) → World → Prop} (hN : ∀ e w, (K1 ((e 3), (e 4)) w) → Q .normal e w) (e : Env) (w : World) (h : m83_8 R K1 (e 0) (e 3) (e 4) w) : W83 k83_8 Q e w := by
  exact rgA 4 (fun e w => K1 ((e 3), (e 4)) w) h hN
theorem s83_7 {K1 : (Value × Value) → World → Prop} (hN : ∀ e w, (K1 ((e 3), (e 4)) w) → Q .normal e w) (e : Env) (w : World) (h : m83_7 R K1 (e 0) (e 3) (e 4) w) : W83 k83_7 Q e w := by
  refine seA ?_
  have hN : ∀ e w, (m83_8 R K1 (e 0) (e 3) (e 4) w) → (thenE (W83 k83_8 Q) Q) .normal e w := fun e w h => then_N (s83_8 hN e w h)
  refine block_ok 1 (by kernel_rfl) ?_
  have hN : ∀ e w, (m83_8 R K1 (e 0) (e 3) (e 4) w) → (inBlockE 1 (thenE (W83 k83_8 Q) Q)) .normal e w := fun e w h => block_N (hN e w h)
  exact treeJ_ok 5 23 (bt 23 0) (.take 0 (bt 23 1) (.take 1 (bt 23 3) (.take 2 (bt 23 7) (.take 3 (bt 23 15) (.take 4 (bt 23 31) (.take 5 (bt 23 63) (.take 6 (bt 23 127) (.take 7 (bt 23 255) (.take 8 (bt 23 511) (.take 9 (bt 23 1023) (.take 10 (bt 23 2047) (.take 11 (bt 23 4095) (.take 12 (bt 23 8191) (.take 13 (bt 23 16383) (.take 14 (bt 23 32767) (.take 15 (bt 23 65535) (.take 16 (bt 23 131071) (.take 17 (bt 23 262143) (.take 18 (bt 23 524287) (.take 19 (bt 23 1048575) (.alt 20 (bt 23 2097151) (.take 21 (bt 23 4194303) (.take 22 (bt 23 8388607) .done)) .stop))))))))))))))))))))) (fun e w => m83_8 R K1 (e 0) (e 3) (e 4) w) (by kernel_rfl) (by kernel_rfl) (by kernel_rfl) (by kernel_rfl) (by kernel_rfl) (by kernel_rfl) (kcast (by kernel_rfl) h) hN (by kernel_rfl)
abbrev hR83 (R : VP) (Q : EQ) : Prop := ∀ e w, (R (e 2) w) → Q .ret e w
theorem s83_4 (hR : hR83 R Q) (e : Env) (w : World) (h : m83_4 R (e 2) w) : W83 k83_4 Q e w := by
  exact reA (hR _ _ h)
theorem s83_3 (hR : hR83 R Q) (e : Env) (w : World) (h : m83_3 R (e 3) w) : W83 k83_3 Q e w := by
  refine seA ?_
  exact rgA 6 (fun e w => m83_4 R (e 2) w) h fun e w h => then_N (s83_4 hR e w h)
theorem s83_9 {K1 : (Value × Value) → World → Prop} (hN : ∀ e w, (m83_7 R K1 (e 0) (e 3) (e 4) w) → Q .normal e w) (hX0 : ∀ e w, (m83_3 R (e 3) w) → Q (.exit 0) e w) (e : Env) (w : World) (h : m83_9 R K1 (e 0) (e 3) (e 4) (e 11) w) : W83 k83_9 Q e w := by
  refine coA (Operand.tmp 11) h (fun h1 => ?_) (fun h1 => ?_)
  · exact skA (hN _ _ h1)
  · exact exA 0 (hX0 _ _ h1)
theorem s83_6 {K1 : (Value × Value) → World → Prop} (hN : ∀ e w, (K1 ((e 3), (e 4)) w) → Q .normal e w) (hX0 : ∀ e w, (m83_3 R (e 3) w) → Q (.exit 0) e w) (e : Env) (w : World) (h : m83_6 R K1 (e 0) (e 3) (e 4) w) : W83 k83_6 Q e w := by
  refine seA ?_
  have hN : ∀ e w, (m83_7 R K1 (e 0) (e 3) (e 4) w) → (thenE (W83 k83_7 Q) Q) .normal e w := fun e w h => then_N (s83_7 hN e w h)
  have hX0 : ∀ e w, (m83_3 R (e 3) w) → (thenE (W83 k83_7 Q) Q) (.exit 0) e w := fun e w h => then_X (hX0 e w h)
  refine seA ?_
  exact rgA 3 (fun e w => m83_9 R K1 (e 0) (e 3) (e 4) (e 11) w) h fun e w h => then_N (s83_9 hN hX0 e w h)
theorem s83_5 (hN : ∀ e w, (m83_3 R (e 3) w) → Q .normal e w) (e : Env) (w : World) (h : m83_5 R (e 0) (e 3) (e 4) w) : W83 k83_5 Q e w := by
  refine block_ok 0 (by kernel_rfl) ?_
  have hX0 : ∀ e w, (m83_3 R (e 3) w) → (inBlockE 0 Q) (.exit 0) e w := fun e w h => inBlock_same (Q := Q) 0 (hN e w h)
  refine loop_ok' (fun (e : Env) => (e 3, e 4)) [0] (by kernel_rfl) (by kernel_rfl) h (fun K e' w' hk h' => ?_)
  have r0 : e' 0 = e 0 := hk 0 (by decide)
  have hX0 : ∀ e w, (m83_3 R (e 3) w) → (thenE (fun (e : Env) w => K ((e 3), (e 4)) w) (inBlockE 0 Q)) (.exit 0) e w := fun e w h => then_X (hX0 e w h)
  exact s83_6 (K1 := K) (fun _ _ h => then_N h) hX0 e' w' (by rw [r0]; exact h')
theorem s83_2 (hR : hR83 R Q) (e : Env) (w : World) (h : m83_2 R (e 0) (e 3) w) : W83 k83_2 Q e w := by
  refine seA ?_
  have hN : ∀ e w, (m83_3 R (e 3) w) → (thenE (W83 k83_3 Q) Q) .normal e w := fun e w h => then_N (s83_3 hR e w h)
  refine seA ?_
  exact rgA 2 (fun e w => m83_5 R (e 0) (e 3) (e 4) w) h fun e w h => then_N (s83_5 hN e w h)
theorem s83_1 (hR : hR83 R Q) (e : Env) (w : World) (h : m83_1 R (e 0) w) : W83 k83_1 Q e w := by
  refine seA ?_
  exact rgA 1 (fun e w => m83_2 R (e 0) (e 3) w) h fun e w h => then_N (s83_2 hR e w h)
theorem s83_0 (hR : hR83 R Q) (e : Env) (w : World) (h : m83_0 R (e 0) w) : W83 k83_0 Q e w := by
  refine seA ?_
  exact rgA 0 (fun e w => m83_1 R (e 0) w) h fun e w h => then_N (s83_1 hR e w h)
abbrev m83 (R : VP) (d0 : Value) (w : World) : Prop := m83_0 R d0 w
theorem s83 (d0 : Value) {R : VP} {w : World} (h : m83 R d0 w) :
    Calls Tryz.prog 83 #[d0] w fun e w' => ∃ v, e = .returned v ∧ R v w' :=
  calls_of_cwp (st := (fun i => 0)) (c := k83_0) (by kernel_rfl) Tryz.func83 (by kernel_rfl) (Nat.le_of_ble_eq_true (by kernel_rfl)) (by kernel_rfl)
    (s83_0 (R := R) (Q := endE Tryz.prog Tryz.f83 R) (fun e w h => kcast (by kernel_rfl) h) (argsE #[d0]) w (kcast (by kernel_rfl) h))
def m49_2 (R : VP) (t2 : Value) (w : World) : Prop :=
  R t2 w
def m49_1 (R : VP) (d0 : Value) (w : World) : Prop :=
  anyDraw w fun w =>
  heldP w fun J =>
  nilCheckP d0 fun t4 =>
  valJ Tryz.prog J (Instr.fieldAt 41 t4 1) fun t5 =>
  valJ Tryz.prog J (Instr.loadAt 3 t5) fun t6 =>
  callP Tryz.prog (fnV 83) #[d0] w fun t8 w =>
  stayP J w
  (valJ Tryz.prog J (binS BinOp.sub 3 (tm 6) (tm 8) t6 t8) fun t9 =>
  m49_2 R t9 w)
def m49_0 (R : VP) (d0 : Value) (w : World) : Prop :=
  m49_1 R d0 w
abbrev W49 := cwp Tryz.prog (fun i => 0)
noncomputable def k49_0 := bodyOf Tryz.f49
noncomputable def k49_1 := c2 k49_0
noncomputable def k49_2 := c2 k49_1
abbrev hR49 (R : VP) (Q : EQ) : Prop := ∀ e w, (R (e 2) w) → Q .ret e w
theorem s49_2 (hR : hR49 R Q) (e : Env) (w : World) (h : m49_2 R (e 2) w) : W49 k49_2 Q e w := by
  exact reA (hR _ _ h)
theorem s49_1 (hR : hR49 R Q) (e : Env) (w : World) (h : m49_1 R (e 0) w) : W49 k49_1 Q e w := by
  refine seA ?_
  have hN : ∀ e w, (m49_2 R (e 2) w) → (thenE (W49 k49_2 Q) Q) .normal e w := fun e w h => then_N (s49_2 hR e w h)
  exact treeJ_ok 1 8 (bt 8 0) (.take 0 (bt 8 1) (.take 1 (bt 8 3) (.take 2 (bt 8 7) (.take 3 (bt 8 15) (.take 4 (bt 8 31) (.alt 5 (bt 8 63) (.take 6 (bt 8 127) (.take 7 (bt 8 255) .done)) .stop)))))) (fun e w => m49_2 R (e 2) w) (by kernel_rfl) (by kernel_rfl) (by kernel_rfl) (by kernel_rfl) (by kernel_rfl) (by kernel_rfl) (kcast (by kernel_rfl) h) hN (by kernel_rfl)
theorem s49_0 (hR : hR49 R Q) (e : Env) (w : World) (h : m49_0 R (e 0) w) : W49 k49_0 Q e w := by
  refine seA ?_
  exact rgA 0 (fun e w => m49_1 R (e 0) w) h fun e w h => then_N (s49_1 hR e w h)
abbrev m49 (R : VP) (d0 : Value) (w : World) : Prop := m49_0 R d0 w
theorem s49 (d0 : Value) {R : VP} {w : World} (h : m49 R d0 w) :
    Calls Tryz.prog 49 #[d0] w fun e w' => ∃ v, e = .returned v ∧ R v w' :=
  calls_of_cwp (st := (fun i => 0)) (c := k49_0) (by kernel_rfl) Tryz.func49 (by kernel_rfl) (Nat.le_of_ble_eq_true (by kernel_rfl)) (by kernel_rfl)
    (s49_0 (R := R) (Q := endE Tryz.prog Tryz.f49 R) (fun e w h => kcast (by kernel_rfl) h) (argsE #[d0]) w (kcast (by kernel_rfl) h))
def m50_12 (R : VP) (K1 : (Value × Value) → World → Prop) (l0 f3 out5 i6 : Value) (w : World) : Prop :=
  valP Tryz.prog (binS BinOp.add 3 (tm 28) (ci 1) i6 (vi 1)) w fun t29 w =>
  K1 (out5, t29) w
def m50_11 (R : VP) (K1 : (Value × Value) → World → Prop) (l0 f3 out5 i6 : Value) (w : World) : Prop :=
  valP Tryz.prog (Instr.indexAt 39 l0 i6) w fun t24 w =>
  valP Tryz.prog (Instr.loadAt 67 t24) w fun t25 w =>
  valP Tryz.prog (Instr.buildSlice 39 1 #[(0, t25)]) w fun t26 w =>
  builtinP Tryz.prog Builtin.append #[39, 39] 39 #[false, false] #[out5, t26] w fun t27 w =>
  m50_12 R K1 l0 f3 t27 i6 w
def m50_8 (R : VP) (t4 : Value) (w : World) : Prop :=
  R t4 w
def m50_7 (R : VP) (out5 : Value) (w : World) : Prop :=
  m50_8 R out5 w
def m50_6 (R : VP) (l0 out5 i6 : Value) (w : World) : Prop :=
  valP Tryz.prog (Instr.sliceAt 39 l0 (some i6) none none) w fun t53 w =>
  builtinP Tryz.prog Builtin.append #[39, 39] 39 #[false, false] #[out5, t53] w fun t54 w =>
  m50_7 R t54 w
def m50_9 (R : VP) (l0 out5 i6 t47 : Value) (w : World) : Prop :=
  condP t47
  (valP Tryz.prog (binS BinOp.add 3 (tm 48) (ci 1) i6 (vi 1)) w fun t49 w =>
  m50_6 R l0 out5 t49 w)
  (m50_6 R l0 out5 i6 w)
def m50_5 (R : VP) (l0 f3 out5 i6 : Value) (w : World) : Prop :=
  builtinQ Tryz.prog Builtin.len #[39] 3 #[false] #[l0] w fun t36 =>
  valQ Tryz.prog (binS BinOp.lss 3 (tm 34) (tm 36) i6 t36) w fun t37 =>
  condP t37
  (valQ Tryz.prog (Instr.indexAt 39 l0 i6) w fun t41 =>
  valQ Tryz.prog (Instr.fieldAt 67 t41 0) w fun t42 =>
  valQ Tryz.prog (Instr.loadAt 9 t42) w fun t43 =>
  valQ Tryz.prog (Instr.fieldAt 67 f3 0) w fun t44 =>
  valQ Tryz.prog (Instr.loadAt 9 t44) w fun t45 =>
  valQ Tryz.prog (binS BinOp.eql 9 (tm 43) (tm 45) t43 t45) w fun t46 =>
  pickP t37 t46 (Value.bool false) fun t47 =>
  anyDraw w fun w =>
  m50_9 R l0 out5 i6 t47 w)
  (pickP t37 undef (Value.bool false) fun t47 =>
  anyDraw w fun w =>
  m50_9 R l0 out5 i6 t47 w)
def m50_4 (R : VP) (l0 f3 out5 i6 : Value) (w : World) : Prop :=
  valP Tryz.prog (Instr.loadAt 67 f3) w fun t31 w =>
  valP Tryz.prog (Instr.buildSlice 39 1 #[(0, t31)]) w fun t32 w =>
  builtinP Tryz.prog Builtin.append #[39, 39] 39 #[false, false] #[out5, t32] w fun t33 w =>
  m50_5 R l0 f3 t33 i6 w
def m50_13 (R : VP) (K1 : (Value × Value) → World → Prop) (l0 f3 out5 i6 t20 : Value) (w : World) : Prop :=
  condP t20
  (m50_11 R K1 l0 f3 out5 i6 w)
  (m50_4 R l0 f3 out5 i6 w)
def m50_10 (R : VP) (K1 : (Value × Value) → World → Prop) (l0 f3 out5 i6 : Value) (w : World) : Prop :=
  builtinQ Tryz.prog Builtin.len #[39] 3 #[false] #[l0] w fun t9 =>
  valQ Tryz.prog (binS BinOp.lss 3 (tm 7) (tm 9) i6 t9) w fun t10 =>
  condP t10
  (valQ Tryz.prog (Instr.indexAt 39 l0 i6) w fun t14 =>
  valQ Tryz.prog (Instr.fieldAt 67 t14 0) w fun t15 =>
  valQ Tryz.prog (Instr.loadAt 9 t15) w fun t16 =>
  valQ Tryz.prog (Instr.fieldAt 67 f3 0) w fun t17 =>
  valQ Tryz.prog (Instr.loadAt 9 t17) w fun t18 =>
  valQ Tryz.prog (binS BinOp.lss 9 (tm 16) (tm 18) t16 t18) w fun t19 =>
  pickP t10 t19 (Value.bool false) fun t20 =>
  anyDraw w fun w =>
  m50_13 R K1 l0 f3 out5 i6 t20 w)
  (pickP t10 undef (Value.bool false) fun t20 =>
  anyDraw w fun w =>
  m50_13 R K1 l0 f3 out5 i6 t20 w)
def m50_3 (R : VP) (l0 f3 out5 i6 : Value) (w : World) : Prop :=
  loopP (fun (K1 : (Value × Value) → World → Prop) (s : Value × Value) w => m50_10 R K1 l0 f3 s.1 s.2 w) (out5, i6) w
def m50_2 (R : VP) (l0 f3 out5 : Value) (w : World) : Prop :=
  m50_3 R l0 f3 out5 (vi 0) w
def m50_1 (R : VP) (l0 f3 : Value) (w : World) : Prop :=
  m50_2 R l0 f3 (Value.slice none 0 0) w
def m50_0 (R : VP) (l0 f1 : Value) (w : World) : Prop :=
  valP Tryz.prog (Instr.box 67 f1) w fun f3 w =>
  m50_1 R l0 f3 w
abbrev W50 := cwp Tryz.prog (fun i => cond (Nat.beq i 7) 1 (cond (Nat.beq i 3) 1 (0)))
noncomputable def k50_0 := bodyOf Tryz.f50
noncomputable def k50_1 := c2 k50_0
noncomputable def k50_2 := c2 k50_1
noncomputable def k50_3 := c2 k50_2
noncomputable def k50_4 := c2 k50_3
noncomputable def k50_5 := c2 k50_4
noncomputable def k50_6 := c2 k50_5
noncomputable def k50_7 := c2 k50_6
noncomputable def k50_8 := c2 k50_7
noncomputable def k50_9 := c2 (c1 k50_5)
noncomputable def k50_10 := c1 (c1 (c1 k50_3))
noncomputable def k50_11 := c2 k50_10
noncomputable def k50_12 := c2 (c1 k50_11)
noncomputable def k50_13 := c2 (c1 k50_10)
theorem s50_12 {K1 : (Value × Value) → World → Prop} (hN : ∀ e w, (K1 ((e 5), (e 6)) w) → Q .normal e w) (e : Env) (w : World) (h : m50_12 R K1 (e 0) (e 3) (e 5) (e 6) w) : W50 k50_12 Q e w := by
  exact rgA 5 (fun e w => K1 ((e 5), (e 6)) w) h hN
theorem s50_11 {K1 : (Value × Value) → World → Prop} (hN : ∀ e w, (K1 ((e 5), (e 6)) w) → Q .normal e w) (e : Env) (w : World) (h : m50_11 R K1 (e 0) (e 3) (e 5) (e 6) w) : W50 k50_11 Q e w := by
  refine block_ok 1 (by kernel_rfl) ?_
  have hN : ∀ e w, (K1 ((e 5), (e 6)) w) → (inBlockE 1 Q) .normal e w := fun e w h => block_N (hN e w h)
  refine seA ?_
  exact rgA 4 (fun e w => m50_12 R K1 (e 0) (e 3) (e 5) (e 6) w) h fun e w h => then_N (s50_12 (R := R) (Q := (inBlockE 1 Q)) hN e w h)
abbrev hR50 (R : VP) (Q : EQ) : Prop := ∀ e w, (R (e 4) w) → Q .ret e w
theorem s50_8 (hR : hR50 R Q) (e : Env) (w : World) (h : m50_8 R (e 4) w) : W50 k50_8 Q e w := by
  exact reA (hR _ _ h)
theorem s50_7 (hR : hR50 R Q) (e : Env) (w : World) (h : m50_7 R (e 5) w) : W50 k50_7 Q e w := by
  refine seA ?_
  exact rgA 10 (fun e w => m50_8 R (e 4) w) h fun e w h => then_N (s50_8 hR e w h)
theorem s50_6 (hR : hR50 R Q) (e : Env) (w : World) (h : m50_6 R (e 0) (e 5) (e 6) w) : W50 k50_6 Q e w := by
  refine seA ?_
  exact rgA 9 (fun e w => m50_7 R (e 5) w) h fun e w h => then_N (s50_7 hR e w h)
theorem s50_9 (hN : ∀ e w, (m50_6 R (e 0) (e 5) (e 6) w) → Q .normal e w) (e : Env) (w : World) (h : m50_9 R (e 0) (e 5) (e 6) (e 47) w) : W50 k50_9 Q e w := by
  refine coA (Operand.tmp 47) h (fun h1 => ?_) (fun h1 => ?_)
  · exact rgA 8 (fun e w => m50_6 R (e 0) (e 5) (e 6) w) h1 hN
  · exact skA (hN _ _ h1)
theorem s50_5 (hR : hR50 R Q) (e : Env) (w : World) (h : m50_5 R (e 0) (e 3) (e 5) (e 6) w) : W50 k50_5 Q e w := by
  refine seA ?_
  have hN : ∀ e w, (m50_6 R (e 0) (e 5) (e 6) w) → (thenE (W50 k50_6 Q) Q) .normal e w := fun e w h => then_N (s50_6 hR e w h)
  refine seA ?_
  have hN : ∀ e w, (m50_9 R (e 0) (e 5) (e 6) (e 47) w) → (thenE (W50 k50_9 (thenE (W50 k50_6 Q) Q)) (thenE (W50 k50_6 Q) Q)) .normal e w := fun e w h => then_N (s50_9 hN e w h)
  exact quA 7 (fun e w => m50_9 R (e 0) (e 5) (e 6) (e 47) w) h hN
theorem s50_4 (hR : hR50 R Q) (e : Env) (w : World) (h : m50_4 R (e 0) (e 3) (e 5) (e 6) w) : W50 k50_4 Q e w := by
  refine seA ?_
  exact rgA 6 (fun e w => m50_5 R (e 0) (e 3) (e 5) (e 6) w) h fun e w h => then_N (s50_5 hR e w h)
theorem s50_13 {K1 : (Value × Value) → World → Prop} (hN : ∀ e w, (m50_11 R K1 (e 0) (e 3) (e 5) (e 6) w) → Q .normal e w) (hX0 : ∀ e w, (m50_4 R (e 0) (e 3) (e 5) (e 6) w) → Q (.exit 0) e w) (e : Env) (w : World) (h : m50_13 R K1 (e 0) (e 3) (e 5) (e 6) (e 20) w) : W50 k50_13 Q e w := by
  refine coA (Operand.tmp 20) h (fun h1 => ?_) (fun h1 => ?_)
  · exact skA (hN _ _ h1)
  · exact exA 0 (hX0 _ _ h1)
theorem s50_10 {K1 : (Value × Value) → World → Prop} (hN : ∀ e w, (K1 ((e 5), (e 6)) w) → Q .normal e w) (hX0 : ∀ e w, (m50_4 R (e 0) (e 3) (e 5) (e 6) w) → Q (.exit 0) e w) (e : Env) (w : World) (h : m50_10 R K1 (e 0) (e 3) (e 5) (e 6) w) : W50 k50_10 Q e w := by
  refine seA ?_
  have hN : ∀ e w, (m50_11 R K1 (e 0) (e 3) (e 5) (e 6) w) → (thenE (W50 k50_11 Q) Q) .normal e w := fun e w h => then_N (s50_11 hN e w h)
  have hX0 : ∀ e w, (m50_4 R (e 0) (e 3) (e 5) (e 6) w) → (thenE (W50 k50_11 Q) Q) (.exit 0) e w := fun e w h => then_X (hX0 e w h)
  refine seA ?_
  have hN : ∀ e w, (m50_13 R K1 (e 0) (e 3) (e 5) (e 6) (e 20) w) → (thenE (W50 k50_13 (thenE (W50 k50_11 Q) Q)) (thenE (W50 k50_11 Q) Q)) .normal e w := fun e w h => then_N (s50_13 hN hX0 e w h)
  exact quA 3 (fun e w => m50_13 R K1 (e 0) (e 3) (e 5) (e 6) (e 20) w) h hN
theorem s50_3 (hR : hR50 R Q) (e : Env) (w : World) (h : m50_3 R (e 0) (e 3) (e 5) (e 6) w) : W50 k50_3 Q e w := by
  refine seA ?_
  have hN : ∀ e w, (m50_4 R (e 0) (e 3) (e 5) (e 6) w) → (thenE (W50 k50_4 Q) Q) .normal e w := fun e w h => then_N (s50_4 hR e w h)
  refine block_ok 0 (by kernel_rfl) ?_
  have hX0 : ∀ e w, (m50_4 R (e 0) (e 3) (e 5) (e 6) w) → (inBlockE 0 (thenE (W50 k50_4 Q) Q)) (.exit 0) e w := fun e w h => inBlock_same (Q := (thenE (W50 k50_4 Q) Q)) 0 (hN e w h)
  refine loop_ok' (fun (e : Env) => (e 5, e 6)) [0, 3] (by kernel_rfl) (by kernel_rfl) h (fun K e' w' hk h' => ?_)
  have r0 : e' 0 = e 0 := hk 0 (by decide)
  have r3 : e' 3 = e 3 := hk 3 (by decide)
  have hX0 : ∀ e w, (m50_4 R (e 0) (e 3) (e 5) (e 6) w) → (thenE (fun (e : Env) w => K ((e 5), (e 6)) w) (inBlockE 0 (thenE (W50 k50_4 Q) Q))) (.exit 0) e w := fun e w h => then_X (hX0 e w h)
  exact s50_10 (K1 := K) (fun _ _ h => then_N h) hX0 e' w' (by rw [r0, r3]; exact h')
theorem s50_2 (hR : hR50 R Q) (e : Env) (w : World) (h : m50_2 R (e 0) (e 3) (e 5) w) : W50 k50_2 Q e w := by
  refine seA ?_
  exact rgA 2 (fun e w => m50_3 R (e 0) (e 3) (e 5) (e 6) w) h fun e w h => then_N (s50_3 hR e w h)
theorem s50_1 (hR : hR50 R Q) (e : Env) (w : World) (h : m50_1 R (e 0) (e 3) w) : W50 k50_1 Q e w := by
  refine seA ?_
  exact rgA 1 (fun e w => m50_2 R (e 0) (e 3) (e 5) w) h fun e w h => then_N (s50_2 hR e w h)
theorem s50_0 (hR : hR50 R Q) (e : Env) (w : World) (h : m50_0 R (e 0) (e 1) w) : W50 k50_0 Q e w := by
  refine seA ?_
  exact rgA 0 (fun e w => m50_1 R (e 0) (e 3) w) h fun e w h => then_N (s50_1 hR e w h)
abbrev m50 (R : VP) (l0 f1 : Value) (w : World) : Prop := m50_0 R l0 f1 w
theorem s50 (l0 f1 : Value) {R : VP} {w : World} (h : m50 R l0 f1 w) :
    Calls Tryz.prog 50 #[l0, f1] w fun e w' => ∃ v, e = .returned v ∧ R v w' :=
  calls_of_cwp (st := (fun i => cond (Nat.beq i 7) 1 (cond (Nat.beq i 3) 1 (0)))) (c := k50_0) (by kernel_rfl) Tryz.func50 (by kernel_rfl) (Nat.le_of_ble_eq_true (by kernel_rfl)) (by kernel_rfl)
    (s50_0 (R := R) (Q := endE Tryz.prog Tryz.f50 R) (fun e w h => kcast (by kernel_rfl) h) (argsE #[l0, f1]) w (kcast (by kernel_rfl) h))
def m51_8 (R : VP) (t2 : Value) (w : World) : Prop :=
  R t2 w
def m51_7 (R : VP) (w : World) : Prop :=
  m51_8 R (Value.bool true) w
def m51_4 (R : VP) (t2 : Value) (w : World) : Prop :=
  R t2 w
def m51_3 (R : VP) (w : World) : Prop :=
  m51_4 R (Value.bool false) w
def m51_5 (R : VP) (d0 t15 : Value) (w : World) : Prop :=
  condP t15
  (nilCheckP d0 fun t18 =>
  valP Tryz.prog (Instr.fieldAt 41 t18 2) w fun t19 w =>
  valP Tryz.prog (Instr.loadAt 3 t19) w fun t20 w =>
  valP Tryz.prog (binS BinOp.sub 3 (tm 20) (ci 1) t20 (vi 1)) w fun t21 w =>
  nilCheckP d0 fun t22 =>
  valP Tryz.prog (Instr.fieldAt 41 t22 2) w fun t23 w =>
  unitP Tryz.prog (Instr.storeAt 3 t23 t21) w fun _ w =>
  m51_3 R w)
  (m51_3 R w)
def m51_2 (R : VP) (d0 : Value) (w : World) : Prop :=
  nilCheckP d0 fun t12 =>
  valP Tryz.prog (Instr.fieldAt 41 t12 2) w fun t13 w =>
  valP Tryz.prog (Instr.loadAt 3 t13) w fun t14 w =>
  valP Tryz.prog (binS BinOp.gtr 3 (tm 14) (ci 0) t14 (vi 0)) w fun t15 w =>
  m51_5 R d0 t15 w
def m51_6 (R : VP) (d0 t7 : Value) (w : World) : Prop :=
  condP t7
  (nilCheckP d0 fun t9 =>
  valP Tryz.prog (Instr.fieldAt 41 t9 3) w fun t10 w =>
  unitP Tryz.prog (Instr.storeAt 4 t10 (Value.bool true)) w fun _ w =>
  m51_7 R w)
  (m51_2 R d0 w)
def m51_1 (R : VP) (d0 : Value) (w : World) : Prop :=
  nilCheckP d0 fun t4 =>
  valP Tryz.prog (Instr.fieldAt 41 t4 2) w fun t5 w =>
  valP Tryz.prog (Instr.loadAt 3 t5) w fun t6 w =>
  valP Tryz.prog (binS BinOp.eql 3 (tm 6) (ci 0) t6 (vi 0)) w fun t7 w =>
  m51_6 R d0 t7 w
def m51_0 (R : VP) (d0 : Value) (w : World) : Prop :=
  m51_1 R d0 w
abbrev W51 := cwp Tryz.prog (fun i => 0)
noncomputable def k51_0 := bodyOf Tryz.f51
noncomputable def k51_1 := c2 k51_0
noncomputable def k51_2 := c2 k51_1
noncomputable def k51_3 := c2 k51_2
noncomputable def k51_4 := c2 k51_3
noncomputable def k51_5 := c2 (c1 k51_2)
noncomputable def k51_6 := c2 (c1 k51_1)
noncomputable def k51_7 := c2 (c1 k51_6)
noncomputable def k51_8 := c2 k51_7
abbrev hR51 (R : VP) (Q : EQ) : Prop := ∀ e w, (R (e 2) w) → Q .ret e w
theorem s51_8 (hR : hR51 R Q) (e : Env) (w : World) (h : m51_8 R (e 2) w) : W51 k51_8 Q e w := by
  exact reA (hR _ _ h)
theorem s51_7 (hR : hR51 R Q) (e : Env) (w : World) (h : m51_7 R w) : W51 k51_7 Q e w := by
  refine seA ?_
  exact rgA 3 (fun e w => m51_8 R (e 2) w) h fun e w h => then_N (s51_8 hR e w h)
theorem s51_4 (hR : hR51 R Q) (e : Env) (w : World) (h : m51_4 R (e 2) w) : W51 k51_4 Q e w := by
  exact reA (hR _ _ h)
theorem s51_3 (hR : hR51 R Q) (e : Env) (w : World) (h : m51_3 R w) : W51 k51_3 Q e w := by
  refine seA ?_
  exact rgA 6 (fun e w => m51_4 R (e 2) w) h fun e w h => then_N (s51_4 hR e w h)
theorem s51_5 (hN : ∀ e w, (m51_3 R w) → Q .normal e w) (e : Env) (w : World) (h : m51_5 R (e 0) (e 15) w) : W51 k51_5 Q e w := by
  refine coA (Operand.tmp 15) h (fun h1 => ?_) (fun h1 => ?_)
  · exact rgA 5 (fun e w => m51_3 R w) h1 hN
  · exact skA (hN _ _ h1)
theorem s51_2 (hR : hR51 R Q) (e : Env) (w : World) (h : m51_2 R (e 0) w) : W51 k51_2 Q e w := by
  refine seA ?_
  have hN : ∀ e w, (m51_3 R w) → (thenE (W51 k51_3 Q) Q) .normal e w := fun e w h => then_N (s51_3 hR e w h)
  refine seA ?_
  exact rgA 4 (fun e w => m51_5 R (e 0) (e 15) w) h fun e w h => then_N (s51_5 hN e w h)
theorem s51_6 (hN : ∀ e w, (m51_2 R (e 0) w) → Q .normal e w) (hR : hR51 R Q) (e : Env) (w : World) (h : m51_6 R (e 0) (e 7) w) : W51 k51_6 Q e w := by
  refine coA (Operand.tmp 7) h (fun h1 => ?_) (fun h1 => ?_)
  · refine seA ?_
    exact rgA 2 (fun e w => m51_7 R w) h1 fun e w h => then_N (s51_7 hR e w h)
  · exact skA (hN _ _ h1)
theorem s51_1 (hR : hR51 R Q) (e : Env) (w : World) (h : m51_1 R (e 0) w) : W51 k51_1 Q e w := by
  refine seA ?_
  have hN : ∀ e w, (m51_2 R (e 0) w) → (thenE (W51 k51_2 Q) Q) .normal e w := fun e w h => then_N (s51_2 hR e w h)
  have hR : hR51 R (thenE (W51 k51_2 Q) Q) := fun e w h => then_R (hR e w h)
  refine seA ?_
  exact rgA 1 (fun e w => m51_6 R (e 0) (e 7) w) h fun e w h => then_N (s51_6 hN hR e w h)
theorem s51_0 (hR : hR51 R Q) (e : Env) (w : World) (h : m51_0 R (e 0) w) : W51 k51_0 Q e w := by
  refine seA ?_
  exact rgA 0 (fun e w => m51_1 R (e 0) w) h fun e w h => then_N (s51_1 hR e w h)
abbrev m51 (R : VP) (d0 : Value) (w : World) : Prop := m51_0 R d0 w
theorem s51 (d0 : Value) {R : VP} {w : World} (h : m51 R d0 w) :
    Calls Tryz.prog 51 #[d0] w fun e w' => ∃ v, e = .returned v ∧ R v w' :=
  calls_of_cwp (st := (fun i => 0)) (c := k51_0) (by kernel_rfl) Tryz.func51 (by kernel_rfl) (Nat.le_of_ble_eq_true (by kernel_rfl)) (by kernel_rfl)
    (s51_0 (R := R) (Q := endE Tryz.prog Tryz.f51 R) (fun e w h => kcast (by kernel_rfl) h) (argsE #[d0]) w (kcast (by kernel_rfl) h))
def m81_8 (R : VP) (K1 : (Value × Value) → World → Prop) (l0 name1 out5 i6 : Value) (w : World) : Prop :=
  valP Tryz.prog (binS BinOp.add 3 (tm 11) (ci 1) i6 (vi 1)) w fun t12 w =>
  K1 (out5, t12) w
def m81_9 (R : VP) (K1 : (Value × Value) → World → Prop) (l0 name1 out5 i6 t19 : Value) (w : World) : Prop :=
  condP t19
  (valP Tryz.prog (Instr.indexAt 39 l0 i6) w fun t23 w =>
  valP Tryz.prog (Instr.loadAt 67 t23) w fun t24 w =>
  valP Tryz.prog (Instr.buildSlice 39 1 #[(0, t24)]) w fun t25 w =>
  builtinP Tryz.prog Builtin.append #[39, 39] 39 #[false, false] #[out5, t25] w fun t26 w =>
  m81_8 R K1 l0 name1 t26 i6 w)
  (m81_8 R K1 l0 name1 out5 i6 w)
def m81_7 (R : VP) (K1 : (Value × Value) → World → Prop) (l0 name1 out5 i6 : Value) (w : World) : Prop :=
  valP Tryz.prog (Instr.indexAt 39 l0 i6) w fun t15 w =>
  valP Tryz.prog (Instr.fieldAt 67 t15 0) w fun t16 w =>
  valP Tryz.prog (Instr.loadAt 9 t16) w fun t17 w =>
  valP Tryz.prog (binS BinOp.neq 9 (tm 17) (tm 18) t17 name1) w fun t19 w =>
  m81_9 R K1 l0 name1 out5 i6 t19 w
def m81_4 (R : VP) (t4 : Value) (w : World) : Prop :=
  R t4 w
def m81_3 (R : VP) (out5 : Value) (w : World) : Prop :=
  m81_4 R out5 w
def m81_10 (R : VP) (K1 : (Value × Value) → World → Prop) (l0 name1 out5 i6 t10 : Value) (w : World) : Prop :=
  condP t10
  (m81_7 R K1 l0 name1 out5 i6 w)
  (m81_3 R out5 w)
def m81_6 (R : VP) (K1 : (Value × Value) → World → Prop) (l0 name1 out5 i6 : Value) (w : World) : Prop :=
  builtinP Tryz.prog Builtin.len #[39] 3 #[false] #[l0] w fun t9 w =>
  valP Tryz.prog (binS BinOp.lss 3 (tm 7) (tm 9) i6 t9) w fun t10 w =>
  m81_10 R K1 l0 name1 out5 i6 t10 w
def m81_5 (R : VP) (l0 name1 out5 i6 : Value) (w : World) : Prop :=
  loopP (fun (K1 : (Value × Value) → World → Prop) (s : Value × Value) w => m81_6 R K1 l0 name1 s.1 s.2 w) (out5, i6) w
def m81_2 (R : VP) (l0 name1 out5 : Value) (w : World) : Prop :=
  m81_5 R l0 name1 out5 (vi 0) w
def m81_1 (R : VP) (l0 name1 : Value) (w : World) : Prop :=
  m81_2 R l0 name1 (Value.slice none 0 0) w
def m81_0 (R : VP) (l0 name1 : Value) (w : World) : Prop :=
  m81_1 R l0 name1 w
abbrev W81 := cwp Tryz.prog (fun i => 0)
noncomputable def k81_0 := bodyOf Tryz.f81
noncomputable def k81_1 := c2 k81_0
noncomputable def k81_2 := c2 k81_1
noncomputable def k81_3 := c2 k81_2
noncomputable def k81_4 := c2 k81_3
noncomputable def k81_5 := c2 (c1 k81_2)
noncomputable def k81_6 := c1 (c1 k81_5)
noncomputable def k81_7 := c2 k81_6
noncomputable def k81_8 := c2 k81_7
noncomputable def k81_9 := c2 (c1 (c1 k81_7))
noncomputable def k81_10 := c2 (c1 k81_6)
theorem s81_8 {K1 : (Value × Value) → World → Prop} (hN : ∀ e w, (K1 ((e 5), (e 6)) w) → Q .normal e w) (e : Env) (w : World) (h : m81_8 R K1 (e 0) (e 1) (e 5) (e 6) w) : W81 k81_8 Q e w := by
  exact rgA 4 (fun e w => K1 ((e 5), (e 6)) w) h hN
theorem s81_9 {K1 : (Value × Value) → World → Prop} (hN : ∀ e w, (m81_8 R K1 (e 0) (e 1) (e 5) (e 6) w) → Q .normal e w) (e : Env) (w : World) (h : m81_9 R K1 (e 0) (e 1) (e 5) (e 6) (e 19) w) : W81 k81_9 Q e w := by
  refine coA (Operand.tmp 19) h (fun h1 => ?_) (fun h1 => ?_)
  · exact rgA 6 (fun e w => m81_8 R K1 (e 0) (e 1) (e 5) (e 6) w) h1 hN
  · exact skA (hN _ _ h1)
theorem s81_7 {K1 : (Value × Value) → World → Prop} (hN : ∀ e w, (K1 ((e 5), (e 6)) w) → Q .normal e w) (e : Env) (w : World) (h : m81_7 R K1 (e 0) (e 1) (e 5) (e 6) w) : W81 k81_7 Q e w := by
  refine seA ?_
  have hN : ∀ e w, (m81_8 R K1 (e 0) (e 1) (e 5) (e 6) w) → (thenE (W81 k81_8 Q) Q) .normal e w := fun e w h => then_N (s81_8 hN e w h)
  refine block_ok 1 (by kernel_rfl) ?_
  have hN : ∀ e w, (m81_8 R K1 (e 0) (e 1) (e 5) (e 6) w) → (inBlockE 1 (thenE (W81 k81_8 Q) Q)) .normal e w := fun e w h => block_N (hN e w h)
  refine seA ?_
  exact rgA 5 (fun e w => m81_9 R K1 (e 0) (e 1) (e 5) (e 6) (e 19) w) h fun e w h => then_N (s81_9 (R := R) (Q := (inBlockE 1 (thenE (W81 k81_8 Q) Q))) hN e w h)
abbrev hR81 (R : VP) (Q : EQ) : Prop := ∀ e w, (R (e 4) w) → Q .ret e w
theorem s81_4 (hR : hR81 R Q) (e : Env) (w : World) (h : m81_4 R (e 4) w) : W81 k81_4 Q e w := by
  exact reA (hR _ _ h)
theorem s81_3 (hR : hR81 R Q) (e : Env) (w : World) (h : m81_3 R (e 5) w) : W81 k81_3 Q e w := by
  refine seA ?_
  exact rgA 7 (fun e w => m81_4 R (e 4) w) h fun e w h => then_N (s81_4 hR e w h)
theorem s81_10 {K1 : (Value × Value) → World → Prop} (hN : ∀ e w, (m81_7 R K1 (e 0) (e 1) (e 5) (e 6) w) → Q .normal e w) (hX0 : ∀ e w, (m81_3 R (e 5) w) → Q (.exit 0) e w) (e : Env) (w : World) (h : m81_10 R K1 (e 0) (e 1) (e 5) (e 6) (e 10) w) : W81 k81_10 Q e w := by
  refine coA (Operand.tmp 10) h (fun h1 => ?_) (fun h1 => ?_)
  · exact skA (hN _ _ h1)
  · exact exA 0 (hX0 _ _ h1)
theorem s81_6 {K1 : (Value × Value) → World → Prop} (hN : ∀ e w, (K1 ((e 5), (e 6)) w) → Q .normal e w) (hX0 : ∀ e w, (m81_3 R (e 5) w) → Q (.exit 0) e w) (e : Env) (w : World) (h : m81_6 R K1 (e 0) (e 1) (e 5) (e 6) w) : W81 k81_6 Q e w := by
  refine seA ?_
  have hN : ∀ e w, (m81_7 R K1 (e 0) (e 1) (e 5) (e 6) w) → (thenE (W81 k81_7 Q) Q) .normal e w := fun e w h => then_N (s81_7 hN e w h)
  have hX0 : ∀ e w, (m81_3 R (e 5) w) → (thenE (W81 k81_7 Q) Q) (.exit 0) e w := fun e w h => then_X (hX0 e w h)
  refine seA ?_
  exact rgA 3 (fun e w => m81_10 R K1 (e 0) (e 1) (e 5) (e 6) (e 10) w) h fun e w h => then_N (s81_10 hN hX0 e w h)
theorem s81_5 (hN : ∀ e w, (m81_3 R (e 5) w) → Q .normal e w) (e : Env) (w : World) (h : m81_5 R (e 0) (e 1) (e 5) (e 6) w) : W81 k81_5 Q e w := by
  refine block_ok 0 (by kernel_rfl) ?_
  have hX0 : ∀ e w, (m81_3 R (e 5) w) → (inBlockE 0 Q) (.exit 0) e w := fun e w h => inBlock_same (Q := Q) 0 (hN e w h)
  refine loop_ok' (fun (e : Env) => (e 5, e 6)) [0, 1] (by kernel_rfl) (by kernel_rfl) h (fun K e' w' hk h' => ?_)
  have r0 : e' 0 = e 0 := hk 0 (by decide)
  have r1 : e' 1 = e 1 := hk 1 (by decide)
  have hX0 : ∀ e w, (m81_3 R (e 5) w) → (thenE (fun (e : Env) w => K ((e 5), (e 6)) w) (inBlockE 0 Q)) (.exit 0) e w := fun e w h => then_X (hX0 e w h)
  exact s81_6 (K1 := K) (fun _ _ h => then_N h) hX0 e' w' (by rw [r0, r1]; exact h')
theorem s81_2 (hR : hR81 R Q) (e : Env) (w : World) (h : m81_2 R (e 0) (e 1) (e 5) w) : W81 k81_2 Q e w := by
  refine seA ?_
  have hN : ∀ e w, (m81_3 R (e 5) w) → (thenE (W81 k81_3 Q) Q) .normal e w := fun e w h => then_N (s81_3 hR e w h)
  refine seA ?_
  exact rgA 2 (fun e w => m81_5 R (e 0) (e 1) (e 5) (e 6) w) h fun e w h => then_N (s81_5 hN e w h)
theorem s81_1 (hR : hR81 R Q) (e : Env) (w : World) (h : m81_1 R (e 0) (e 1) w) : W81 k81_1 Q e w := by
  refine seA ?_
  exact rgA 1 (fun e w => m81_2 R (e 0) (e 1) (e 5) w) h fun e w h => then_N (s81_2 hR e w h)
theorem s81_0 (hR : hR81 R Q) (e : Env) (w : World) (h : m81_0 R (e 0) (e 1) w) : W81 k81_0 Q e w := by
  refine seA ?_
  exact rgA 0 (fun e w => m81_1 R (e 0) (e 1) w) h fun e w h => then_N (s81_1 hR e w h)
abbrev m81 (R : VP) (l0 name1 : Value) (w : World) : Prop := m81_0 R l0 name1 w
theorem s81 (l0 name1 : Value) {R : VP} {w : World} (h : m81 R l0 name1 w) :
    Calls Tryz.prog 81 #[l0, name1] w fun e w' => ∃ v, e = .returned v ∧ R v w' :=
  calls_of_cwp (st := (fun i => 0)) (c := k81_0) (by kernel_rfl) Tryz.func81 (by kernel_rfl) (Nat.le_of_ble_eq_true (by kernel_rfl)) (by kernel_rfl)
    (s81_0 (R := R) (Q := endE Tryz.prog Tryz.f81 R) (fun e w h => kcast (by kernel_rfl) h) (argsE #[l0, name1]) w (kcast (by kernel_rfl) h))
def m80_11 (R : VP) (t4 : Value) (w : World) : Prop :=
  R t4 w
def m80_9 (R : VP) (t4 : Value) (w : World) : Prop :=
  R t4 w
def m80_7 (R : VP) (t4 : Value) (w : World) : Prop :=
  R t4 w
def m80_5 (R : VP) (t4 : Value) (w : World) : Prop :=
  R t4 w
def m80_4 (R : VP) (w : World) : Prop :=
  m80_5 R (vi 0) w
def m80_6 (R : VP) (t15 : Value) (w : World) : Prop :=
  condP t15
  (m80_7 R (vi 3) w)
  (m80_4 R w)
def m80_3 (R : VP) (d0 name1 : Value) (w : World) : Prop :=
  callP Tryz.prog (fnV 47) #[d0, name1] w fun t14 w =>
  valP Tryz.prog (binS BinOp.lss 3 (tm 14) (ci 0) t14 (vi 0)) w fun t15 w =>
  m80_6 R t15 w
def m80_8 (R : VP) (d0 name1 t11 : Value) (w : World) : Prop :=
  condP t11
  (m80_9 R (vi 4) w)
  (m80_3 R d0 name1 w)
def m80_2 (R : VP) (d0 name1 : Value) (w : World) : Prop :=
  nilCheckP d0 fun t9 =>
  valP Tryz.prog (Instr.fieldAt 41 t9 3) w fun t10 w =>
  valP Tryz.prog (Instr.loadAt 4 t10) w fun t11 w =>
  m80_8 R d0 name1 t11 w
def m80_10 (R : VP) (d0 name1 t7 : Value) (w : World) : Prop :=
  condP t7
  (m80_11 R (vi 1) w)
  (m80_2 R d0 name1 w)
def m80_1 (R : VP) (d0 name1 : Value) (w : World) : Prop :=
  callP Tryz.prog (fnV 46) #[name1] w fun t6 w =>
  valP Tryz.prog (Op.unary UnOp.not t6) w fun t7 w =>
  m80_10 R d0 name1 t7 w
def m80_0 (R : VP) (d0 name1 : Value) (w : World) : Prop :=
  m80_1 R d0 name1 w
abbrev W80 := cwp Tryz.prog (fun i => 0)
noncomputable def k80_0 := bodyOf Tryz.f80
noncomputable def k80_1 := c2 k80_0
noncomputable def k80_2 := c2 k80_1
noncomputable def k80_3 := c2 k80_2
noncomputable def k80_4 := c2 k80_3
noncomputable def k80_5 := c2 k80_4
noncomputable def k80_6 := c2 (c1 k80_3)
noncomputable def k80_7 := c2 (c1 k80_6)
noncomputable def k80_8 := c2 (c1 k80_2)
noncomputable def k80_9 := c2 (c1 k80_8)
noncomputable def k80_10 := c2 (c1 k80_1)
noncomputable def k80_11 := c2 (c1 k80_10)
abbrev hR80 (R : VP) (Q : EQ) : Prop := ∀ e w, (R (e 4) w) → Q .ret e w
theorem s80_11 (hR : hR80 R Q) (e : Env) (w : World) (h : m80_11 R (e 4) w) : W80 k80_11 Q e w := by
  exact reA (hR _ _ h)
theorem s80_9 (hR : hR80 R Q) (e : Env) (w : World) (h : m80_9 R (e 4) w) : W80 k80_9 Q e w := by
  exact reA (hR _ _ h)
theorem s80_7 (hR : hR80 R Q) (e : Env) (w : World) (h : m80_7 R (e 4) w) : W80 k80_7 Q e w := by
  exact reA (hR _ _ h)
theorem s80_5 (hR : hR80 R Q) (e : Env) (w : World) (h : m80_5 R (e 4) w) : W80 k80_5 Q e w := by
  exact reA (hR _ _ h)
theorem s80_4 (hR : hR80 R Q) (e : Env) (w : World) (h : m80_4 R w) : W80 k80_4 Q e w := by
  refine seA ?_
  exact rgA 7 (fun e w => m80_5 R (e 4) w) h fun e w h => then_N (s80_5 hR e w h)
theorem s80_6 (hN : ∀ e w, (m80_4 R w) → Q .normal e w) (hR : hR80 R Q) (e : Env) (w : World) (h : m80_6 R (e 15) w) : W80 k80_6 Q e w := by
  refine coA (Operand.tmp 15) h (fun h1 => ?_) (fun h1 => ?_)
  · refine seA ?_
    exact rgA 6 (fun e w => m80_7 R (e 4) w) h1 fun e w h => then_N (s80_7 hR e w h)
  · exact skA (hN _ _ h1)
theorem s80_3 (hR : hR80 R Q) (e : Env) (w : World) (h : m80_3 R (e 0) (e 1) w) : W80 k80_3 Q e w := by
  refine seA ?_
  have hN : ∀ e w, (m80_4 R w) → (thenE (W80 k80_4 Q) Q) .normal e w := fun e w h => then_N (s80_4 hR e w h)
  have hR : hR80 R (thenE (W80 k80_4 Q) Q) := fun e w h => then_R (hR e w h)
  refine seA ?_
  exact rgA 5 (fun e w => m80_6 R (e 15) w) h fun e w h => then_N (s80_6 hN hR e w h)
theorem s80_8 (hN : ∀ e w, (m80_3 R (e 0) (e 1) w) → Q .normal e w) (hR : hR80 R Q) (e : Env) (w : World) (h : m80_8 R (e 0) (e 1) (e 11) w) : W80 k80_8 Q e w := by
  refine coA (Operand.tmp 11) h (fun h1 => ?_) (fun h1 => ?_)
  · refine seA ?_
    exact rgA 4 (fun e w => m80_9 R (e 4) w) h1 fun e w h => then_N (s80_9 hR e w h)
  · exact skA (hN _ _ h1)
theorem s80_2 (hR : hR80 R Q) (e : Env) (w : World) (h : m80_2 R (e 0) (e 1) w) : W80 k80_2 Q e w := by
  refine seA ?_
  have hN : ∀ e w, (m80_3 R (e 0) (e 1) w) → (thenE (W80 k80_3 Q) Q) .normal e w := fun e w h => then_N (s80_3 hR e w h)
  have hR : hR80 R (thenE (W80 k80_3 Q) Q) := fun e w h => then_R (hR e w h)
  refine seA ?_
  exact rgA 3 (fun e w => m80_8 R (e 0) (e 1) (e 11) w) h fun e w h => then_N (s80_8 hN hR e w h)
theorem s80_10 (hN : ∀ e w, (m80_2 R (e 0) (e 1) w) → Q .normal e w) (hR : hR80 R Q) (e : Env) (w : World) (h : m80_10 R (e 0) (e 1) (e 7) w) : W80 k80_10 Q e w := by
  refine coA (Operand.tmp 7) h (fun h1 => ?_) (fun h1 => ?_)
  · refine seA ?_
    exact rgA 2 (fun e w => m80_11 R (e 4) w) h1 fun e w h => then_N (s80_11 hR e w h)
  · exact skA (hN _ _ h1)
theorem s80_1 (hR : hR80 R Q) (e : Env) (w : World) (h : m80_1 R (e 0) (e 1) w) : W80 k80_1 Q e w := by
  refine seA ?_
  have hN : ∀ e w, (m80_2 R (e 0) (e 1) w) → (thenE (W80 k80_2 Q) Q) .normal e w := fun e w h => then_N (s80_2 hR e w h)
  have hR : hR80 R (thenE (W80 k80_2 Q) Q) := fun e w h => then_R (hR e w h)
  refine seA ?_
  exact rgA 1 (fun e w => m80_10 R (e 0) (e 1) (e 7) w) h fun e w h => then_N (s80_10 hN hR e w h)
theorem s80_0 (hR : hR80 R Q) (e : Env) (w : World) (h : m80_0 R (e 0) (e 1) w) : W80 k80_0 Q e w := by
  refine seA ?_
  exact rgA 0 (fun e w => m80_1 R (e 0) (e 1) w) h fun e w h => then_N (s80_1 hR e w h)
abbrev m80 (R : VP) (d0 name1 : Value) (w : World) : Prop := m80_0 R d0 name1 w
theorem s80 (d0 name1 : Value) {R : VP} {w : World} (h : m80 R d0 name1 w) :
    Calls Tryz.prog 80 #[d0, name1] w fun e w' => ∃ v, e = .returned v ∧ R v w' :=
  calls_of_cwp (st := (fun i => 0)) (c := k80_0) (by kernel_rfl) Tryz.func80 (by kernel_rfl) (Nat.le_of_ble_eq_true (by kernel_rfl)) (by kernel_rfl)
    (s80_0 (R := R) (Q := endE Tryz.prog Tryz.f80 R) (fun e w h => kcast (by kernel_rfl) h) (argsE #[d0, name1]) w (kcast (by kernel_rfl) h))
def m52_7 (R : VP) (t4 t5 : Value) (w : World) : Prop :=
  R (Value.tuple #[t4, t5]) w
def m52_5 (R : VP) (t4 t5 : Value) (w : World) : Prop :=
  R (Value.tuple #[t4, t5]) w
def m52_4 (R : VP) (f7 : Value) (w : World) : Prop :=
  valP Tryz.prog (Instr.fieldAt 67 f7 1) w fun t23 w =>
  valP Tryz.prog (Instr.loadAt 9 t23) w fun t24 w =>
  valP Tryz.prog (Instr.fieldAt 67 f7 2) w fun t25 w =>
  valP Tryz.prog (Instr.loadAt 9 t25) w fun t26 w =>
  valP Tryz.prog (binS BinOp.add 9 (tm 24) (tm 26) t24 t26) w fun t27 w =>
  m52_5 R t27 (vi 0) w
def m52_3 (R : VP) (d0 name1 : Value) (w : World) : Prop :=
  anyDraw w fun w =>
  heldP w fun J =>
  nilCheckP d0 fun t15 =>
  valJ Tryz.prog J (Instr.fieldAt 41 t15 0) fun t16 =>
  valJ Tryz.prog J (Instr.loadAt 39 t16) fun t17 =>
  (callP Tryz.prog (fnV 47) #[d0, name1] w fun t20 w =>
  stayP J w
  (valJ Tryz.prog J (Instr.indexAt 39 t17 t20) fun t21 =>
  valJ Tryz.prog J (Instr.loadAt 67 t21) fun t22 =>
  valP Tryz.prog (Instr.alloc 67 true (.tuple #[])) w fun f7 w =>
  stayP J w
  (unitP Tryz.prog (Instr.storeAt 67 f7 t22) w fun _ w =>
  stayP J w
  (m52_4 R f7 w)))) ∧ (valP Tryz.prog (Instr.alloc 67 true (.tuple #[])) w fun f7 w =>
  stayP J w
  (callP Tryz.prog (fnV 47) #[d0, name1] w fun t20 w =>
  stayP J w
  (valJ Tryz.prog J (Instr.indexAt 39 t17 t20) fun t21 =>
  valJ Tryz.prog J (Instr.loadAt 67 t21) fun t22 =>
  unitP Tryz.prog (Instr.storeAt 67 f7 t22) w fun _ w =>
  stayP J w
  (m52_4 R f7 w))))
def m52_6 (R : VP) (d0 name1 e6 t12 : Value) (w : World) : Prop :=
  condP t12
  (m52_7 R (Value.string ⟨#[]⟩) e6 w)
  (m52_3 R d0 name1 w)
def m52_2 (R : VP) (d0 name1 e6 : Value) (w : World) : Prop :=
  valP Tryz.prog (binS BinOp.neq 3 (tm 11) (ci 0) e6 (vi 0)) w fun t12 w =>
  m52_6 R d0 name1 e6 t12 w
def m52_1 (R : VP) (d0 name1 : Value) (w : World) : Prop :=
  callP Tryz.prog (fnV 80) #[d0, name1] w fun t10 w =>
  m52_2 R d0 name1 t10 w
def m52_0 (R : VP) (d0 name1 : Value) (w : World) : Prop :=
  m52_1 R d0 name1 w
abbrev W52 := cwp Tryz.prog (fun i => 0)
noncomputable def k52_0 := bodyOf Tryz.f52
noncomputable def k52_1 := c2 k52_0
noncomputable def k52_2 := c2 k52_1
noncomputable def k52_3 := c2 k52_2
noncomputable def k52_4 := c2 k52_3
noncomputable def k52_5 := c2 k52_4
noncomputable def k52_6 := c2 (c1 k52_2)
noncomputable def k52_7 := c2 (c1 k52_6)
abbrev hR52 (R : VP) (Q : EQ) : Prop := ∀ e w, (R (Value.tuple #[(e 4), (e 5)]) w) → Q .ret e w
theorem s52_7 (hR : hR52 R Q) (e : Env) (w : World) (h : m52_7 R (e 4) (e 5) w) : W52 k52_7 Q e w := by
  exact reA (hR _ _ h)
theorem s52_5 (hR : hR52 R Q) (e : Env) (w : World) (h : m52_5 R (e 4) (e 5) w) : W52 k52_5 Q e w := by
  exact reA (hR _ _ h)
theorem s52_4 (hR : hR52 R Q) (e : Env) (w : World) (h : m52_4 R (e 7) w) : W52 k52_4 Q e w := by
  refine seA ?_
  exact rgA 5 (fun e w => m52_5 R (e 4) (e 5) w) h fun e w h => then_N (s52_5 hR e w h)
theorem s52_3 (hR : hR52 R Q) (e : Env) (w : World) (h : m52_3 R (e 0) (e 1) w) : W52 k52_3 Q e w := by
  refine seA ?_
  have hN : ∀ e w, (m52_4 R (e 7) w) → (thenE (W52 k52_4 Q) Q) .normal e w := fun e w h => then_N (s52_4 hR e w h)
  exact treeJ_ok 4 11 (bt 11 0) (.take 0 (bt 11 1) (.take 1 (bt 11 3) (.take 2 (bt 11 7) (.take 3 (bt 11 15) (.take 4 (bt 11 31) (.take 5 (bt 11 63) (.alt 6 (bt 11 127) (.take 7 (bt 11 255) (.take 8 (bt 11 511) (.alt 9 (bt 11 1023) (.alt 10 (bt 11 2047) .done .stop) .stop))) (.alt 9 (bt 11 575) (.alt 6 (bt 11 639) (.take 7 (bt 11 767) (.take 8 (bt 11 1023) (.alt 10 (bt 11 2047) .done .stop))) .stop) .stop)))))))) (fun e w => m52_4 R (e 7) w) (by kernel_rfl) (by kernel_rfl) (by kernel_rfl) (by kernel_rfl) (by kernel_rfl) (by kernel_rfl) (kcast (by kernel_rfl) h) hN (by kernel_rfl)
theorem s52_6 (hN : ∀ e w, (m52_3 R (e 0) (e 1) w) → Q .normal e w) (hR : hR52 R Q) (e : Env) (w : World) (h : m52_6 R (e 0) (e 1) (e 6) (e 12) w) : W52 k52_6 Q e w := by
  refine coA (Operand.tmp 12) h (fun h1 => ?_) (fun h1 => ?_)
  · refine seA ?_
    exact rgA 3 (fun e w => m52_7 R (e 4) (e 5) w) h1 fun e w h => then_N (s52_7 hR e w h)
  · exact skA (hN _ _ h1)
theorem s52_2 (hR : hR52 R Q) (e : Env) (w : World) (h : m52_2 R (e 0) (e 1) (e 6) w) : W52 k52_2 Q e w := by
  refine seA ?_
  have hN : ∀ e w, (m52_3 R (e 0) (e 1) w) → (thenE (W52 k52_3 Q) Q) .normal e w := fun e w h => then_N (s52_3 hR e w h)
  have hR : hR52 R (thenE (W52 k52_3 Q) Q) := fun e w h => then_R (hR e w h)
  refine seA ?_
  exact rgA 2 (fun e w => m52_6 R (e 0) (e 1) (e 6) (e 12) w) h fun e w h => then_N (s52_6 hN hR e w h)
theorem s52_1 (hR : hR52 R Q) (e : Env) (w : World) (h : m52_1 R (e 0) (e 1) w) : W52 k52_1 Q e w := by
  refine seA ?_
  exact rgA 1 (fun e w => m52_2 R (e 0) (e 1) (e 6) w) h fun e w h => then_N (s52_2 hR e w h)
theorem s52_0 (hR : hR52 R Q) (e : Env) (w : World) (h : m52_0 R (e 0) (e 1) w) : W52 k52_0 Q e w := by
  refine seA ?_
  exact rgA 0 (fun e w => m52_1 R (e 0) (e 1) w) h fun e w h => then_N (s52_1 hR e w h)
abbrev m52 (R : VP) (d0 name1 : Value) (w : World) : Prop := m52_0 R d0 name1 w
theorem s52 (d0 name1 : Value) {R : VP} {w : World} (h : m52 R d0 name1 w) :
    Calls Tryz.prog 52 #[d0, name1] w fun e w' => ∃ v, e = .returned v ∧ R v w' :=
  calls_of_cwp (st := (fun i => 0)) (c := k52_0) (by kernel_rfl) Tryz.func52 (by kernel_rfl) (Nat.le_of_ble_eq_true (by kernel_rfl)) (by kernel_rfl)
    (s52_0 (R := R) (Q := endE Tryz.prog Tryz.f52 R) (fun e w h => kcast (by kernel_rfl) h) (argsE #[d0, name1]) w (kcast (by kernel_rfl) h))
def m41_10 (R : VP) (t4 : Value) (w : World) : Prop :=
  R t4 w
def m41_8 (R : VP) (t4 : Value) (w : World) : Prop :=
  R t4 w
def m41_6 (R : VP) (t4 : Value) (w : World) : Prop :=
  R t4 w
def m41_5 (R : VP) (w : World) : Prop :=
  m41_6 R (vi 0) w
def m41_4 (R : VP) (d0 name1 : Value) (w : World) : Prop :=
  nilCheckP d0 fun t16 =>
  valP Tryz.prog (Instr.fieldAt 41 t16 0) w fun t17 w =>
  valP Tryz.prog (Instr.loadAt 39 t17) w fun t18 w =>
  callP Tryz.prog (fnV 81) #[t18, name1] w fun t20 w =>
  nilCheckP d0 fun t21 =>
  valP Tryz.prog (Instr.fieldAt 41 t21 0) w fun t22 w =>
  unitP Tryz.prog (Instr.storeAt 39 t22 t20) w fun _ w =>
  m41_5 R w
def m41_7 (R : VP) (d0 name1 t13 : Value) (w : World) : Prop :=
  condP t13
  (m41_8 R (vi 4) w)
  (m41_4 R d0 name1 w)
def m41_3 (R : VP) (d0 name1 : Value) (w : World) : Prop :=
  callP Tryz.prog (fnV 51) #[d0] w fun t13 w =>
  m41_7 R d0 name1 t13 w
def m41_9 (R : VP) (d0 name1 e5 t10 : Value) (w : World) : Prop :=
  condP t10
  (m41_10 R e5 w)
  (m41_3 R d0 name1 w)
def m41_2 (R : VP) (d0 name1 e5 : Value) (w : World) : Prop :=
  valP Tryz.prog (binS BinOp.neq 3 (tm 9) (ci 0) e5 (vi 0)) w fun t10 w =>
  m41_9 R d0 name1 e5 t10 w
def m41_1 (R : VP) (d0 name1 : Value) (w : World) : Prop :=
  callP Tryz.prog (fnV 80) #[d0, name1] w fun t8 w =>
  m41_2 R d0 name1 t8 w
def m41_0 (R : VP) (d0 name1 : Value) (w : World) : Prop :=
  m41_1 R d0 name1 w
abbrev W41 := cwp Tryz.prog (fun i => 0)
noncomputable def k41_0 := bodyOf Tryz.f41
noncomputable def k41_1 := c2 k41_0
noncomputable def k41_2 := c2 k41_1
noncomputable def k41_3 := c2 k41_2
noncomputable def k41_4 := c2 k41_3
noncomputable def k41_5 := c2 k41_4
noncomputable def k41_6 := c2 k41_5
noncomputable def k41_7 := c2 (c1 k41_3)
noncomputable def k41_8 := c2 (c1 k41_7)
noncomputable def k41_9 := c2 (c1 k41_2)
noncomputable def k41_10 := c2 (c1 k41_9)
abbrev hR41 (R : VP) (Q : EQ) : Prop := ∀ e w, (R (e 4) w) → Q .ret e w
theorem s41_10 (hR : hR41 R Q) (e : Env) (w : World) (h : m41_10 R (e 4) w) : W41 k41_10 Q e w := by
  exact reA (hR _ _ h)
theorem s41_8 (hR : hR41 R Q) (e : Env) (w : World) (h : m41_8 R (e 4) w) : W41 k41_8 Q e w := by
  exact reA (hR _ _ h)
theorem s41_6 (hR : hR41 R Q) (e : Env) (w : World) (h : m41_6 R (e 4) w) : W41 k41_6 Q e w := by
  exact reA (hR _ _ h)
theorem s41_5 (hR : hR41 R Q) (e : Env) (w : World) (h : m41_5 R w) : W41 k41_5 Q e w := by
  refine seA ?_
  exact rgA 7 (fun e w => m41_6 R (e 4) w) h fun e w h => then_N (s41_6 hR e w h)
theorem s41_4 (hR : hR41 R Q) (e : Env) (w : World) (h : m41_4 R (e 0) (e 1) w) : W41 k41_4 Q e w := by
  refine seA ?_
  exact rgA 6 (fun e w => m41_5 R w) h fun e w h => then_N (s41_5 hR e w h)
theorem s41_7 (hN : ∀ e w, (m41_4 R (e 0) (e 1) w) → Q .normal e w) (hR : hR41 R Q) (e : Env) (w : World) (h : m41_7 R (e 0) (e 1) (e 13) w) : W41 k41_7 Q e w := by
  refine coA (Operand.tmp 13) h (fun h1 => ?_) (fun h1 => ?_)
  · refine seA ?_
    exact rgA 5 (fun e w => m41_8 R (e 4) w) h1 fun e w h => then_N (s41_8 hR e w h)
  · exact skA (hN _ _ h1)
theorem s41_3 (hR : hR41 R Q) (e : Env) (w : World) (h : m41_3 R (e 0) (e 1) w) : W41 k41_3 Q e w := by
  refine seA ?_
  have hN : ∀ e w, (m41_4 R (e 0) (e 1) w) → (thenE (W41 k41_4 Q) Q) .normal e w := fun e w h => then_N (s41_4 hR e w h)
  have hR : hR41 R (thenE (W41 k41_4 Q) Q) := fun e w h => then_R (hR e w h)
  refine seA ?_
  exact rgA 4 (fun e w => m41_7 R (e 0) (e 1) (e 13) w) h fun e w h => then_N (s41_7 hN hR e w h)
theorem s41_9 (hN : ∀ e w, (m41_3 R (e 0) (e 1) w) → Q .normal e w) (hR : hR41 R Q) (e : Env) (w : World) (h : m41_9 R (e 0) (e 1) (e 5) (e 10) w) : W41 k41_9 Q e w := by
  refine coA (Operand.tmp 10) h (fun h1 => ?_) (fun h1 => ?_)
  · refine seA ?_
    exact rgA 3 (fun e w => m41_10 R (e 4) w) h1 fun e w h => then_N (s41_10 hR e w h)
  · exact skA (hN _ _ h1)
theorem s41_2 (hR : hR41 R Q) (e : Env) (w : World) (h : m41_2 R (e 0) (e 1) (e 5) w) : W41 k41_2 Q e w := by
  refine seA ?_
  have hN : ∀ e w, (m41_3 R (e 0) (e 1) w) → (thenE (W41 k41_3 Q) Q) .normal e w := fun e w h => then_N (s41_3 hR e w h)
  have hR : hR41 R (thenE (W41 k41_3 Q) Q) := fun e w h => then_R (hR e w h)
  refine seA ?_
  exact rgA 2 (fun e w => m41_9 R (e 0) (e 1) (e 5) (e 10) w) h fun e w h => then_N (s41_9 hN hR e w h)
theorem s41_1 (hR : hR41 R Q) (e : Env) (w : World) (h : m41_1 R (e 0) (e 1) w) : W41 k41_1 Q e w := by
  refine seA ?_
  exact rgA 1 (fun e w => m41_2 R (e 0) (e 1) (e 5) w) h fun e w h => then_N (s41_2 hR e w h)
theorem s41_0 (hR : hR41 R Q) (e : Env) (w : World) (h : m41_0 R (e 0) (e 1) w) : W41 k41_0 Q e w := by
  refine seA ?_
  exact rgA 0 (fun e w => m41_1 R (e 0) (e 1) w) h fun e w h => then_N (s41_1 hR e w h)
abbrev m41 (R : VP) (d0 name1 : Value) (w : World) : Prop := m41_0 R d0 name1 w
theorem s41 (d0 name1 : Value) {R : VP} {w : World} (h : m41 R d0 name1 w) :
    Calls Tryz.prog 41 #[d0, name1] w fun e w' => ∃ v, e = .returned v ∧ R v w' :=
  calls_of_cwp (st := (fun i => 0)) (c := k41_0) (by kernel_rfl) Tryz.func41 (by kernel_rfl) (Nat.le_of_ble_eq_true (by kernel_rfl)) (by kernel_rfl)
    (s41_0 (R := R) (Q := endE Tryz.prog Tryz.f41 R) (fun e w h => kcast (by kernel_rfl) h) (argsE #[d0, name1]) w (kcast (by kernel_rfl) h))
def m42_11 (R : VP) (t4 : Value) (w : World) : Prop :=
  R t4 w
def m42_9 (R : VP) (t4 : Value) (w : World) : Prop :=
  R t4 w
def m42_7 (R : VP) (t4 : Value) (w : World) : Prop :=
  R t4 w
def m42_6 (R : VP) (w : World) : Prop :=
  m42_7 R (vi 0) w
def m42_5 (R : VP) (d0 name1 f6 : Value) (w : World) : Prop :=
  anyDraw w fun w =>
  heldP w fun J =>
  nilCheckP d0 fun t26 =>
  valJ Tryz.prog J (Instr.fieldAt 41 t26 0) fun t27 =>
  valJ Tryz.prog J (Instr.fieldAt 67 f6 1) fun t30 =>
  valJ Tryz.prog J (Instr.loadAt 9 t30) fun t31 =>
  valJ Tryz.prog J (Instr.fieldAt 67 f6 2) fun t32 =>
  valJ Tryz.prog J (Instr.loadAt 9 t32) fun t33 =>
  valJ Tryz.prog J (binS BinOp.add 9 (tm 31) (tm 33) t31 t33) fun t34 =>
  valJ Tryz.prog J (Instr.build 67 #[(0, name1), (1, t34)]) fun t35 =>
  valP Tryz.prog (Instr.loadAt 39 t27) w fun t28 w =>
  stayP J w
  (callP Tryz.prog (fnV 50) #[t28, t35] w fun t36 w =>
  stayP J w
  (nilCheckP d0 fun t37 =>
  valJ Tryz.prog J (Instr.fieldAt 41 t37 0) fun t38 =>
  unitP Tryz.prog (Instr.storeAt 39 t38 t36) w fun _ w =>
  stayP J w
  (m42_6 R w)))
def m42_4 (R : VP) (d0 name1 : Value) (w : World) : Prop :=
  anyDraw w fun w =>
  heldP w fun J =>
  nilCheckP d0 fun t16 =>
  valJ Tryz.prog J (Instr.fieldAt 41 t16 0) fun t17 =>
  valJ Tryz.prog J (Instr.loadAt 39 t17) fun t18 =>
  (callP Tryz.prog (fnV 47) #[d0, name1] w fun t21 w =>
  stayP J w
  (valJ Tryz.prog J (Instr.indexAt 39 t18 t21) fun t22 =>
  valJ Tryz.prog J (Instr.loadAt 67 t22) fun t23 =>
  valP Tryz.prog (Instr.alloc 67 true (.tuple #[])) w fun f6 w =>
  stayP J w
  (unitP Tryz.prog (Instr.storeAt 67 f6 t23) w fun _ w =>
  stayP J w
  (m42_5 R d0 name1 f6 w)))) ∧ (valP Tryz.prog (Instr.alloc 67 true (.tuple #[])) w fun f6 w =>
  stayP J w
  (callP Tryz.prog (fnV 47) #[d0, name1] w fun t21 w =>
  stayP J w
  (valJ Tryz.prog J (Instr.indexAt 39 t18 t21) fun t22 =>
  valJ Tryz.prog J (Instr.loadAt 67 t22) fun t23 =>
  unitP Tryz.prog (Instr.storeAt 67 f6 t23) w fun _ w =>
  stayP J w
  (m42_5 R d0 name1 f6 w))))
def m42_8 (R : VP) (d0 name1 t14 : Value) (w : World) : Prop :=
  condP t14
  (m42_9 R (vi 4) w)
  (m42_4 R d0 name1 w)
def m42_3 (R : VP) (d0 name1 : Value) (w : World) : Prop :=
  callP Tryz.prog (fnV 51) #[d0] w fun t14 w =>
  m42_8 R d0 name1 t14 w
def m42_10 (R : VP) (d0 name1 e5 t11 : Value) (w : World) : Prop :=
  condP t11
  (m42_11 R e5 w)
  (m42_3 R d0 name1 w)
def m42_2 (R : VP) (d0 name1 e5 : Value) (w : World) : Prop :=
  valP Tryz.prog (binS BinOp.neq 3 (tm 10) (ci 0) e5 (vi 0)) w fun t11 w =>
  m42_10 R d0 name1 e5 t11 w
def m42_1 (R : VP) (d0 name1 : Value) (w : World) : Prop :=
  callP Tryz.prog (fnV 80) #[d0, name1] w fun t9 w =>
  m42_2 R d0 name1 t9 w
def m42_0 (R : VP) (d0 name1 : Value) (w : World) : Prop :=
  m42_1 R d0 name1 w
abbrev W42 := cwp Tryz.prog (fun i => 0)
noncomputable def k42_0 := bodyOf Tryz.f42
noncomputable def k42_1 := c2 k42_0
noncomputable def k42_2 := c2 k42_1
noncomputable def k42_3 := c2 k42_2
noncomputable def k42_4 := c2 k42_3
noncomputable def k42_5 := c2 k42_4
noncomputable def k42_6 := c2 k42_5
noncomputable def k42_7 := c2 k42_6
noncomputable def k42_8 := c2 (c1 k42_3)
noncomputable def k42_9 := c2 (c1 k42_8)
noncomputable def k42_10 := c2 (c1 k42_2)
noncomputable def k42_11 := c2 (c1 k42_10)
abbrev hR42 (R : VP) (Q : EQ) : Prop := ∀ e w, (R (e 4) w) → Q .ret e w
theorem s42_11 (hR : hR42 R Q) (e : Env) (w : World) (h : m42_11 R (e 4) w) : W42 k42_11 Q e w := by
  exact reA (hR _ _ h)
theorem s42_9 (hR : hR42 R Q) (e : Env) (w : World) (h : m42_9 R (e 4) w) : W42 k42_9 Q e w := by
  exact reA (hR _ _ h)
theorem s42_7 (hR : hR42 R Q) (e : Env) (w : World) (h : m42_7 R (e 4) w) : W42 k42_7 Q e w := by
  exact reA (hR _ _ h)
theorem s42_6 (hR : hR42 R Q) (e : Env) (w : World) (h : m42_6 R w) : W42 k42_6 Q e w := by
  refine seA ?_
  exact rgA 8 (fun e w => m42_7 R (e 4) w) h fun e w h => then_N (s42_7 hR e w h)
theorem s42_5 (hR : hR42 R Q) (e : Env) (w : World) (h : m42_5 R (e 0) (e 1) (e 6) w) : W42 k42_5 Q e w := by
  refine seA ?_
  have hN : ∀ e w, (m42_6 R w) → (thenE (W42 k42_6 Q) Q) .normal e w := fun e w h => then_N (s42_6 hR e w h)
  exact treeJ_ok 7 16 (bt 16 0) (.take 0 (bt 16 1) (.take 1 (bt 16 3) (.take 2 (bt 16 7) (.take 3 (bt 16 15) (.take 5 (bt 16 47) (.take 6 (bt 16 111) (.take 7 (bt 16 239) (.take 8 (bt 16 495) (.take 9 (bt 16 1007) (.take 10 (bt 16 2031) (.take 11 (bt 16 4079) (.alt 4 (bt 16 4095) (.alt 12 (bt 16 8191) (.take 13 (bt 16 16383) (.take 14 (bt 16 32767) (.alt 15 (bt 16 65535) .done .stop))) .stop) .stop)))))))))))) (fun e w => m42_6 R w) (by kernel_rfl) (by kernel_rfl) (by kernel_rfl) (by kernel_rfl) (by kernel_rfl) (by kernel_rfl) (kcast (by kernel_rfl) h) hN (by kernel_rfl)
theorem s42_4 (hR : hR42 R Q) (e : Env) (w : World) (h : m42_4 R (e 0) (e 1) w) : W42 k42_4 Q e w := by
  refine seA ?_
  have hN : ∀ e w, (m42_5 R (e 0) (e 1) (e 6) w) → (thenE (W42 k42_5 Q) Q) .normal e w := fun e w h => then_N (s42_5 hR e w h)
  exact treeJ_ok 6 11 (bt 11 0) (.take 0 (bt 11 1) (.take 1 (bt 11 3) (.take 2 (bt 11 7) (.take 3 (bt 11 15) (.take 4 (bt 11 31) (.take 5 (bt 11 63) (.alt 6 (bt 11 127) (.take 7 (bt 11 255) (.take 8 (bt 11 511) (.alt 9 (bt 11 1023) (.alt 10 (bt 11 2047) .done .stop) .stop))) (.alt 9 (bt 11 575) (.alt 6 (bt 11 639) (.take 7 (bt 11 767) (.take 8 (bt 11 1023) (.alt 10 (bt 11 2047) .done .stop))) .stop) .stop)))))))) (fun e w => m42_5 R (e 0) (e 1) (e 6) w) (by kernel_rfl) (by kernel_rfl) (by kernel_rfl) (by kernel_rfl) (by kernel_rfl) (by kernel_rfl) (kcast (by kernel_rfl) h) hN (by kernel_rfl)
theorem s42_8 (hN : ∀ e w, (m42_4 R (e 0) (e 1) w) → Q .normal e w) (hR : hR42 R Q) (e : Env) (w : World) (h : m42_8 R (e 0) (e 1) (e 14) w) : W42 k42_8 Q e w := by
  refine coA (Operand.tmp 14) h (fun h1 => ?_) (fun h1 => ?_)
  · refine seA ?_
    exact rgA 5 (fun e w => m42_9 R (e 4) w) h1 fun e w h => then_N (s42_9 hR e w h)
  · exact skA (hN _ _ h1)
theorem s42_3 (hR : hR42 R Q) (e : Env) (w : World) (h : m42_3 R (e 0) (e 1) w) : W42 k42_3 Q e w := by
  refine seA ?_
  have hN : ∀ e w, (m42_4 R (e 0) (e 1) w) → (thenE (W42 k42_4 Q) Q) .normal e w := fun e w h => then_N (s42_4 hR e w h)
  have hR : hR42 R (thenE (W42 k42_4 Q) Q) := fun e w h => then_R (hR e w h)
  refine seA ?_
  exact rgA 4 (fun e w => m42_8 R (e 0) (e 1) (e 14) w) h fun e w h => then_N (s42_8 hN hR e w h)
theorem s42_10 (hN : ∀ e w, (m42_3 R (e 0) (e 1) w) → Q .normal e w) (hR : hR42 R Q) (e : Env) (w : World) (h : m42_10 R (e 0) (e 1) (e 5) (e 11) w) : W42 k42_10 Q e w := by
  refine coA (Operand.tmp 11) h (fun h1 => ?_) (fun h1 => ?_)
  · refine seA ?_
    exact rgA 3 (fun e w => m42_11 R (e 4) w) h1 fun e w h => then_N (s42_11 hR e w h)
  · exact skA (hN _ _ h1)
theorem s42_2 (hR : hR42 R Q) (e : Env) (w : World) (h : m42_2 R (e 0) (e 1) (e 5) w) : W42 k42_2 Q e w := by
  refine seA ?_
  have hN : ∀ e w, (m42_3 R (e 0) (e 1) w) → (thenE (W42 k42_3 Q) Q) .normal e w := fun e w h => then_N (s42_3 hR e w h)
  have hR : hR42 R (thenE (W42 k42_3 Q) Q) := fun e w h => then_R (hR e w h)
  refine seA ?_
  exact rgA 2 (fun e w => m42_10 R (e 0) (e 1) (e 5) (e 11) w) h fun e w h => then_N (s42_10 hN hR e w h)
theorem s42_1 (hR : hR42 R Q) (e : Env) (w : World) (h : m42_1 R (e 0) (e 1) w) : W42 k42_1 Q e w := by
  refine seA ?_
  exact rgA 1 (fun e w => m42_2 R (e 0) (e 1) (e 5) w) h fun e w h => then_N (s42_2 hR e w h)
theorem s42_0 (hR : hR42 R Q) (e : Env) (w : World) (h : m42_0 R (e 0) (e 1) w) : W42 k42_0 Q e w := by
  refine seA ?_
  exact rgA 0 (fun e w => m42_1 R (e 0) (e 1) w) h fun e w h => then_N (s42_1 hR e w h)
abbrev m42 (R : VP) (d0 name1 : Value) (w : World) : Prop := m42_0 R d0 name1 w
theorem s42 (d0 name1 : Value) {R : VP} {w : World} (h : m42 R d0 name1 w) :
    Calls Tryz.prog 42 #[d0, name1] w fun e w' => ∃ v, e = .returned v ∧ R v w' :=
  calls_of_cwp (st := (fun i => 0)) (c := k42_0) (by kernel_rfl) Tryz.func42 (by kernel_rfl) (Nat.le_of_ble_eq_true (by kernel_rfl)) (by kernel_rfl)
    (s42_0 (R := R) (Q := endE Tryz.prog Tryz.f42 R) (fun e w h => kcast (by kernel_rfl) h) (argsE #[d0, name1]) w (kcast (by kernel_rfl) h))
def m43_15 (R : VP) (t6 : Value) (w : World) : Prop :=
  R t6 w
def m43_13 (R : VP) (t6 : Value) (w : World) : Prop :=
  R t6 w
def m43_11 (R : VP) (t6 : Value) (w : World) : Prop :=
  R t6 w
def m43_9 (R : VP) (t6 : Value) (w : World) : Prop :=
  R t6 w
def m43_8 (R : VP) (w : World) : Prop :=
  m43_9 R (vi 0) w
def m43_7 (R : VP) (d0 from1 f8 : Value) (w : World) : Prop :=
  anyDraw w fun w =>
  heldP w fun J =>
  nilCheckP d0 fun t33 =>
  valJ Tryz.prog J (Instr.fieldAt 41 t33 0) fun t34 =>
  valJ Tryz.prog J (Instr.loadAt 67 f8) fun t38 =>
  valP Tryz.prog (Instr.loadAt 39 t34) w fun t35 w =>
  stayP J w
  (callP Tryz.prog (fnV 81) #[t35, from1] w fun t37 w =>
  stayP J w
  (callP Tryz.prog (fnV 50) #[t37, t38] w fun t39 w =>
  stayP J w
  (nilCheckP d0 fun t40 =>
  valJ Tryz.prog J (Instr.fieldAt 41 t40 0) fun t41 =>
  unitP Tryz.prog (Instr.storeAt 39 t41 t39) w fun _ w =>
  stayP J w
  (m43_8 R w))))
def m43_6 (R : VP) (d0 from1 to2 f8 : Value) (w : World) : Prop :=
  valP Tryz.prog (Instr.fieldAt 67 f8 0) w fun t30 w =>
  unitP Tryz.prog (Instr.storeAt 9 t30 to2) w fun _ w =>
  m43_7 R d0 from1 f8 w
def m43_5 (R : VP) (d0 from1 to2 : Value) (w : World) : Prop :=
  anyDraw w fun w =>
  heldP w fun J =>
  nilCheckP d0 fun t21 =>
  valJ Tryz.prog J (Instr.fieldAt 41 t21 0) fun t22 =>
  valJ Tryz.prog J (Instr.loadAt 39 t22) fun t23 =>
  (callP Tryz.prog (fnV 47) #[d0, from1] w fun t26 w =>
  stayP J w
  (valJ Tryz.prog J (Instr.indexAt 39 t23 t26) fun t27 =>
  valJ Tryz.prog J (Instr.loadAt 67 t27) fun t28 =>
  valP Tryz.prog (Instr.alloc 67 true (.tuple #[])) w fun f8 w =>
  stayP J w
  (unitP Tryz.prog (Instr.storeAt 67 f8 t28) w fun _ w =>
  stayP J w
  (m43_6 R d0 from1 to2 f8 w)))) ∧ (valP Tryz.prog (Instr.alloc 67 true (.tuple #[])) w fun f8 w =>
  stayP J w
  (callP Tryz.prog (fnV 47) #[d0, from1] w fun t26 w =>
  stayP J w
  (valJ Tryz.prog J (Instr.indexAt 39 t23 t26) fun t27 =>
  valJ Tryz.prog J (Instr.loadAt 67 t27) fun t28 =>
  unitP Tryz.prog (Instr.storeAt 67 f8 t28) w fun _ w =>
  stayP J w
  (m43_6 R d0 from1 to2 f8 w))))
def m43_10 (R : VP) (d0 from1 to2 t19 : Value) (w : World) : Prop :=
  condP t19
  (m43_11 R (vi 4) w)
  (m43_5 R d0 from1 to2 w)
def m43_4 (R : VP) (d0 from1 to2 : Value) (w : World) : Prop :=
  callP Tryz.prog (fnV 51) #[d0] w fun t19 w =>
  m43_10 R d0 from1 to2 t19 w
def m43_12 (R : VP) (d0 from1 to2 e7 t16 : Value) (w : World) : Prop :=
  condP t16
  (m43_13 R e7 w)
  (m43_4 R d0 from1 to2 w)
def m43_3 (R : VP) (d0 from1 to2 e7 : Value) (w : World) : Prop :=
  valP Tryz.prog (binS BinOp.neq 3 (tm 15) (ci 0) e7 (vi 0)) w fun t16 w =>
  m43_12 R d0 from1 to2 e7 t16 w
def m43_2 (R : VP) (d0 from1 to2 : Value) (w : World) : Prop :=
  callP Tryz.prog (fnV 80) #[d0, from1] w fun t14 w =>
  m43_3 R d0 from1 to2 t14 w
def m43_14 (R : VP) (d0 from1 to2 t11 : Value) (w : World) : Prop :=
  condP t11
  (m43_15 R (vi 1) w)
  (m43_2 R d0 from1 to2 w)
def m43_1 (R : VP) (d0 from1 to2 : Value) (w : World) : Prop :=
  callP Tryz.prog (fnV 46) #[to2] w fun t10 w =>
  valP Tryz.prog (Op.unary UnOp.not t10) w fun t11 w =>
  m43_14 R d0 from1 to2 t11 w
def m43_0 (R : VP) (d0 from1 to2 : Value) (w : World) : Prop :=
  m43_1 R d0 from1 to2 w
abbrev W43 := cwp Tryz.prog (fun i => 0)
noncomputable def k43_0 := bodyOf Tryz.f43
noncomputable def k43_1 := c2 k43_0
noncomputable def k43_2 := c2 k43_1
noncomputable def k43_3 := c2 k43_2
noncomputable def k43_4 := c2 k43_3
noncomputable def k43_5 := c2 k43_4
noncomputable def k43_6 := c2 k43_5
noncomputable def k43_7 := c2 k43_6
noncomputable def k43_8 := c2 k43_7
noncomputable def k43_9 := c2 k43_8
noncomputable def k43_10 := c2 (c1 k43_4)
noncomputable def k43_11 := c2 (c1 k43_10)
noncomputable def k43_12 := c2 (c1 k43_3)
noncomputable def k43_13 := c2 (c1 k43_12)
noncomputable def k43_14 := c2 (c1 k43_1)
noncomputable def k43_15 := c2 (c1 k43_14)
abbrev hR43 (R : VP) (Q : EQ) : Prop := ∀ e w, (R (e 6) w) → Q .ret e w
theorem s43_15 (hR : hR43 R Q) (e : Env) (w : World) (h : m43_15 R (e 6) w) : W43 k43_15 Q e w := by
  exact reA (hR _ _ h)
theorem s43_13 (hR : hR43 R Q) (e : Env) (w : World) (h : m43_13 R (e 6) w) : W43 k43_13 Q e w := by
  exact reA (hR _ _ h)
theorem s43_11 (hR : hR43 R Q) (e : Env) (w : World) (h : m43_11 R (e 6) w) : W43 k43_11 Q e w := by
  exact reA (hR _ _ h)
theorem s43_9 (hR : hR43 R Q) (e : Env) (w : World) (h : m43_9 R (e 6) w) : W43 k43_9 Q e w := by
  exact reA (hR _ _ h)
theorem s43_8 (hR : hR43 R Q) (e : Env) (w : World) (h : m43_8 R w) : W43 k43_8 Q e w := by
  refine seA ?_
  exact rgA 11 (fun e w => m43_9 R (e 6) w) h fun e w h => then_N (s43_9 hR e w h)
theorem s43_7 (hR : hR43 R Q) (e : Env) (w : World) (h : m43_7 R (e 0) (e 1) (e 8) w) : W43 k43_7 Q e w := by
  refine seA ?_
  have hN : ∀ e w, (m43_8 R w) → (thenE (W43 k43_8 Q) Q) .normal e w := fun e w h => then_N (s43_8 hR e w h)
  exact treeJ_ok 10 12 (bt 12 0) (.take 0 (bt 12 1) (.take 1 (bt 12 3) (.take 2 (bt 12 7) (.take 3 (bt 12 15) (.take 5 (bt 12 47) (.take 7 (bt 12 175) (.alt 4 (bt 12 191) (.alt 6 (bt 12 255) (.alt 8 (bt 12 511) (.take 9 (bt 12 1023) (.take 10 (bt 12 2047) (.alt 11 (bt 12 4095) .done .stop))) .stop) .stop) .stop))))))) (fun e w => m43_8 R w) (by kernel_rfl) (by kernel_rfl) (by kernel_rfl) (by kernel_rfl) (by kernel_rfl) (by kernel_rfl) (kcast (by kernel_rfl) h) hN (by kernel_rfl)
theorem s43_6 (hR : hR43 R Q) (e : Env) (w : World) (h : m43_6 R (e 0) (e 1) (e 2) (e 8) w) : W43 k43_6 Q e w := by
  refine seA ?_
  exact rgA 9 (fun e w => m43_7 R (e 0) (e 1) (e 8) w) h fun e w h => then_N (s43_7 hR e w h)
theorem s43_5 (hR : hR43 R Q) (e : Env) (w : World) (h : m43_5 R (e 0) (e 1) (e 2) w) : W43 k43_5 Q e w := by
  refine seA ?_
  have hN : ∀ e w, (m43_6 R (e 0) (e 1) (e 2) (e 8) w) → (thenE (W43 k43_6 Q) Q) .normal e w := fun e w h => then_N (s43_6 hR e w h)
  exact treeJ_ok 8 11 (bt 11 0) (.take 0 (bt 11 1) (.take 1 (bt 11 3) (.take 2 (bt 11 7) (.take 3 (bt 11 15) (.take 4 (bt 11 31) (.take 5 (bt 11 63) (.alt 6 (bt 11 127) (.take 7 (bt 11 255) (.take 8 (bt 11 511) (.alt 9 (bt 11 1023) (.alt 10 (bt 11 2047) .done .stop) .stop))) (.alt 9 (bt 11 575) (.alt 6 (bt 11 639) (.take 7 (bt 11 767) (.take 8 (bt 11 1023) (.alt 10 (bt 11 2047) .done .stop))) .stop) .stop)))))))) (fun e w => m43_6 R (e 0) (e 1) (e 2) (e 8) w) (by kernel_rfl) (by kernel_rfl) (by kernel_rfl) (by kernel_rfl) (by kernel_rfl) (by kernel_rfl) (kcast (by kernel_rfl) h) hN (by kernel_rfl)
theorem s43_10 (hN : ∀ e w, (m43_5 R (e 0) (e 1) (e 2) w) → Q .normal e w) (hR : hR43 R Q) (e : Env) (w : World) (h : m43_10 R (e 0) (e 1) (e 2) (e 19) w) : W43 k43_10 Q e w := by
  refine coA (Operand.tmp 19) h (fun h1 => ?_) (fun h1 => ?_)
  · refine seA ?_
    exact rgA 7 (fun e w => m43_11 R (e 6) w) h1 fun e w h => then_N (s43_11 hR e w h)
  · exact skA (hN _ _ h1)
theorem s43_4 (hR : hR43 R Q) (e : Env) (w : World) (h : m43_4 R (e 0) (e 1) (e 2) w) : W43 k43_4 Q e w := by
  refine seA ?_
  have hN : ∀ e w, (m43_5 R (e 0) (e 1) (e 2) w) → (thenE (W43 k43_5 Q) Q) .normal e w := fun e w h => then_N (s43_5 hR e w h)
  have hR : hR43 R (thenE (W43 k43_5 Q) Q) := fun e w h => then_R (hR e w h)
  refine seA ?_
  exact rgA 6 (fun e w => m43_10 R (e 0) (e 1) (e 2) (e 19) w) h fun e w h => then_N (s43_10 hN hR e w h)
theorem s43_12 (hN : ∀ e w, (m43_4 R (e 0) (e 1) (e 2) w) → Q .normal e w) (hR : hR43 R Q) (e : Env) (w : World) (h : m43_12 R (e 0) (e 1) (e 2) (e 7) (e 16) w) : W43 k43_12 Q e w := by
  refine coA (Operand.tmp 16) h (fun h1 => ?_) (fun h1 => ?_)
  · refine seA ?_
    exact rgA 5 (fun e w => m43_13 R (e 6) w) h1 fun e w h => then_N (s43_13 hR e w h)
  · exact skA (hN _ _ h1)
theorem s43_3 (hR : hR43 R Q) (e : Env) (w : World) (h : m43_3 R (e 0) (e 1) (e 2) (e 7) w) : W43 k43_3 Q e w := by
  refine seA ?_
  have hN : ∀ e w, (m43_4 R (e 0) (e 1) (e 2) w) → (thenE (W43 k43_4 Q) Q) .normal e w := fun e w h => then_N (s43_4 hR e w h)
  have hR : hR43 R (thenE (W43 k43_4 Q) Q) := fun e w h => then_R (hR e w h)
  refine seA ?_
  exact rgA 4 (fun e w => m43_12 R (e 0) (e 1) (e 2) (e 7) (e 16) w) h fun e w h => then_N (s43_12 hN hR e w h)
theorem s43_2 (hR : hR43 R Q) (e : Env) (w : World) (h : m43_2 R (e 0) (e 1) (e 2) w) : W43 k43_2 Q e w := by
  refine seA ?_
  exact rgA 3 (fun e w => m43_3 R (e 0) (e 1) (e 2) (e 7) w) h fun e w h => then_N (s43_3 hR e w h)
theorem s43_14 (hN : ∀ e w, (m43_2 R (e 0) (e 1) (e 2) w) → Q .normal e w) (hR : hR43 R Q) (e : Env) (w : World) (h : m43_14 R (e 0) (e 1) (e 2) (e 11) w) : W43 k43_14 Q e w := by
  refine coA (Operand.tmp 11) h (fun h1 => ?_) (fun h1 => ?_)
  · refine seA ?_
    exact rgA 2 (fun e w => m43_15 R (e 6) w) h1 fun e w h => then_N (s43_15 hR e w h)
  · exact skA (hN _ _ h1)
theorem s43_1 (hR : hR43 R Q) (e : Env) (w : World) (h : m43_1 R (e 0) (e 1) (e 2) w) : W43 k43_1 Q e w := by
  refine seA ?_
  have hN : ∀ e w, (m43_2 R (e 0) (e 1) (e 2) w) → (thenE (W43 k43_2 Q) Q) .normal e w := fun e w h => then_N (s43_2 hR e w h)
  have hR : hR43 R (thenE (W43 k43_2 Q) Q) := fun e w h => then_R (hR e w h)
  refine seA ?_
  exact rgA 1 (fun e w => m43_14 R (e 0) (e 1) (e 2) (e 11) w) h fun e w h => then_N (s43_14 hN hR e w h)
theorem s43_0 (hR : hR43 R Q) (e : Env) (w : World) (h : m43_0 R (e 0) (e 1) (e 2) w) : W43 k43_0 Q e w := by
  refine seA ?_
  exact rgA 0 (fun e w => m43_1 R (e 0) (e 1) (e 2) w) h fun e w h => then_N (s43_1 hR e w h)
abbrev m43 (R : VP) (d0 from1 to2 : Value) (w : World) : Prop := m43_0 R d0 from1 to2 w
theorem s43 (d0 from1 to2 : Value) {R : VP} {w : World} (h : m43 R d0 from1 to2 w) :
    Calls Tryz.prog 43 #[d0, from1, to2] w fun e w' => ∃ v, e = .returned v ∧ R v w' :=
  calls_of_cwp (st := (fun i => 0)) (c := k43_0) (by kernel_rfl) Tryz.func43 (by kernel_rfl) (Nat.le_of_ble_eq_true (by kernel_rfl)) (by kernel_rfl)
    (s43_0 (R := R) (Q := endE Tryz.prog Tryz.f43 R) (fun e w h => kcast (by kernel_rfl) h) (argsE #[d0, from1, to2]) w (kcast (by kernel_rfl) h))
def m18_23 (R : VP) (t6 : Value) (w : World) : Prop :=
  R t6 w
def m18_21 (R : VP) (t6 : Value) (w : World) : Prop :=
  R t6 w
def m18_16 (R : VP) (t6 : Value) (w : World) : Prop :=
  R t6 w
def m18_14 (R : VP) (t6 : Value) (w : World) : Prop :=
  R t6 w
def m18_12 (R : VP) (t6 : Value) (w : World) : Prop :=
  R t6 w
def m18_11 (R : VP) (w : World) : Prop :=
  m18_12 R (vi 0) w
def m18_13 (R : VP) (t81 : Value) (w : World) : Prop :=
  condP t81
  (m18_14 R (vi 4) w)
  (m18_11 R w)
def m18_10 (R : VP) (d0 : Value) (w : World) : Prop :=
  callP Tryz.prog (fnV 51) #[d0] w fun t81 w =>
  m18_13 R t81 w
def m18_9 (R : VP) (d0 f8 : Value) (w : World) : Prop :=
  anyDraw w fun w =>
  heldP w fun J =>
  nilCheckP d0 fun t73 =>
  valJ Tryz.prog J (Instr.fieldAt 41 t73 0) fun t74 =>
  valJ Tryz.prog J (Instr.loadAt 67 f8) fun t76 =>
  valP Tryz.prog (Instr.loadAt 39 t74) w fun t75 w =>
  stayP J w
  (callP Tryz.prog (fnV 50) #[t75, t76] w fun t77 w =>
  stayP J w
  (nilCheckP d0 fun t78 =>
  valJ Tryz.prog J (Instr.fieldAt 41 t78 0) fun t79 =>
  unitP Tryz.prog (Instr.storeAt 39 t79 t77) w fun _ w =>
  stayP J w
  (m18_10 R d0 w)))
def m18_8 (R : VP) (d0 s2 f8 : Value) (w : World) : Prop :=
  valP Tryz.prog (Instr.fieldAt 67 f8 2) w fun t66 w =>
  valP Tryz.prog (Instr.loadAt 9 t66) w fun t67 w =>
  valP Tryz.prog (binS BinOp.add 9 (tm 67) (tm 68) t67 s2) w fun t69 w =>
  valP Tryz.prog (Instr.fieldAt 67 f8 2) w fun t70 w =>
  unitP Tryz.prog (Instr.storeAt 9 t70 t69) w fun _ w =>
  m18_9 R d0 f8 w
def m18_15 (R : VP) (d0 s2 f8 t65 : Value) (w : World) : Prop :=
  condP t65
  (m18_16 R (vi 5) w)
  (m18_8 R d0 s2 f8 w)
def m18_7 (R : VP) (d0 s2 i7 f8 need9 : Value) (w : World) : Prop :=
  callP Tryz.prog (fnV 49) #[d0] w fun t52 w =>
  valP Tryz.prog (binS BinOp.gtr 3 (tm 50) (tm 52) need9 t52) w fun t53 w =>
  condP t53
  (pickP t53 (Value.bool true) undef fun t65 =>
  m18_15 R d0 s2 f8 t65 w)
  (valP Tryz.prog (binS BinOp.lss 3 (tm 55) (ci 0) i7 (vi 0)) w fun t56 w =>
  condP t56
  (nilCheckP d0 fun t59 =>
  valP Tryz.prog (Instr.fieldAt 41 t59 0) w fun t60 w =>
  valP Tryz.prog (Instr.loadAt 39 t60) w fun t61 w =>
  builtinP Tryz.prog Builtin.len #[39] 3 #[false] #[t61] w fun t62 w =>
  valP Tryz.prog (binS BinOp.eql 3 (tm 62) (ci 256) t62 (vi 256)) w fun t63 w =>
  pickP t56 t63 (Value.bool false) fun t64 =>
  pickP t53 (Value.bool true) t64 fun t65 =>
  m18_15 R d0 s2 f8 t65 w)
  (pickP t56 undef (Value.bool false) fun t64 =>
  pickP t53 (Value.bool true) t64 fun t65 =>
  m18_15 R d0 s2 f8 t65 w))
def m18_19 (R : VP) (d0 s2 i7 f8 n10 : Value) (w : World) : Prop :=
  builtinP Tryz.prog Builtin.len #[9] 3 #[false] #[s2] w fun t44 w =>
  valP Tryz.prog (binS BinOp.add 3 (tm 42) (tm 44) n10 t44) w fun t45 w =>
  callP Tryz.prog (fnV 48) #[t45] w fun t46 w =>
  callP Tryz.prog (fnV 48) #[n10] w fun t48 w =>
  valP Tryz.prog (binS BinOp.sub 3 (tm 46) (tm 48) t46 t48) w fun t49 w =>
  m18_7 R d0 s2 i7 f8 t49 w
def m18_18 (R : VP) (d0 s2 i7 f8 : Value) (w : World) : Prop :=
  valP Tryz.prog (Instr.fieldAt 67 f8 1) w fun t35 w =>
  valP Tryz.prog (Instr.loadAt 9 t35) w fun t36 w =>
  builtinP Tryz.prog Builtin.len #[9] 3 #[false] #[t36] w fun t37 w =>
  valP Tryz.prog (Instr.fieldAt 67 f8 2) w fun t38 w =>
  valP Tryz.prog (Instr.loadAt 9 t38) w fun t39 w =>
  builtinP Tryz.prog Builtin.len #[9] 3 #[false] #[t39] w fun t40 w =>
  valP Tryz.prog (binS BinOp.add 3 (tm 37) (tm 40) t37 t40) w fun t41 w =>
  m18_19 R d0 s2 i7 f8 t41 w
def m18_17 (R : VP) (d0 s2 i7 f8 need9 t27 : Value) (w : World) : Prop :=
  condP t27
  (nilCheckP d0 fun t29 =>
  valP Tryz.prog (Instr.fieldAt 41 t29 0) w fun t30 w =>
  valP Tryz.prog (Instr.loadAt 39 t30) w fun t31 w =>
  valP Tryz.prog (Instr.indexAt 39 t31 i7) w fun t33 w =>
  valP Tryz.prog (Instr.loadAt 67 t33) w fun t34 w =>
  unitP Tryz.prog (Instr.storeAt 67 f8 t34) w fun _ w =>
  m18_18 R d0 s2 i7 f8 w)
  (m18_7 R d0 s2 i7 f8 need9 w)
def m18_6 (R : VP) (d0 s2 i7 f8 need9 : Value) (w : World) : Prop :=
  valP Tryz.prog (binS BinOp.geq 3 (tm 26) (ci 0) i7 (vi 0)) w fun t27 w =>
  m18_17 R d0 s2 i7 f8 need9 t27 w
def m18_5 (R : VP) (d0 s2 i7 f8 : Value) (w : World) : Prop :=
  builtinP Tryz.prog Builtin.len #[9] 3 #[false] #[s2] w fun t24 w =>
  callP Tryz.prog (fnV 48) #[t24] w fun t25 w =>
  m18_6 R d0 s2 i7 f8 t25 w
def m18_4 (R : VP) (d0 name1 s2 i7 : Value) (w : World) : Prop :=
  valP Tryz.prog (Instr.build 67 #[(0, name1)]) w fun t22 w =>
  valP Tryz.prog (Instr.alloc 67 true (.tuple #[])) w fun f8 w =>
  unitP Tryz.prog (Instr.storeAt 67 f8 t22) w fun _ w =>
  m18_5 R d0 s2 i7 f8 w
def m18_3 (R : VP) (d0 name1 s2 : Value) (w : World) : Prop :=
  callP Tryz.prog (fnV 47) #[d0, name1] w fun t20 w =>
  m18_4 R d0 name1 s2 t20 w
def m18_20 (R : VP) (d0 name1 s2 t17 : Value) (w : World) : Prop :=
  condP t17
  (m18_21 R (vi 4) w)
  (m18_3 R d0 name1 s2 w)
def m18_2 (R : VP) (d0 name1 s2 : Value) (w : World) : Prop :=
  nilCheckP d0 fun t15 =>
  valP Tryz.prog (Instr.fieldAt 41 t15 3) w fun t16 w =>
  valP Tryz.prog (Instr.loadAt 4 t16) w fun t17 w =>
  m18_20 R d0 name1 s2 t17 w
def m18_22 (R : VP) (d0 name1 s2 t13 : Value) (w : World) : Prop :=
  condP t13
  (m18_23 R (vi 1) w)
  (m18_2 R d0 name1 s2 w)
def m18_1 (R : VP) (d0 name1 s2 : Value) (w : World) : Prop :=
  callP Tryz.prog (fnV 46) #[name1] w fun t12 w =>
  valP Tryz.prog (Op.unary UnOp.not t12) w fun t13 w =>
  m18_22 R d0 name1 s2 t13 w
def m18_0 (R : VP) (d0 name1 s2 : Value) (w : World) : Prop :=
  m18_1 R d0 name1 s2 w
abbrev W18 := cwp Tryz.prog (fun i => 0)
noncomputable def k18_0 := bodyOf Tryz.f18
noncomputable def k18_1 := c2 k18_0
noncomputable def k18_2 := c2 k18_1
noncomputable def k18_3 := c2 k18_2
noncomputable def k18_4 := c2 k18_3
noncomputable def k18_5 := c2 k18_4
noncomputable def k18_6 := c2 k18_5
noncomputable def k18_7 := c2 k18_6
noncomputable def k18_8 := c2 k18_7
noncomputable def k18_9 := c2 k18_8
noncomputable def k18_10 := c2 k18_9
noncomputable def k18_11 := c2 k18_10
noncomputable def k18_12 := c2 k18_11
noncomputable def k18_13 := c2 (c1 k18_10)
noncomputable def k18_14 := c2 (c1 k18_13)
noncomputable def k18_15 := c2 (c1 k18_7)
noncomputable def k18_16 := c2 (c1 k18_15)
noncomputable def k18_17 := c2 (c1 k18_6)
noncomputable def k18_18 := c2 (c1 k18_17)
noncomputable def k18_19 := c2 k18_18
noncomputable def k18_20 := c2 (c1 k18_2)
noncomputable def k18_21 := c2 (c1 k18_20)
noncomputable def k18_22 := c2 (c1 k18_1)
noncomputable def k18_23 := c2 (c1 k18_22)
abbrev hR18 (R : VP) (Q : EQ) : Prop := ∀ e w, (R (e 6) w) → Q .ret e w
theorem s18_23 (hR : hR18 R Q) (e : Env) (w : World) (h : m18_23 R (e 6) w) : W18 k18_23 Q e w := by
  exact reA (hR _ _ h)
theorem s18_21 (hR : hR18 R Q) (e : Env) (w : World) (h : m18_21 R (e 6) w) : W18 k18_21 Q e w := by
  exact reA (hR _ _ h)
theorem s18_16 (hR : hR18 R Q) (e : Env) (w : World) (h : m18_16 R (e 6) w) : W18 k18_16 Q e w := by
  exact reA (hR _ _ h)
theorem s18_14 (hR : hR18 R Q) (e : Env) (w : World) (h : m18_14 R (e 6) w) : W18 k18_14 Q e w := by
  exact reA (hR _ _ h)
theorem s18_12 (hR : hR18 R Q) (e : Env) (w : World) (h : m18_12 R (e 6) w) : W18 k18_12 Q e w := by
  exact reA (hR _ _ h)
theorem s18_11 (hR : hR18 R Q) (e : Env) (w : World) (h : m18_11 R w) : W18 k18_11 Q e w := by
  refine seA ?_
  exact rgA 18 (fun e w => m18_12 R (e 6) w) h fun e w h => then_N (s18_12 hR e w h)
theorem s18_13 (hN : ∀ e w, (m18_11 R w) → Q .normal e w) (hR : hR18 R Q) (e : Env) (w : World) (h : m18_13 R (e 81) w) : W18 k18_13 Q e w := by
  refine coA (Operand.tmp 81) h (fun h1 => ?_) (fun h1 => ?_)
  · refine seA ?_
    exact rgA 17 (fun e w => m18_14 R (e 6) w) h1 fun e w h => then_N (s18_14 hR e w h)
  · exact skA (hN _ _ h1)
theorem s18_10 (hR : hR18 R Q) (e : Env) (w : World) (h : m18_10 R (e 0) w) : W18 k18_10 Q e w := by
  refine seA ?_
  have hN : ∀ e w, (m18_11 R w) → (thenE (W18 k18_11 Q) Q) .normal e w := fun e w h => then_N (s18_11 hR e w h)
  have hR : hR18 R (thenE (W18 k18_11 Q) Q) := fun e w h => then_R (hR e w h)
  refine seA ?_
  exact rgA 16 (fun e w => m18_13 R (e 81) w) h fun e w h => then_N (s18_13 hN hR e w h)
theorem s18_9 (hR : hR18 R Q) (e : Env) (w : World) (h : m18_9 R (e 0) (e 8) w) : W18 k18_9 Q e w := by
  refine seA ?_
  have hN : ∀ e w, (m18_10 R (e 0) w) → (thenE (W18 k18_10 Q) Q) .normal e w := fun e w h => then_N (s18_10 hR e w h)
  exact treeJ_ok 15 10 (bt 10 0) (.take 0 (bt 10 1) (.take 1 (bt 10 3) (.take 2 (bt 10 7) (.take 3 (bt 10 15) (.take 5 (bt 10 47) (.alt 4 (bt 10 63) (.alt 6 (bt 10 127) (.take 7 (bt 10 255) (.take 8 (bt 10 511) (.alt 9 (bt 10 1023) .done .stop))) .stop) .stop)))))) (fun e w => m18_10 R (e 0) w) (by kernel_rfl) (by kernel_rfl) (by kernel_rfl) (by kernel_rfl) (by kernel_rfl) (by kernel_rfl) (kcast (by kernel_rfl) h) hN (by kernel_rfl)
theorem s18_8 (hR : hR18 R Q) (e : Env) (w : World) (h : m18_8 R (e 0) (e 2) (e 8) w) : W18 k18_8 Q e w := by
  refine seA ?_
  exact rgA 14 (fun e w => m18_9 R (e 0) (e 8) w) h fun e w h => then_N (s18_9 hR e w h)
theorem s18_15 (hN : ∀ e w, (m18_8 R (e 0) (e 2) (e 8) w) → Q .normal e w) (hR : hR18 R Q) (e : Env) (w : World) (h : m18_15 R (e 0) (e 2) (e 8) (e 65) w) : W18 k18_15 Q e w := by
  refine coA (Operand.tmp 65) h (fun h1 => ?_) (fun h1 => ?_)
  · refine seA ?_
    exact rgA 13 (fun e w => m18_16 R (e 6) w) h1 fun e w h => then_N (s18_16 hR e w h)
  · exact skA (hN _ _ h1)
theorem s18_7 (hR : hR18 R Q) (e : Env) (w : World) (h : m18_7 R (e 0) (e 2) (e 7) (e 8) (e 9) w) : W18 k18_7 Q e w := by
  refine seA ?_
  have hN : ∀ e w, (m18_8 R (e 0) (e 2) (e 8) w) → (thenE (W18 k18_8 Q) Q) .normal e w := fun e w h => then_N (s18_8 hR e w h)
  have hR : hR18 R (thenE (W18 k18_8 Q) Q) := fun e w h => then_R (hR e w h)
  refine seA ?_
  exact rgA 12 (fun e w => m18_15 R (e 0) (e 2) (e 8) (e 65) w) h fun e w h => then_N (s18_15 hN hR e w h)
theorem s18_19 (hN : ∀ e w, (m18_7 R (e 0) (e 2) (e 7) (e 8) (e 9) w) → Q .normal e w) (e : Env) (w : World) (h : m18_19 R (e 0) (e 2) (e 7) (e 8) (e 10) w) : W18 k18_19 Q e w := by
  exact rgA 11 (fun e w => m18_7 R (e 0) (e 2) (e 7) (e 8) (e 9) w) h hN
theorem s18_18 (hN : ∀ e w, (m18_7 R (e 0) (e 2) (e 7) (e 8) (e 9) w) → Q .normal e w) (e : Env) (w : World) (h : m18_18 R (e 0) (e 2) (e 7) (e 8) w) : W18 k18_18 Q e w := by
  refine seA ?_
  exact rgA 10 (fun e w => m18_19 R (e 0) (e 2) (e 7) (e 8) (e 10) w) h fun e w h => then_N (s18_19 hN e w h)
theorem s18_17 (hN : ∀ e w, (m18_7 R (e 0) (e 2) (e 7) (e 8) (e 9) w) → Q .normal e w) (e : Env) (w : World) (h : m18_17 R (e 0) (e 2) (e 7) (e 8) (e 9) (e 27) w) : W18 k18_17 Q e w := by
  refine coA (Operand.tmp 27) h (fun h1 => ?_) (fun h1 => ?_)
  · refine seA ?_
    exact rgA 9 (fun e w => m18_18 R (e 0) (e 2) (e 7) (e 8) w) h1 fun e w h => then_N (s18_18 hN e w h)
  · exact skA (hN _ _ h1)
theorem s18_6 (hR : hR18 R Q) (e : Env) (w : World) (h : m18_6 R (e 0) (e 2) (e 7) (e 8) (e 9) w) : W18 k18_6 Q e w := by
  refine seA ?_
  have hN : ∀ e w, (m18_7 R (e 0) (e 2) (e 7) (e 8) (e 9) w) → (thenE (W18 k18_7 Q) Q) .normal e w := fun e w h => then_N (s18_7 hR e w h)
  refine seA ?_
  exact rgA 8 (fun e w => m18_17 R (e 0) (e 2) (e 7) (e 8) (e 9) (e 27) w) h fun e w h => then_N (s18_17 hN e w h)
theorem s18_5 (hR : hR18 R Q) (e : Env) (w : World) (h : m18_5 R (e 0) (e 2) (e 7) (e 8) w) : W18 k18_5 Q e w := by
  refine seA ?_
  exact rgA 7 (fun e w => m18_6 R (e 0) (e 2) (e 7) (e 8) (e 9) w) h fun e w h => then_N (s18_6 hR e w h)
theorem s18_4 (hR : hR18 R Q) (e : Env) (w : World) (h : m18_4 R (e 0) (e 1) (e 2) (e 7) w) : W18 k18_4 Q e w := by
  refine seA ?_
  exact rgA 6 (fun e w => m18_5 R (e 0) (e 2) (e 7) (e 8) w) h fun e w h => then_N (s18_5 hR e w h)
theorem s18_3 (hR : hR18 R Q) (e : Env) (w : World) (h : m18_3 R (e 0) (e 1) (e 2) w) : W18 k18_3 Q e w := by
  refine seA ?_
  exact rgA 5 (fun e w => m18_4 R (e 0) (e 1) (e 2) (e 7) w) h fun e w h => then_N (s18_4 hR e w h)
theorem s18_20 (hN : ∀ e w, (m18_3 R (e 0) (e 1) (e 2) w) → Q .normal e w) (hR : hR18 R Q) (e : Env) (w : World) (h : m18_20 R (e 0) (e 1) (e 2) (e 17) w) : W18 k18_20 Q e w := by
  refine coA (Operand.tmp 17) h (fun h1 => ?_) (fun h1 => ?_)
  · refine seA ?_
    exact rgA 4 (fun e w => m18_21 R (e 6) w) h1 fun e w h => then_N (s18_21 hR e w h)
  · exact skA (hN _ _ h1)
theorem s18_2 (hR : hR18 R Q) (e : Env) (w : World) (h : m18_2 R (e 0) (e 1) (e 2) w) : W18 k18_2 Q e w := by
  refine seA ?_
  have hN : ∀ e w, (m18_3 R (e 0) (e 1) (e 2) w) → (thenE (W18 k18_3 Q) Q) .normal e w := fun e w h => then_N (s18_3 hR e w h)
  have hR : hR18 R (thenE (W18 k18_3 Q) Q) := fun e w h => then_R (hR e w h)
  refine seA ?_
  exact rgA 3 (fun e w => m18_20 R (e 0) (e 1) (e 2) (e 17) w) h fun e w h => then_N (s18_20 hN hR e w h)
theorem s18_22 (hN : ∀ e w, (m18_2 R (e 0) (e 1) (e 2) w) → Q .normal e w) (hR : hR18 R Q) (e : Env) (w : World) (h : m18_22 R (e 0) (e 1) (e 2) (e 13) w) : W18 k18_22 Q e w := by
  refine coA (Operand.tmp 13) h (fun h1 => ?_) (fun h1 => ?_)
  · refine seA ?_
    exact rgA 2 (fun e w => m18_23 R (e 6) w) h1 fun e w h => then_N (s18_23 hR e w h)
  · exact skA (hN _ _ h1)
theorem s18_1 (hR : hR18 R Q) (e : Env) (w : World) (h : m18_1 R (e 0) (e 1) (e 2) w) : W18 k18_1 Q e w := by
  refine seA ?_
  have hN : ∀ e w, (m18_2 R (e 0) (e 1) (e 2) w) → (thenE (W18 k18_2 Q) Q) .normal e w := fun e w h => then_N (s18_2 hR e w h)
  have hR : hR18 R (thenE (W18 k18_2 Q) Q) := fun e w h => then_R (hR e w h)
  refine seA ?_
  exact rgA 1 (fun e w => m18_22 R (e 0) (e 1) (e 2) (e 13) w) h fun e w h => then_N (s18_22 hN hR e w h)
theorem s18_0 (hR : hR18 R Q) (e : Env) (w : World) (h : m18_0 R (e 0) (e 1) (e 2) w) : W18 k18_0 Q e w := by
  refine seA ?_
  exact rgA 0 (fun e w => m18_1 R (e 0) (e 1) (e 2) w) h fun e w h => then_N (s18_1 hR e w h)
abbrev m18 (R : VP) (d0 name1 s2 : Value) (w : World) : Prop := m18_0 R d0 name1 s2 w
theorem s18 (d0 name1 s2 : Value) {R : VP} {w : World} (h : m18 R d0 name1 s2 w) :
    Calls Tryz.prog 18 #[d0, name1, s2] w fun e w' => ∃ v, e = .returned v ∧ R v w' :=
  calls_of_cwp (st := (fun i => 0)) (c := k18_0) (by kernel_rfl) Tryz.func18 (by kernel_rfl) (Nat.le_of_ble_eq_true (by kernel_rfl)) (by kernel_rfl)
    (s18_0 (R := R) (Q := endE Tryz.prog Tryz.f18 R) (fun e w h => kcast (by kernel_rfl) h) (argsE #[d0, name1, s2]) w (kcast (by kernel_rfl) h))
def m16_8 (R : VP) (K1 : (Value × Value) → World → Prop) (d0 keep1 out4 i5 : Value) (w : World) : Prop :=
  valP Tryz.prog (binS BinOp.add 3 (tm 15) (ci 1) i5 (vi 1)) w fun t16 w =>
  K1 (out4, t16) w
def m16_11 (R : VP) (K1 : (Value × Value) → World → Prop) (d0 keep1 out4 i5 f6 s7 : Value) (w : World) : Prop :=
  valP Tryz.prog (Instr.fieldAt 67 f6 0) w fun t59 w =>
  valP Tryz.prog (Instr.loadAt 9 t59) w fun t60 w =>
  valP Tryz.prog (Instr.fieldAt 67 f6 1) w fun t61 w =>
  valP Tryz.prog (Instr.loadAt 9 t61) w fun t62 w =>
  valP Tryz.prog (binS BinOp.add 9 (tm 62) (tm 63) t62 s7) w fun t64 w =>
  valP Tryz.prog (Instr.build 67 #[(0, t60), (1, t64)]) w fun t65 w =>
  valP Tryz.prog (Instr.buildSlice 39 1 #[(0, t65)]) w fun t66 w =>
  builtinP Tryz.prog Builtin.append #[39, 39] 39 #[false, false] #[out4, t66] w fun t67 w =>
  m16_8 R K1 d0 keep1 t67 i5 w
def m16_13 (R : VP) (K1 : (Value × Value) → World → Prop) (d0 keep1 out4 i5 f6 s7 t50 : Value) (w : World) : Prop :=
  condP t50
  (valQ Tryz.prog (Instr.fieldAt 67 f6 2) w fun t51 =>
  valQ Tryz.prog (Instr.loadAt 9 t51) w fun t52 =>
  valQ Tryz.prog (Instr.indexAt 23 keep1 i5) w fun t55 =>
  valQ Tryz.prog (Instr.loadAt 3 t55) w fun t56 =>
  valQ Tryz.prog (Instr.sliceAt 9 t52 none (some t56) none) w fun t57 =>
  anyDraw w fun w =>
  m16_11 R K1 d0 keep1 out4 i5 f6 t57 w)
  (m16_11 R K1 d0 keep1 out4 i5 f6 s7 w)
def m16_12 (R : VP) (K1 : (Value × Value) → World → Prop) (d0 keep1 out4 i5 f6 s7 t37 : Value) (w : World) : Prop :=
  condP t37
  (valP Tryz.prog (Instr.fieldAt 67 f6 2) w fun t38 w =>
  valP Tryz.prog (Instr.loadAt 9 t38) w fun t39 w =>
  m16_11 R K1 d0 keep1 out4 i5 f6 t39 w)
  (builtinP Tryz.prog Builtin.len #[23] 3 #[false] #[keep1] w fun t42 w =>
  valP Tryz.prog (binS BinOp.lss 3 (tm 40) (tm 42) i5 t42) w fun t43 w =>
  condP t43
  (valP Tryz.prog (Instr.indexAt 23 keep1 i5) w fun t47 w =>
  valP Tryz.prog (Instr.loadAt 3 t47) w fun t48 w =>
  valP Tryz.prog (binS BinOp.gtr 3 (tm 48) (ci 0) t48 (vi 0)) w fun t49 w =>
  pickP t43 t49 (Value.bool false) fun t50 =>
  m16_13 R K1 d0 keep1 out4 i5 f6 s7 t50 w)
  (pickP t43 undef (Value.bool false) fun t50 =>
  m16_13 R K1 d0 keep1 out4 i5 f6 s7 t50 w))
def m16_10 (R : VP) (K1 : (Value × Value) → World → Prop) (d0 keep1 out4 i5 f6 s7 : Value) (w : World) : Prop :=
  builtinQ Tryz.prog Builtin.len #[23] 3 #[false] #[keep1] w fun t26 =>
  valQ Tryz.prog (binS BinOp.lss 3 (tm 24) (tm 26) i5 t26) w fun t27 =>
  condP t27
  (valQ Tryz.prog (Instr.indexAt 23 keep1 i5) w fun t31 =>
  valQ Tryz.prog (Instr.loadAt 3 t31) w fun t32 =>
  valQ Tryz.prog (Instr.fieldAt 67 f6 2) w fun t33 =>
  valQ Tryz.prog (Instr.loadAt 9 t33) w fun t34 =>
  builtinQ Tryz.prog Builtin.len #[9] 3 #[false] #[t34] w fun t35 =>
  valQ Tryz.prog (binS BinOp.geq 3 (tm 32) (tm 35) t32 t35) w fun t36 =>
  pickP t27 t36 (Value.bool false) fun t37 =>
  anyDraw w fun w =>
  m16_12 R K1 d0 keep1 out4 i5 f6 s7 t37 w)
  (pickP t27 undef (Value.bool false) fun t37 =>
  anyDraw w fun w =>
  m16_12 R K1 d0 keep1 out4 i5 f6 s7 t37 w)
def m16_9 (R : VP) (K1 : (Value × Value) → World → Prop) (d0 keep1 out4 i5 f6 : Value) (w : World) : Prop :=
  m16_10 R K1 d0 keep1 out4 i5 f6 (Value.string ⟨#[]⟩) w
def m16_7 (R : VP) (K1 : (Value × Value) → World → Prop) (d0 keep1 out4 i5 : Value) (w : World) : Prop :=
  nilCheckP d0 fun t18 =>
  valP Tryz.prog (Instr.fieldAt 41 t18 0) w fun t19 w =>
  valP Tryz.prog (Instr.loadAt 39 t19) w fun t20 w =>
  valP Tryz.prog (Instr.indexAt 39 t20 i5) w fun t22 w =>
  valP Tryz.prog (Instr.loadAt 67 t22) w fun t23 w =>
  valP Tryz.prog (Instr.alloc 67 true (.tuple #[])) w fun f6 w =>
  unitP Tryz.prog (Instr.storeAt 67 f6 t23) w fun _ w =>
  m16_9 R K1 d0 keep1 out4 i5 f6 w
def m16_4 (R : VP) (d0 : Value) (w : World) : Prop :=
  nilCheckP d0 fun t76 =>
  valP Tryz.prog (Instr.fieldAt 41 t76 2) w fun t77 w =>
  unitP Tryz.prog (Instr.storeAt 3 t77 (vi (-1))) w fun _ w =>
  R (Value.tuple #[]) w
def m16_3 (R : VP) (d0 : Value) (w : World) : Prop :=
  nilCheckP d0 fun t73 =>
  valP Tryz.prog (Instr.fieldAt 41 t73 3) w fun t74 w =>
  unitP Tryz.prog (Instr.storeAt 4 t74 (Value.bool false)) w fun _ w =>
  m16_4 R d0 w
def m16_2 (R : VP) (d0 out4 : Value) (w : World) : Prop :=
  nilCheckP d0 fun t70 =>
  valP Tryz.prog (Instr.fieldAt 41 t70 0) w fun t71 w =>
  unitP Tryz.prog (Instr.storeAt 39 t71 out4) w fun _ w =>
  m16_3 R d0 w
def m16_14 (R : VP) (K1 : (Value × Value) → World → Prop) (d0 keep1 out4 i5 t14 : Value) (w : World) : Prop :=
  condP t14
  (m16_7 R K1 d0 keep1 out4 i5 w)
  (m16_2 R d0 out4 w)
def m16_6 (R : VP) (K1 : (Value × Value) → World → Prop) (d0 keep1 out4 i5 : Value) (w : World) : Prop :=
  nilCheckP d0 fun t10 =>
  valP Tryz.prog (Instr.fieldAt 41 t10 0) w fun t11 w =>
  valP Tryz.prog (Instr.loadAt 39 t11) w fun t12 w =>
  builtinP Tryz.prog Builtin.len #[39] 3 #[false] #[t12] w fun t13 w =>
  valP Tryz.prog (binS BinOp.lss 3 (tm 8) (tm 13) i5 t13) w fun t14 w =>
  m16_14 R K1 d0 keep1 out4 i5 t14 w
def m16_5 (R : VP) (d0 keep1 out4 i5 : Value) (w : World) : Prop :=
  loopP (fun (K1 : (Value × Value) → World → Prop) (s : Value × Value) w => m16_6 R K1 d0 keep1 s.1 s.2 w) (out4, i5) w
def m16_1 (R : VP) (d0 keep1 out4 : Value) (w : World) : Prop :=
  m16_5 R d0 keep1 out4 (vi 0) w
def m16_0 (R : VP) (d0 keep1 : Value) (w : World) : Prop :=
  m16_1 R d0 keep1 (Value.slice none 0 0) w
abbrev W16 := cwp Tryz.prog (fun i => cond (Nat.beq i 9) 1 (cond (Nat.beq i 6) 1 (0)))
noncomputable def k16_0 := bodyOf Tryz.f16
noncomputable def k16_1 := c2 k16_0
noncomputable def k16_2 := c2 k16_1
noncomputable def k16_3 := c2 k16_2
noncomputable def k16_4 := c2 k16_3
noncomputable def k16_5 := c2 (c1 k16_1)
noncomputable def k16_6 := c1 (c1 k16_5)
noncomputable def k16_7 := c2 k16_6
noncomputable def k16_8 := c2 k16_7
noncomputable def k16_9 := c2 (c1 (c1 k16_7))
noncomputable def k16_10 := c2 k16_9
noncomputable def k16_11 := c2 k16_10
noncomputable def k16_12 := c2 (c1 k16_10)
noncomputable def k16_13 := c2 (c2 k16_12)
noncomputable def k16_14 := c2 (c1 k16_6)
theorem s16_8 {K1 : (Value × Value) → World → Prop} (hN : ∀ e w, (K1 ((e 4), (e 5)) w) → Q .normal e w) (e : Env) (w : World) (h : m16_8 R K1 (e 0) (e 1) (e 4) (e 5) w) : W16 k16_8 Q e w := by
  exact rgA 3 (fun e w => K1 ((e 4), (e 5)) w) h hN
theorem s16_11 {K1 : (Value × Value) → World → Prop} (hN : ∀ e w, (m16_8 R K1 (e 0) (e 1) (e 4) (e 5) w) → Q .normal e w) (e : Env) (w : World) (h : m16_11 R K1 (e 0) (e 1) (e 4) (e 5) (e 6) (e 7) w) : W16 k16_11 Q e w := by
  exact rgA 10 (fun e w => m16_8 R K1 (e 0) (e 1) (e 4) (e 5) w) h hN
theorem s16_13 {K1 : (Value × Value) → World → Prop} (hN : ∀ e w, (m16_11 R K1 (e 0) (e 1) (e 4) (e 5) (e 6) (e 7) w) → Q .normal e w) (e : Env) (w : World) (h : m16_13 R K1 (e 0) (e 1) (e 4) (e 5) (e 6) (e 7) (e 50) w) : W16 k16_13 Q e w := by
  refine coA (Operand.tmp 50) h (fun h1 => ?_) (fun h1 => ?_)
  · exact quA 9 (fun e w => m16_11 R K1 (e 0) (e 1) (e 4) (e 5) (e 6) (e 7) w) h1 hN
  · exact skA (hN _ _ h1)
theorem s16_12 {K1 : (Value × Value) → World → Prop} (hN : ∀ e w, (m16_11 R K1 (e 0) (e 1) (e 4) (e 5) (e 6) (e 7) w) → Q .normal e w) (e : Env) (w : World) (h : m16_12 R K1 (e 0) (e 1) (e 4) (e 5) (e 6) (e 7) (e 37) w) : W16 k16_12 Q e w := by
  refine coA (Operand.tmp 37) h (fun h1 => ?_) (fun h1 => ?_)
  · exact rgA 7 (fun e w => m16_11 R K1 (e 0) (e 1) (e 4) (e 5) (e 6) (e 7) w) h1 hN
  · refine seA ?_
    exact rgA 8 (fun e w => m16_13 R K1 (e 0) (e 1) (e 4) (e 5) (e 6) (e 7) (e 50) w) h1 fun e w h => then_N (s16_13 hN e w h)
theorem s16_10 {K1 : (Value × Value) → World → Prop} (hN : ∀ e w, (m16_8 R K1 (e 0) (e 1) (e 4) (e 5) w) → Q .normal e w) (e : Env) (w : World) (h : m16_10 R K1 (e 0) (e 1) (e 4) (e 5) (e 6) (e 7) w) : W16 k16_10 Q e w := by
  refine seA ?_
  have hN : ∀ e w, (m16_11 R K1 (e 0) (e 1) (e 4) (e 5) (e 6) (e 7) w) → (thenE (W16 k16_11 Q) Q) .normal e w := fun e w h => then_N (s16_11 hN e w h)
  refine seA ?_
  have hN : ∀ e w, (m16_12 R K1 (e 0) (e 1) (e 4) (e 5) (e 6) (e 7) (e 37) w) → (thenE (W16 k16_12 (thenE (W16 k16_11 Q) Q)) (thenE (W16 k16_11 Q) Q)) .normal e w := fun e w h => then_N (s16_12 hN e w h)
  exact quA 6 (fun e w => m16_12 R K1 (e 0) (e 1) (e 4) (e 5) (e 6) (e 7) (e 37) w) h hN
theorem s16_9 {K1 : (Value × Value) → World → Prop} (hN : ∀ e w, (m16_8 R K1 (e 0) (e 1) (e 4) (e 5) w) → Q .normal e w) (e : Env) (w : World) (h : m16_9 R K1 (e 0) (e 1) (e 4) (e 5) (e 6) w) : W16 k16_9 Q e w := by
  refine seA ?_
  exact rgA 5 (fun e w => m16_10 R K1 (e 0) (e 1) (e 4) (e 5) (e 6) (e 7) w) h fun e w h => then_N (s16_10 hN e w h)
theorem s16_7 {K1 : (Value × Value) → World → Prop} (hN : ∀ e w, (K1 ((e 4), (e 5)) w) → Q .normal e w) (e : Env) (w : World) (h : m16_7 R K1 (e 0) (e 1) (e 4) (e 5) w) : W16 k16_7 Q e w := by
  refine seA ?_
  have hN : ∀ e w, (m16_8 R K1 (e 0) (e 1) (e 4) (e 5) w) → (thenE (W16 k16_8 Q) Q) .normal e w := fun e w h => then_N (s16_8 hN e w h)
  refine block_ok 1 (by kernel_rfl) ?_
  have hN : ∀ e w, (m16_8 R K1 (e 0) (e 1) (e 4) (e 5) w) → (inBlockE 1 (thenE (W16 k16_8 Q) Q)) .normal e w := fun e w h => block_N (hN e w h)
  refine seA ?_
  exact rgA 4 (fun e w => m16_9 R K1 (e 0) (e 1) (e 4) (e 5) (e 6) w) h fun e w h => then_N (s16_9 (R := R) (Q := (inBlockE 1 (thenE (W16 k16_8 Q) Q))) hN e w h)
theorem s16_4 (hN : ∀ e w, (R (Value.tuple #[]) w) → Q .normal e w) (e : Env) (w : World) (h : m16_4 R (e 0) w) : W16 k16_4 Q e w := by
  exact rgA 13 (fun e w => R (Value.tuple #[]) w) h hN
theorem s16_3 (hN : ∀ e w, (R (Value.tuple #[]) w) → Q .normal e w) (e : Env) (w : World) (h : m16_3 R (e 0) w) : W16 k16_3 Q e w := by
  refine seA ?_
  exact rgA 12 (fun e w => m16_4 R (e 0) w) h fun e w h => then_N (s16_4 hN e w h)
theorem s16_2 (hN : ∀ e w, (R (Value.tuple #[]) w) → Q .normal e w) (e : Env) (w : World) (h : m16_2 R (e 0) (e 4) w) : W16 k16_2 Q e w := by
  refine seA ?_
  exact rgA 11 (fun e w => m16_3 R (e 0) w) h fun e w h => then_N (s16_3 hN e w h)
theorem s16_14 {K1 : (Value × Value) → World → Prop} (hN : ∀ e w, (m16_7 R K1 (e 0) (e 1) (e 4) (e 5) w) → Q .normal e w) (hX0 : ∀ e w, (m16_2 R (e 0) (e 4) w) → Q (.exit 0) e w) (e : Env) (w : World) (h : m16_14 R K1 (e 0) (e 1) (e 4) (e 5) (e 14) w) : W16 k16_14 Q e w := by
  refine coA (Operand.tmp 14) h (fun h1 => ?_) (fun h1 => ?_)
  · exact skA (hN _ _ h1)
  · exact exA 0 (hX0 _ _ h1)
theorem s16_6 {K1 : (Value × Value) → World → Prop} (hN : ∀ e w, (K1 ((e 4), (e 5)) w) → Q .normal e w) (hX0 : ∀ e w, (m16_2 R (e 0) (e 4) w) → Q (.exit 0) e w) (e : Env) (w : World) (h : m16_6 R K1 (e 0) (e 1) (e 4) (e 5) w) : W16 k16_6 Q e w := by
  refine seA ?_
  have hN : ∀ e w, (m16_7 R K1 (e 0) (e 1) (e 4) (e 5) w) → (thenE (W16 k16_7 Q) Q) .normal e w := fun e w h => then_N (s16_7 hN e w h)
  have hX0 : ∀ e w, (m16_2 R (e 0) (e 4) w) → (thenE (W16 k16_7 Q) Q) (.exit 0) e w := fun e w h => then_X (hX0 e w h)
  refine seA ?_
  exact rgA 2 (fun e w => m16_14 R K1 (e 0) (e 1) (e 4) (e 5) (e 14) w) h fun e w h => then_N (s16_14 hN hX0 e w h)
theorem s16_5 (hN : ∀ e w, (m16_2 R (e 0) (e 4) w) → Q .normal e w) (e : Env) (w : World) (h : m16_5 R (e 0) (e 1) (e 4) (e 5) w) : W16 k16_5 Q e w := by
  refine block_ok 0 (by kernel_rfl) ?_
  have hX0 : ∀ e w, (m16_2 R (e 0) (e 4) w) → (inBlockE 0 Q) (.exit 0) e w := fun e w h => inBlock_same (Q := Q) 0 (hN e w h)
  refine loop_ok' (fun (e : Env) => (e 4, e 5)) [0, 1] (by kernel_rfl) (by kernel_rfl) h (fun K e' w' hk h' => ?_)
  have r0 : e' 0 = e 0 := hk 0 (by decide)
  have r1 : e' 1 = e 1 := hk 1 (by decide)
  have hX0 : ∀ e w, (m16_2 R (e 0) (e 4) w) → (thenE (fun (e : Env) w => K ((e 4), (e 5)) w) (inBlockE 0 Q)) (.exit 0) e w := fun e w h => then_X (hX0 e w h)
  exact s16_6 (K1 := K) (fun _ _ h => then_N h) hX0 e' w' (by rw [r0, r1]; exact h')
theorem s16_1 (hN : ∀ e w, (R (Value.tuple #[]) w) → Q .normal e w) (e : Env) (w : World) (h : m16_1 R (e 0) (e 1) (e 4) w) : W16 k16_1 Q e w := by
  refine seA ?_
  have hN : ∀ e w, (m16_2 R (e 0) (e 4) w) → (thenE (W16 k16_2 Q) Q) .normal e w := fun e w h => then_N (s16_2 hN e w h)
  refine seA ?_
  exact rgA 1 (fun e w => m16_5 R (e 0) (e 1) (e 4) (e 5) w) h fun e w h => then_N (s16_5 hN e w h)
theorem s16_0 (hN : ∀ e w, (R (Value.tuple #[]) w) → Q .normal e w) (e : Env) (w : World) (h : m16_0 R (e 0) (e 1) w) : W16 k16_0 Q e w := by
  refine seA ?_
  exact rgA 0 (fun e w => m16_1 R (e 0) (e 1) (e 4) w) h fun e w h => then_N (s16_1 hN e w h)
abbrev m16 (R : VP) (d0 keep1 : Value) (w : World) : Prop := m16_0 R d0 keep1 w
theorem s16 (d0 keep1 : Value) {R : VP} {w : World} (h : m16 R d0 keep1 w) :
    Calls Tryz.prog 16 #[d0, keep1] w fun e w' => ∃ v, e = .returned v ∧ R v w' :=
  calls_of_cwp (st := (fun i => cond (Nat.beq i 9) 1 (cond (Nat.beq i 6) 1 (0)))) (c := k16_0) (by kernel_rfl) Tryz.func16 (by kernel_rfl) (Nat.le_of_ble_eq_true (by kernel_rfl)) (by kernel_rfl)
    (s16_0 (R := R) (Q := endE Tryz.prog Tryz.f16 R) (fun e w h => kcast (by kernel_rfl) h) (argsE #[d0, keep1]) w (kcast (by kernel_rfl) h))
def m14_5 (R : VP) (t2 t3 : Value) (w : World) : Prop :=
  valS Tryz.prog (loadC 41 t2) w fun r0 =>
  R (Value.tuple #[r0, t3]) w
def m14_3 (R : VP) (t2 t3 : Value) (w : World) : Prop :=
  valS Tryz.prog (loadC 41 t2) w fun r0 =>
  R (Value.tuple #[r0, t3]) w
def m14_2 (R : VP) (n0 t2 : Value) (w : World) : Prop :=
  valP Tryz.prog (Instr.build 41 #[(1, n0), (2, (vi (-1)))]) w fun t12 w =>
  unitP Tryz.prog (Instr.storeAt 41 t2 t12) w fun _ w =>
  m14_3 R t2 (vi 0) w
def m14_4 (R : VP) (n0 t2 t9 : Value) (w : World) : Prop :=
  condP t9
  (valP Tryz.prog (Instr.build 41 #[]) w fun t10 w =>
  unitP Tryz.prog (Instr.storeAt 41 t2 t10) w fun _ w =>
  m14_5 R t2 (vi 1) w)
  (m14_2 R n0 t2 w)
def m14_1 (R : VP) (n0 t2 : Value) (w : World) : Prop :=
  valP Tryz.prog (binS BinOp.lss 3 (tm 4) (ci 1) n0 (vi 1)) w fun t5 w =>
  condP t5
  (pickP t5 (Value.bool true) undef fun t9 =>
  m14_4 R n0 t2 t9 w)
  (valP Tryz.prog (binS BinOp.gtr 3 (tm 7) (ci 16384) n0 (vi 16384)) w fun t8 w =>
  pickP t5 (Value.bool true) t8 fun t9 =>
  m14_4 R n0 t2 t9 w)
def m14_0 (R : VP) (n0 : Value) (w : World) : Prop :=
  valP Tryz.prog (Instr.alloc 41 true (.tuple #[])) w fun t2 w =>
  m14_1 R n0 t2 w
abbrev W14 := cwp Tryz.prog (fun i => 0)
noncomputable def k14_0 := bodyOf Tryz.f14
noncomputable def k14_1 := c2 k14_0
noncomputable def k14_2 := c2 k14_1
noncomputable def k14_3 := c2 k14_2
noncomputable def k14_4 := c2 (c1 k14_1)
noncomputable def k14_5 := c2 (c1 k14_4)
abbrev hR14 (R : VP) (Q : EQ) : Prop := ∀ e w, (valS Tryz.prog (loadC 41 (e 2)) w fun r0 =>
R (Value.tuple #[r0, (e 3)]) w) → Q .ret e w
theorem s14_5 (hR : hR14 R Q) (e : Env) (w : World) (h : m14_5 R (e 2) (e 3) w) : W14 k14_5 Q e w := by
  exact reA (hR _ _ h)
theorem s14_3 (hR : hR14 R Q) (e : Env) (w : World) (h : m14_3 R (e 2) (e 3) w) : W14 k14_3 Q e w := by
  exact reA (hR _ _ h)
theorem s14_2 (hR : hR14 R Q) (e : Env) (w : World) (h : m14_2 R (e 0) (e 2) w) : W14 k14_2 Q e w := by
  refine seA ?_
  exact rgA 3 (fun e w => m14_3 R (e 2) (e 3) w) h fun e w h => then_N (s14_3 hR e w h)
theorem s14_4 (hN : ∀ e w, (m14_2 R (e 0) (e 2) w) → Q .normal e w) (hR : hR14 R Q) (e : Env) (w : World) (h : m14_4 R (e 0) (e 2) (e 9) w) : W14 k14_4 Q e w := by
  refine coA (Operand.tmp 9) h (fun h1 => ?_) (fun h1 => ?_)
  · refine seA ?_
    exact rgA 2 (fun e w => m14_5 R (e 2) (e 3) w) h1 fun e w h => then_N (s14_5 hR e w h)
  · exact skA (hN _ _ h1)
theorem s14_1 (hR : hR14 R Q) (e : Env) (w : World) (h : m14_1 R (e 0) (e 2) w) : W14 k14_1 Q e w := by
  refine seA ?_
  have hN : ∀ e w, (m14_2 R (e 0) (e 2) w) → (thenE (W14 k14_2 Q) Q) .normal e w := fun e w h => then_N (s14_2 hR e w h)
  have hR : ∀ e w, (valS Tryz.prog (loadC 41 (e 2)) w fun r0 =>
  R (Value.tuple #[r0, (e 3)]) w) → (thenE (W14 k14_2 Q) Q) .ret e w := fun e w h => then_R (hR e w h)
  refine seA ?_
  exact rgA 1 (fun e w => m14_4 R (e 0) (e 2) (e 9) w) h fun e w h => then_N (s14_4 hN hR e w h)
theorem s14_0 (hR : hR14 R Q) (e : Env) (w : World) (h : m14_0 R (e 0) w) : W14 k14_0 Q e w := by
  refine seA ?_
  exact rgA 0 (fun e w => m14_1 R (e 0) (e 2) w) h fun e w h => then_N (s14_1 hR e w h)
abbrev m14 (R : VP) (n0 : Value) (w : World) : Prop := m14_0 R n0 w
theorem s14 (n0 : Value) {R : VP} {w : World} (h : m14 R n0 w) :
    Calls Tryz.prog 14 #[n0] w fun e w' => ∃ v, e = .returned v ∧ R v w' :=
  calls_of_cwp (st := (fun i => 0)) (c := k14_0) (by kernel_rfl) Tryz.func14 (by kernel_rfl) (Nat.le_of_ble_eq_true (by kernel_rfl)) (by kernel_rfl)
    (s14_0 (R := R) (Q := endE Tryz.prog Tryz.f14 R) (fun e w h => kcast (by kernel_rfl) h) (argsE #[n0]) w (kcast (by kernel_rfl) h))
def m54_13 (R : VP) (t4 : Value) (w : World) : Prop :=
  R t4 w
def m54_10 (R : VP) (K1 : VP) (t4 : Value) (w : World) : Prop :=
  R t4 w
def m54_8 (R : VP) (K1 : VP) (a0 b1 i5 : Value) (w : World) : Prop :=
  valP Tryz.prog (binS BinOp.add 3 (tm 15) (ci 1) i5 (vi 1)) w fun t16 w =>
  K1 t16 w
def m54_9 (R : VP) (K1 : VP) (a0 b1 i5 t25 : Value) (w : World) : Prop :=
  condP t25
  (m54_10 R K1 (Value.bool false) w)
  (m54_8 R K1 a0 b1 i5 w)
def m54_7 (R : VP) (K1 : VP) (a0 b1 i5 : Value) (w : World) : Prop :=
  valQ Tryz.prog (Instr.indexAt 39 a0 i5) w fun t19 =>
  valQ Tryz.prog (Instr.loadAt 67 t19) w fun t20 =>
  valQ Tryz.prog (Instr.indexAt 39 b1 i5) w fun t23 =>
  valQ Tryz.prog (Instr.loadAt 67 t23) w fun t24 =>
  valQ Tryz.prog (binS BinOp.neq 67 (tm 20) (tm 24) t20 t24) w fun t25 =>
  anyDraw w fun w =>
  m54_9 R K1 a0 b1 i5 t25 w
def m54_4 (R : VP) (t4 : Value) (w : World) : Prop :=
  R t4 w
def m54_3 (R : VP) (w : World) : Prop :=
  m54_4 R (Value.bool true) w
def m54_11 (R : VP) (K1 : VP) (a0 b1 i5 t14 : Value) (w : World) : Prop :=
  condP t14
  (m54_7 R K1 a0 b1 i5 w)
  (m54_3 R w)
def m54_6 (R : VP) (K1 : VP) (a0 b1 i5 : Value) (w : World) : Prop :=
  builtinP Tryz.prog Builtin.len #[39] 3 #[false] #[a0] w fun t13 w =>
  valP Tryz.prog (binS BinOp.lss 3 (tm 11) (tm 13) i5 t13) w fun t14 w =>
  m54_11 R K1 a0 b1 i5 t14 w
def m54_5 (R : VP) (a0 b1 i5 : Value) (w : World) : Prop :=
  loopP (fun (K1 : VP) (s : Value) w => m54_6 R K1 a0 b1 s w) i5 w
def m54_2 (R : VP) (a0 b1 : Value) (w : World) : Prop :=
  m54_5 R a0 b1 (vi 0) w
def m54_12 (R : VP) (a0 b1 t10 : Value) (w : World) : Prop :=
  condP t10
  (m54_13 R (Value.bool false) w)
  (m54_2 R a0 b1 w)
def m54_1 (R : VP) (a0 b1 : Value) (w : World) : Prop :=
  builtinP Tryz.prog Builtin.len #[39] 3 #[false] #[a0] w fun t7 w =>
  builtinP Tryz.prog Builtin.len #[39] 3 #[false] #[b1] w fun t9 w =>
  valP Tryz.prog (binS BinOp.neq 3 (tm 7) (tm 9) t7 t9) w fun t10 w =>
  m54_12 R a0 b1 t10 w
def m54_0 (R : VP) (a0 b1 : Value) (w : World) : Prop :=
  m54_1 R a0 b1 w
abbrev W54 := cwp Tryz.prog (fun i => cond (Nat.beq i 6) 1 (0))
noncomputable def k54_0 := bodyOf Tryz.f54
noncomputable def k54_1 := c2 k54_0
noncomputable def k54_2 := c2 k54_1
noncomputable def k54_3 := c2 k54_2
noncomputable def k54_4 := c2 k54_3
noncomputable def k54_5 := c2 (c1 k54_2)
noncomputable def k54_6 := c1 (c1 k54_5)
noncomputable def k54_7 := c2 k54_6
noncomputable def k54_8 := c2 k54_7
noncomputable def k54_9 := c2 (c1 (c1 k54_7))
noncomputable def k54_10 := c2 (c1 k54_9)
noncomputable def k54_11 := c2 (c1 k54_6)
noncomputable def k54_12 := c2 (c1 k54_1)
noncomputable def k54_13 := c2 (c1 k54_12)
abbrev hR54 (R : VP) (Q : EQ) : Prop := ∀ e w, (R (e 4) w) → Q .ret e w
theorem s54_13 (hR : hR54 R Q) (e : Env) (w : World) (h : m54_13 R (e 4) w) : W54 k54_13 Q e w := by
  exact reA (hR _ _ h)
theorem s54_10 {K1 : VP} (hR : hR54 R Q) (e : Env) (w : World) (h : m54_10 R K1 (e 4) w) : W54 k54_10 Q e w := by
  exact reA (hR _ _ h)
theorem s54_8 {K1 : VP} (hN : ∀ e w, (K1 (e 5) w) → Q .normal e w) (e : Env) (w : World) (h : m54_8 R K1 (e 0) (e 1) (e 5) w) : W54 k54_8 Q e w := by
  exact rgA 5 (fun e w => K1 (e 5) w) h hN
theorem s54_9 {K1 : VP} (hN : ∀ e w, (m54_8 R K1 (e 0) (e 1) (e 5) w) → Q .normal e w) (hR : hR54 R Q) (e : Env) (w : World) (h : m54_9 R K1 (e 0) (e 1) (e 5) (e 25) w) : W54 k54_9 Q e w := by
  refine coA (Operand.tmp 25) h (fun h1 => ?_) (fun h1 => ?_)
  · refine seA ?_
    exact rgA 7 (fun e w => m54_10 R K1 (e 4) w) h1 fun e w h => then_N (s54_10 hR e w h)
  · exact skA (hN _ _ h1)
theorem s54_7 {K1 : VP} (hN : ∀ e w, (K1 (e 5) w) → Q .normal e w) (hR : hR54 R Q) (e : Env) (w : World) (h : m54_7 R K1 (e 0) (e 1) (e 5) w) : W54 k54_7 Q e w := by
  refine seA ?_
  have hN : ∀ e w, (m54_8 R K1 (e 0) (e 1) (e 5) w) → (thenE (W54 k54_8 Q) Q) .normal e w := fun e w h => then_N (s54_8 hN e w h)
  have hR : hR54 R (thenE (W54 k54_8 Q) Q) := fun e w h => then_R (hR e w h)
  refine block_ok 1 (by kernel_rfl) ?_
  have hN : ∀ e w, (m54_8 R K1 (e 0) (e 1) (e 5) w) → (inBlockE 1 (thenE (W54 k54_8 Q) Q)) .normal e w := fun e w h => block_N (hN e w h)
  have hR : hR54 R (inBlockE 1 (thenE (W54 k54_8 Q) Q)) := fun e w h => block_R (hR e w h)
  refine seA ?_
  have hN : ∀ e w, (m54_9 R K1 (e 0) (e 1) (e 5) (e 25) w) → (thenE (W54 k54_9 (inBlockE 1 (thenE (W54 k54_8 Q) Q))) (inBlockE 1 (thenE (W54 k54_8 Q) Q))) .normal e w := fun e w h => then_N (s54_9 (R := R) (Q := (inBlockE 1 (thenE (W54 k54_8 Q) Q))) hN hR e w h)
  exact quA 6 (fun e w => m54_9 R K1 (e 0) (e 1) (e 5) (e 25) w) h hN
theorem s54_4 (hR : hR54 R Q) (e : Env) (w : World) (h : m54_4 R (e 4) w) : W54 k54_4 Q e w := by
  exact reA (hR _ _ h)
theorem s54_3 (hR : hR54 R Q) (e : Env) (w : World) (h : m54_3 R w) : W54 k54_3 Q e w := by
  refine seA ?_
  exact rgA 8 (fun e w => m54_4 R (e 4) w) h fun e w h => then_N (s54_4 hR e w h)
theorem s54_11 {K1 : VP} (hN : ∀ e w, (m54_7 R K1 (e 0) (e 1) (e 5) w) → Q .normal e w) (hX0 : ∀ e w, (m54_3 R w) → Q (.exit 0) e w) (e : Env) (w : World) (h : m54_11 R K1 (e 0) (e 1) (e 5) (e 14) w) : W54 k54_11 Q e w := by
  refine coA (Operand.tmp 14) h (fun h1 => ?_) (fun h1 => ?_)
  · exact skA (hN _ _ h1)
  · exact exA 0 (hX0 _ _ h1)
theorem s54_6 {K1 : VP} (hN : ∀ e w, (K1 (e 5) w) → Q .normal e w) (hR : hR54 R Q) (hX0 : ∀ e w, (m54_3 R w) → Q (.exit 0) e w) (e : Env) (w : World) (h : m54_6 R K1 (e 0) (e 1) (e 5) w) : W54 k54_6 Q e w := by
  refine seA ?_
  have hN : ∀ e w, (m54_7 R K1 (e 0) (e 1) (e 5) w) → (thenE (W54 k54_7 Q) Q) .normal e w := fun e w h => then_N (s54_7 hN hR e w h)
  have hX0 : ∀ e w, (m54_3 R w) → (thenE (W54 k54_7 Q) Q) (.exit 0) e w := fun e w h => then_X (hX0 e w h)
  refine seA ?_
  exact rgA 4 (fun e w => m54_11 R K1 (e 0) (e 1) (e 5) (e 14) w) h fun e w h => then_N (s54_11 hN hX0 e w h)
theorem s54_5 (hN : ∀ e w, (m54_3 R w) → Q .normal e w) (hR : hR54 R Q) (e : Env) (w : World) (h : m54_5 R (e 0) (e 1) (e 5) w) : W54 k54_5 Q e w := by
  refine block_ok 0 (by kernel_rfl) ?_
  have hX0 : ∀ e w, (m54_3 R w) → (inBlockE 0 Q) (.exit 0) e w := fun e w h => inBlock_same (Q := Q) 0 (hN e w h)
  have hR : hR54 R (inBlockE 0 Q) := fun e w h => block_R (hR e w h)
  refine loop_ok' (fun (e : Env) => e 5) [0, 1] (by kernel_rfl) (by kernel_rfl) h (fun K e' w' hk h' => ?_)
  have r0 : e' 0 = e 0 := hk 0 (by decide)
  have r1 : e' 1 = e 1 := hk 1 (by decide)
  have hR : hR54 R (thenE (fun (e : Env) w => K (e 5) w) (inBlockE 0 Q)) := fun e w h => then_R (hR e w h)
  have hX0 : ∀ e w, (m54_3 R w) → (thenE (fun (e : Env) w => K (e 5) w) (inBlockE 0 Q)) (.exit 0) e w := fun e w h => then_X (hX0 e w h)
  exact s54_6 (K1 := K) (fun _ _ h => then_N h) hR hX0 e' w' (by rw [r0, r1]; exact h')
theorem s54_2 (hR : hR54 R Q) (e : Env) (w : World) (h : m54_2 R (e 0) (e 1) w) : W54 k54_2 Q e w := by
  refine seA ?_
  have hN : ∀ e w, (m54_3 R w) → (thenE (W54 k54_3 Q) Q) .normal e w := fun e w h => then_N (s54_3 hR e w h)
  have hR : hR54 R (thenE (W54 k54_3 Q) Q) := fun e w h => then_R (hR e w h)
  refine seA ?_
  exact rgA 3 (fun e w => m54_5 R (e 0) (e 1) (e 5) w) h fun e w h => then_N (s54_5 hN hR e w h)
theorem s54_12 (hN : ∀ e w, (m54_2 R (e 0) (e 1) w) → Q .normal e w) (hR : hR54 R Q) (e : Env) (w : World) (h : m54_12 R (e 0) (e 1) (e 10) w) : W54 k54_12 Q e w := by
  refine coA (Operand.tmp 10) h (fun h1 => ?_) (fun h1 => ?_)
  · refine seA ?_
    exact rgA 2 (fun e w => m54_13 R (e 4) w) h1 fun e w h => then_N (s54_13 hR e w h)
  · exact skA (hN _ _ h1)
theorem s54_1 (hR : hR54 R Q) (e : Env) (w : World) (h : m54_1 R (e 0) (e 1) w) : W54 k54_1 Q e w := by
  refine seA ?_
  have hN : ∀ e w, (m54_2 R (e 0) (e 1) w) → (thenE (W54 k54_2 Q) Q) .normal e w := fun e w h => then_N (s54_2 hR e w h)
  have hR : hR54 R (thenE (W54 k54_2 Q) Q) := fun e w h => then_R (hR e w h)
  refine seA ?_
  exact rgA 1 (fun e w => m54_12 R (e 0) (e 1) (e 10) w) h fun e w h => then_N (s54_12 hN hR e w h)
theorem s54_0 (hR : hR54 R Q) (e : Env) (w : World) (h : m54_0 R (e 0) (e 1) w) : W54 k54_0 Q e w := by
  refine seA ?_
  exact rgA 0 (fun e w => m54_1 R (e 0) (e 1) w) h fun e w h => then_N (s54_1 hR e w h)
abbrev m54 (R : VP) (a0 b1 : Value) (w : World) : Prop := m54_0 R a0 b1 w
theorem s54 (a0 b1 : Value) {R : VP} {w : World} (h : m54 R a0 b1 w) :
    Calls Tryz.prog 54 #[a0, b1] w fun e w' => ∃ v, e = .returned v ∧ R v w' :=
  calls_of_cwp (st := (fun i => cond (Nat.beq i 6) 1 (0))) (c := k54_0) (by kernel_rfl) Tryz.func54 (by kernel_rfl) (Nat.le_of_ble_eq_true (by kernel_rfl)) (by kernel_rfl)
    (s54_0 (R := R) (Q := endE Tryz.prog Tryz.f54 R) (fun e w h => kcast (by kernel_rfl) h) (argsE #[a0, b1]) w (kcast (by kernel_rfl) h))
end Go.Proofs.YtcldjjmfpmkldaaGreatDoor.M
