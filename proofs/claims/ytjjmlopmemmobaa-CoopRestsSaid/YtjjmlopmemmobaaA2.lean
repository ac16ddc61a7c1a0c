/- What a member may keep; the member that has fewest. -/
import Derived.Test.YtjjmlopmemmobaaA1
namespace Go.Proofs.Ytjjmlopmemmobaa.M
open Go.Proofs.Ytjjmlopmemmobaa.F Go.RowKit
set_option linter.unusedVariables false
set_option linter.unusedSimpArgs false
set_option maxRecDepth 100000
set_option maxHeartbeats 2000000
attribute [local irreducible] Res.cells Res.row Res.map Res.any World.cell? World.frozen? Instr.fieldAt Instr.loadAt Instr.storeAt Instr.indexAt Instr.lookup Instr.mapUpdate Instr.box Instr.build Instr.buildSlice Instr.extract Instr.alloc Instr.field Instr.index Instr.sliceAt Instr.makeSlice Instr.makeMap Instr.makeFunc binS Op.unary Sem.run
open Go.Proofs.Ytjjmlopmemmobaa.L Go.Shelf
/-- What is true of shares. -/
structure ShOk (M : List Int) (base big : Int) (C : Int → Int) : Prop where
  rise : M.Pairwise (· < ·)
  len : M.length ≤ 1000000
  each : ∀ x ∈ M, -9223372036854775808 ≤ x ∧ x ≤ 9223372036854775807
  cnt : ∀ x, 0 ≤ C x ∧ C x ≤ 1000
  base0 : 0 ≤ base ∧ base ≤ 1000
  big0 : 0 ≤ big ∧ big ≤ 1000
abbrev mayI (M : List Int) (base big : Int) (C : Int → Int) (m : Int) : Prop := m ∈ M ∧ (C m < base ∨ C m = base ∧ big ≠ 0)
abbrev upC (C : Int → Int) (m : Int) : Int → Int := fun z => if z = m then C m + 1 else C z
theorem search_ret {w0 w : World} {F : List Nat} {L : List Res} {A : Option Addr} {c : Nat} {M : List Int} (m : Int) (hr : M.Pairwise (· < ·)) (hl : M.length ≤ 1000000) (hR : Rd w 1 A M.length (ints M)) (hS : St w0 F w L) :
    Ret Try.prog 119 #[.slice A M.length c, .int .i64 m] w fun v w' => ∃ i, v = .tuple #[.int .i64 i, .bool (decide (m ∈ M))] ∧ St w0 F w' L := by
  rcases Nat.eq_zero_or_pos M.length with h0 | h0
  · have : M = [] := List.eq_nil_of_length_eq_zero h0
    subst this
    refine Calls.mono (Try.slices_BinarySearch_int_empty A c m w) fun e w' ⟨he, hw⟩ => ⟨_, he, 0, by simp, by rw [hw]; exact hS⟩
  · obtain ⟨g, o, rfl⟩ := hR.some_ h0 (by omega)
    refine Calls.mono (Try.slices_BinarySearch_int g o M.length c M m w (Nat.le_refl _) (by omega) (fun j hj => ?_) ?_) fun e w' h => ?_
    · rw [hR.cell_ (ints_get hj)]
      simp [hj]
    · rw [List.take_length]
      exact hr.imp fun h => Int.le_of_lt h
    · obtain ⟨he, q, hw⟩ := h
      refine ⟨_, he, ((List.countP (fun x => decide (x < m)) (List.take M.length M) : Nat) : Int), ?_, by rw [hw]; exact hS.drewN q⟩
      have : (List.take M.length M).contains m = decide (m ∈ M) := by rw [List.take_length]; simp
      rw [this]
theorem keeps_ret {w0 w : World} {F : List Nat} {L : List Res} {b mb k c : Nat} {A : Option Addr} {M : List Int} {base big : Int} {C : Int → Int} {Mv : Value → Option Value} {m : Int} (hok : ShOk M base big C) (hC : Mc Mv C) (hm : (Lit.int .i64 m).wf = true) (hk : k < maxLen) (hCm : C m < 1000)
    (hS : St w0 F w (shc b (.slice A M.length c) mb base big :: mapI mb k Mv :: Res.rd 1 A M.length (ints M) :: L)) :
    Ret Try.prog 100 #[.pointer (some ⟨b, 0, none⟩), .int .i64 m] w fun v w' => v = .bool (decide (mayI M base big C m)) ∧
      (if mayI M base big C m then ∃ Mv', Mc Mv' (upC C m) ∧ St w0 F w' (shc b (.slice A M.length c) mb base (if C m = base then big - 1 else big) :: mapI mb (k + 1) Mv' :: Res.rd 1 A M.length (ints M) :: L)
      else St w0 F w' (shc b (.slice A M.length c) mb base big :: mapI mb k Mv :: Res.rd 1 A M.length (ints M) :: L)) := by
  obtain ⟨h1, h2, h3, h4, h5, h6⟩ := hok
  have hcm := h4 m
  have hno : ∀ w', ¬ mayI M base big C m → St w0 F w' (shc b (.slice A M.length c) mb base big :: mapI mb k Mv :: Res.rd 1 A M.length (ints M) :: L) → (.bool false = Value.bool (decide (mayI M base big C m)) ∧
      (if mayI M base big C m then ∃ Mv', Mc Mv' (upC C m) ∧ St w0 F w' (shc b (.slice A M.length c) mb base (if C m = base then big - 1 else big) :: mapI mb (k + 1) Mv' :: Res.rd 1 A M.length (ints M) :: L)
      else St w0 F w' (shc b (.slice A M.length c) mb base big :: mapI mb k Mv :: Res.rd 1 A M.length (ints M) :: L))) := fun w' hn hS => by
    rw [if_neg hn, decide_eq_false hn]
    exact ⟨rfl, hS⟩
  refine s100 _ _ ?_
  unfold m100
  unfold m100_0
  unfold m100_1
  refine nil_ok ?_
  first | refine valP_ok (fa131_0 _ _) ?_ | refine valP_ok (fao131_0 _ _ _) ?_
  first | refine valP_ok (ld28 (hS.cell 0 rfl rfl)) ?_ | refine valP_ok (ld28 (hS.cell 1 rfl rfl)) ?_ | refine valP_ok (ld28 (hS.cell 2 rfl rfl)) ?_ | refine valP_ok (ld28 (hS.cell 3 rfl rfl)) ?_ | refine valP_ok (ld28 (hS.cell 4 rfl rfl)) ?_ | refine valP_ok (ld28 (by assumption)) ?_
  refine callR (by kernel_rfl) (search_ret m h1 h2 (hS.get 2 rfl) hS) ?_
  rintro v w ⟨i, rfl, hS⟩
  refine valP_ok (extract_ok _ 0 rfl _) ?_
  refine valP_ok (extract_ok _ 1 rfl _) ?_
  unfold m100_11
  first | refine valP_ok (not_ok _ _) ?_ | refine valP_ok (notb_ok _ _) ?_
  unfold m100_12
  by_cases hmem : m ∈ M
  rotate_left
  · refine cond_dt hmem ?_
    unfold m100_13
    exact hno _ (fun h => hmem h.1) hS
  refine cond_df (fun h => h hmem) ?_
  unfold m100_2
  refine nil_ok ?_
  first | refine valP_ok (fa131_1 _ _) ?_ | refine valP_ok (fao131_1 _ _ _) ?_
  first | refine valP_ok (ld129 (hS.cell 0 rfl rfl)) ?_ | refine valP_ok (ld129 (hS.cell 1 rfl rfl)) ?_ | refine valP_ok (ld129 (hS.cell 2 rfl rfl)) ?_ | refine valP_ok (ld129 (hS.cell 3 rfl rfl)) ?_ | refine valP_ok (ld129 (hS.cell 4 rfl rfl)) ?_ | refine valP_ok (ld129 (by assumption)) ?_
  refine valP_ok (look_run (map_get 1 hS rfl) hC hm) ?_
  unfold m100_3
  refine nil_ok ?_
  first | refine valP_ok (fa131_2 _ _) ?_ | refine valP_ok (fao131_2 _ _ _) ?_
  first | refine valP_ok (ld3 (hS.cell 0 rfl rfl)) ?_ | refine valP_ok (ld3 (hS.cell 1 rfl rfl)) ?_ | refine valP_ok (ld3 (hS.cell 2 rfl rfl)) ?_ | refine valP_ok (ld3 (hS.cell 3 rfl rfl)) ?_ | refine valP_ok (ld3 (hS.cell 4 rfl rfl)) ?_ | refine valP_ok (ld3 (by assumption)) ?_
  refine valP_ok (gtr_ok _ _ _ _ _ _ _) ?_
  by_cases hgt : base < C m
  · refine cond_dt hgt ?_
    first | refine pick_dt (by first | assumption | omega) ?_ | refine pick_df (by first | assumption | omega) ?_ | refine pick_t (by first | rfl | assumption) ?_ | refine pick_f (by first | rfl | assumption) ?_ | refine pick_dt rfl ?_ | refine pick_df (not_not_intro rfl) ?_
    unfold m100_9
    refine cond_t rfl ?_
    unfold m100_10
    exact hno _ (fun h => by have := h.2; omega) hS
  refine cond_df hgt ?_
  refine nil_ok ?_
  first | refine valP_ok (fa131_2 _ _) ?_ | refine valP_ok (fao131_2 _ _ _) ?_
  first | refine valP_ok (ld3 (hS.cell 0 rfl rfl)) ?_ | refine valP_ok (ld3 (hS.cell 1 rfl rfl)) ?_ | refine valP_ok (ld3 (hS.cell 2 rfl rfl)) ?_ | refine valP_ok (ld3 (hS.cell 3 rfl rfl)) ?_ | refine valP_ok (ld3 (hS.cell 4 rfl rfl)) ?_ | refine valP_ok (ld3 (by assumption)) ?_
  refine valP_ok (eq3 _ _ _ _ _) ?_
  by_cases heq : C m = base
  · refine cond_dt heq ?_
    refine nil_ok ?_
    first | refine valP_ok (fa131_3 _ _) ?_ | refine valP_ok (fao131_3 _ _ _) ?_
    first | refine valP_ok (ld3 (hS.cell 0 rfl rfl)) ?_ | refine valP_ok (ld3 (hS.cell 1 rfl rfl)) ?_ | refine valP_ok (ld3 (hS.cell 2 rfl rfl)) ?_ | refine valP_ok (ld3 (hS.cell 3 rfl rfl)) ?_ | refine valP_ok (ld3 (hS.cell 4 rfl rfl)) ?_ | refine valP_ok (ld3 (by assumption)) ?_
    refine valP_ok (eq3 _ _ _ _ _) ?_
    first | refine pick_dt (by first | assumption | omega) ?_ | refine pick_df (by first | assumption | omega) ?_ | refine pick_t (by first | rfl | assumption) ?_ | refine pick_f (by first | rfl | assumption) ?_ | refine pick_dt rfl ?_ | refine pick_df (not_not_intro rfl) ?_
    first | refine pick_dt (by first | assumption | omega) ?_ | refine pick_df (by first | assumption | omega) ?_ | refine pick_t (by first | rfl | assumption) ?_ | refine pick_f (by first | rfl | assumption) ?_ | refine pick_dt rfl ?_ | refine pick_df (not_not_intro rfl) ?_
    unfold m100_9
    by_cases hb0 : big = 0
    · refine cond_dt hb0 ?_
      unfold m100_10
      exact hno _ (fun h => by have := h.2; omega) hS
    · refine cond_df hb0 ?_
      unfold m100_4
      refine nil_ok ?_
      first | refine valP_ok (fa131_2 _ _) ?_ | refine valP_ok (fao131_2 _ _ _) ?_
      first | refine valP_ok (ld3 (hS.cell 0 rfl rfl)) ?_ | refine valP_ok (ld3 (hS.cell 1 rfl rfl)) ?_ | refine valP_ok (ld3 (hS.cell 2 rfl rfl)) ?_ | refine valP_ok (ld3 (hS.cell 3 rfl rfl)) ?_ | refine valP_ok (ld3 (hS.cell 4 rfl rfl)) ?_ | refine valP_ok (ld3 (by assumption)) ?_
      refine valP_ok (eq3 _ _ _ _ _) ?_
      unfold m100_8
      refine cond_dt heq ?_
      refine nil_ok ?_
      first | refine valP_ok (fa131_3 _ _) ?_ | refine valP_ok (fao131_3 _ _ _) ?_
      first | refine valP_ok (ld3 (hS.cell 0 rfl rfl)) ?_ | refine valP_ok (ld3 (hS.cell 1 rfl rfl)) ?_ | refine valP_ok (ld3 (hS.cell 2 rfl rfl)) ?_ | refine valP_ok (ld3 (hS.cell 3 rfl rfl)) ?_ | refine valP_ok (ld3 (hS.cell 4 rfl rfl)) ?_ | refine valP_ok (ld3 (by assumption)) ?_
      refine valP_ok (sub_ok _ _ _ (by omega) (by omega) _) ?_
      refine nil_ok ?_
      first | refine valP_ok (fa131_3 _ _) ?_ | refine valP_ok (fao131_3 _ _ _) ?_
      first | refine store_at 0 st3 hS rfl (by simp) rfl ?_ | refine store_at 1 st3 hS rfl (by simp) rfl ?_ | refine store_at 2 st3 hS rfl (by simp) rfl ?_ | refine store_at 3 st3 hS rfl (by simp) rfl ?_ | refine store_at 4 st3 hS rfl (by simp) rfl ?_
      intro w hS
      simp only [List.set_cons_zero, List.set_cons_succ] at hS
      unfold m100_5
      refine nil_ok ?_
      first | refine valP_ok (fa131_1 _ _) ?_ | refine valP_ok (fao131_1 _ _ _) ?_
      first | refine valP_ok (ld129 (hS.cell 0 rfl rfl)) ?_ | refine valP_ok (ld129 (hS.cell 1 rfl rfl)) ?_ | refine valP_ok (ld129 (hS.cell 2 rfl rfl)) ?_ | refine valP_ok (ld129 (hS.cell 3 rfl rfl)) ?_ | refine valP_ok (ld129 (hS.cell 4 rfl rfl)) ?_ | refine valP_ok (ld129 (by assumption)) ?_
      refine valP_ok (look_run (map_get 1 hS rfl) hC hm) ?_
      refine valP_ok (add_ok _ _ _ (by omega) (by omega) _) ?_
      refine upd_at 1 hS rfl hC hk hm (wf_of (by omega) (by omega)) ?_
      intro M' w hM' hS
      simp only [List.set_cons_zero, List.set_cons_succ] at hS
      unfold m100_6 m100_7
      have hy : mayI M base big C m := ⟨hmem, .inr ⟨heq, hb0⟩⟩
      refine ⟨by rw [decide_eq_true hy], ?_⟩
      rw [if_pos hy, if_pos heq]
      exact ⟨M', hM', hS⟩
  · refine cond_df heq ?_
    first | refine pick_dt (by first | assumption | omega) ?_ | refine pick_df (by first | assumption | omega) ?_ | refine pick_t (by first | rfl | assumption) ?_ | refine pick_f (by first | rfl | assumption) ?_ | refine pick_dt rfl ?_ | refine pick_df (not_not_intro rfl) ?_
    first | refine pick_dt (by first | assumption | omega) ?_ | refine pick_df (by first | assumption | omega) ?_ | refine pick_t (by first | rfl | assumption) ?_ | refine pick_f (by first | rfl | assumption) ?_ | refine pick_dt rfl ?_ | refine pick_df (not_not_intro rfl) ?_
    unfold m100_9
    refine cond_f rfl ?_
    unfold m100_4
    refine nil_ok ?_
    first | refine valP_ok (fa131_2 _ _) ?_ | refine valP_ok (fao131_2 _ _ _) ?_
    first | refine valP_ok (ld3 (hS.cell 0 rfl rfl)) ?_ | refine valP_ok (ld3 (hS.cell 1 rfl rfl)) ?_ | refine valP_ok (ld3 (hS.cell 2 rfl rfl)) ?_ | refine valP_ok (ld3 (hS.cell 3 rfl rfl)) ?_ | refine valP_ok (ld3 (hS.cell 4 rfl rfl)) ?_ | refine valP_ok (ld3 (by assumption)) ?_
    refine valP_ok (eq3 _ _ _ _ _) ?_
    unfold m100_8
    refine cond_df heq ?_
    unfold m100_5
    refine nil_ok ?_
    first | refine valP_ok (fa131_1 _ _) ?_ | refine valP_ok (fao131_1 _ _ _) ?_
    first | refine valP_ok (ld129 (hS.cell 0 rfl rfl)) ?_ | refine valP_ok (ld129 (hS.cell 1 rfl rfl)) ?_ | refine valP_ok (ld129 (hS.cell 2 rfl rfl)) ?_ | refine valP_ok (ld129 (hS.cell 3 rfl rfl)) ?_ | refine valP_ok (ld129 (hS.cell 4 rfl rfl)) ?_ | refine valP_ok (ld129 (by assumption)) ?_
    refine valP_ok (look_run (map_get 1 hS rfl) hC hm) ?_
    refine valP_ok (add_ok _ _ _ (by omega) (by omega) _) ?_
    refine upd_at 1 hS rfl hC hk hm (wf_of (by omega) (by omega)) ?_
    intro M' w hM' hS
    simp only [List.set_cons_zero, List.set_cons_succ] at hS
    unfold m100_6 m100_7
    have hy : mayI M base big C m := ⟨hmem, .inl (by omega)⟩
    refine ⟨by rw [decide_eq_true hy], ?_⟩
    rw [if_pos hy, if_neg heq]
    exact ⟨M', hM', hS⟩
/-- The member that has fewest of the first ones. -/
def fewest (C : Int → Int) : Int → List Int → Int
  | m, [] => m
  | m, x :: l => fewest C (if C x - C m < 0 then x else m) l
theorem less_ret {w0 w : World} {F : List Nat} {L : List Res} {p b mb k : Nat} {s : Value} {base big : Int} {C : Int → Int} {Mv : Value → Option Value} (x y : Int) (hx : (Lit.int .i64 x).wf = true) (hy : (Lit.int .i64 y).wf = true) (hb : ∀ x, 0 ≤ C x ∧ C x ≤ 1000) (hC : Mc Mv C)
    (hS : St w0 F w (Res.cells p 126 [.pointer (some ⟨b, 0, none⟩)] :: shc b s mb base big :: mapI mb k Mv :: L)) :
    Ret Try.prog 121 #[.int .i64 x, .int .i64 y, .pointer (some ⟨p, 0, none⟩)] w fun v w' => v = .int .i64 (C x - C y) ∧ St w0 F w' (Res.cells p 126 [.pointer (some ⟨b, 0, none⟩)] :: shc b s mb base big :: mapI mb k Mv :: L) := by
  have h1 := hb x
  have h2 := hb y
  refine s121 _ _ _ ?_
  unfold m121
  unfold m121_0
  unfold m121_1
  first | refine valQ_load ld126 (hS.cell 0 rfl rfl) ?_ | refine valQ_load ld126 (hS.cell 1 rfl rfl) ?_ | refine valQ_load ld126 (hS.cell 2 rfl rfl) ?_ | refine valQ_load ld126 (hS.cell 3 rfl rfl) ?_ | refine valQ_load ld126 (hS.cell 4 rfl rfl) ?_ | refine valQ_load ld126 (by assumption) ?_
  refine nil_ok ?_
  first | refine valQ_ok (fa131_1 _) ?_ | refine valQ_ok (fao131_1 _ _) ?_
  first | refine valQ_load ld129 (hS.cell 0 rfl rfl) ?_ | refine valQ_load ld129 (hS.cell 1 rfl rfl) ?_ | refine valQ_load ld129 (hS.cell 2 rfl rfl) ?_ | refine valQ_load ld129 (hS.cell 3 rfl rfl) ?_ | refine valQ_load ld129 (hS.cell 4 rfl rfl) ?_ | refine valQ_load ld129 (by assumption) ?_
  refine valQ_at (fun n => look_run (map_get 2 (hS.drewN n) rfl) hC hx) ?_
  first | refine valQ_load ld126 (hS.cell 0 rfl rfl) ?_ | refine valQ_load ld126 (hS.cell 1 rfl rfl) ?_ | refine valQ_load ld126 (hS.cell 2 rfl rfl) ?_ | refine valQ_load ld126 (hS.cell 3 rfl rfl) ?_ | refine valQ_load ld126 (hS.cell 4 rfl rfl) ?_ | refine valQ_load ld126 (by assumption) ?_
  refine nil_ok ?_
  first | refine valQ_ok (fa131_1 _) ?_ | refine valQ_ok (fao131_1 _ _) ?_
  first | refine valQ_load ld129 (hS.cell 0 rfl rfl) ?_ | refine valQ_load ld129 (hS.cell 1 rfl rfl) ?_ | refine valQ_load ld129 (hS.cell 2 rfl rfl) ?_ | refine valQ_load ld129 (hS.cell 3 rfl rfl) ?_ | refine valQ_load ld129 (hS.cell 4 rfl rfl) ?_ | refine valQ_load ld129 (by assumption) ?_
  refine valQ_at (fun n => look_run (map_get 2 (hS.drewN n) rfl) hC hy) ?_
  refine valQ_ok (sub_ok _ _ _ (by omega) (by omega)) ?_
  refine drawn_ok hS ?_
  intro w hS
  unfold m121_2
  exact ⟨rfl, hS⟩
theorem fewest_snoc (C : Int → Int) : ∀ (l : List Int) (m x : Int), fewest C m (l ++ [x]) = if C x - C (fewest C m l) < 0 then x else fewest C m l
  | [], m, x => rfl
  | a :: l, m, x => fewest_snoc C l _ x
theorem fewest_mem (C : Int → Int) : ∀ (l : List Int) (m : Int), fewest C m l = m ∨ fewest C m l ∈ l
  | [], m => .inl rfl
  | a :: l, m => by
    unfold fewest
    rcases fewest_mem C l (if C a - C m < 0 then a else m) with h | h
    · by_cases e : C a - C m < 0
      · rw [if_pos e] at h ⊢; exact .inr (by rw [h]; exact .head _)
      · rw [if_neg e] at h ⊢; exact .inl h
    · exact .inr (.tail _ h)
theorem min_ret {w0 w : World} {F : List Nat} {L : List Res} {p b mb k c : Nat} {A : Option Addr} {M : List Int} {base big : Int} {C : Int → Int} {Mv : Value → Option Value} (hok : ShOk M base big C) (hC : Mc Mv C) (hne : 0 < M.length)
    (hS : St w0 F w (Res.cells p 126 [.pointer (some ⟨b, 0, none⟩)] :: shc b (.slice A M.length c) mb base big :: mapI mb k Mv :: Res.rd 1 A M.length (ints M) :: L)) :
    Ret Try.prog 120 #[.slice A M.length c, .func (.func 121) #[] #[.pointer (some ⟨p, 0, none⟩)]] w fun v w' => v = .int .i64 (fewest C M[0] (M.drop 1)) ∧ St w0 F w' (Res.cells p 126 [.pointer (some ⟨b, 0, none⟩)] :: shc b (.slice A M.length c) mb base big :: mapI mb k Mv :: Res.rd 1 A M.length (ints M) :: L) := by
  obtain ⟨h1, h2, h3, h4, h5, h6⟩ := hok
  refine s120 _ _ ?_
  unfold m120
  unfold m120_0
  unfold m120_1
  refine builtin_ok (len28 _) ?_
  refine valP_ok (lss_ok _ _ _ _ _ _ _) ?_
  unfold m120_12
  refine cond_df (by omega) ?_
  have hR : Rd w 1 A M.length (ints M) := hS.get 3 rfl
  obtain ⟨g, o, rfl⟩ := hR.some_ hne (by omega)
  have hc0 := hR.cell_ (ints_get hne)
  unfold m120_2
  refine valP_ok (ix28 (k := 0) hne _) ?_
  first | refine valP_ok (ld3 (hS.cell 0 rfl rfl)) ?_ | refine valP_ok (ld3 (hS.cell 1 rfl rfl)) ?_ | refine valP_ok (ld3 (hS.cell 2 rfl rfl)) ?_ | refine valP_ok (ld3 (hS.cell 3 rfl rfl)) ?_ | refine valP_ok (ld3 (hS.cell 4 rfl rfl)) ?_ | refine valP_ok (ld3 (by assumption)) ?_
  clear hc0 hR
  unfold m120_3
  unfold m120_6
  refine loop_in (fun s w' => ∃ i : Nat, s = (.int .i64 (fewest C M[0] ((M.take i).drop 1)), .int .i64 i) ∧ 1 ≤ i ∧ i ≤ M.length ∧ St w0 F w' (Res.cells p 126 [.pointer (some ⟨b, 0, none⟩)] :: shc b (.slice (some ⟨g, o, none⟩) M.length c) mb base big :: mapI mb k Mv :: Res.rd 1 (some ⟨g, o, none⟩) M.length (ints M) :: L))
    (fun s _ => M.length - (intOf s.2).toNat) ⟨1, by simp [fewest], by omega, hne, hS⟩ ?_
  clear hS
  rintro s w ⟨i, rfl, hi1, hi, hS⟩
  unfold m120_7
  refine builtin_ok (len28 _) ?_
  refine valP_ok (lss_ok _ _ _ _ _ _ _) ?_
  unfold m120_11
  refine cond_split (fun h => ?_) (fun h => ?_)
  · have hlt : i < M.length := by omega
    have hR : Rd w 1 (some ⟨g, o, none⟩) M.length (ints M) := hS.get 3 rfl
    have hc := hR.cell_ (ints_get hlt)
    have hx := h3 _ (List.getElem_mem hlt)
    have hmin : fewest C M[0] ((M.take i).drop 1) ∈ M := by
      rcases fewest_mem C ((M.take i).drop 1) M[0] with h | h
      · rw [h]; exact List.getElem_mem hne
      · exact List.mem_of_mem_take (List.mem_of_mem_drop h)
    have hy := h3 _ hmin
    have e : (M.take (i + 1)).drop 1 = (M.take i).drop 1 ++ [M[i]] := by
      rw [List.take_succ_eq_append_getElem hlt, List.drop_append_of_le_length (by rw [List.length_take]; omega)]
    have e2 := fewest_snoc C ((M.take i).drop 1) M[0] M[i]
    rw [← e] at e2
    have b1 := h4 M[i]
    have b2 := h4 (fewest C M[0] ((M.take i).drop 1))
    unfold m120_8
    refine valP_ok (ix28 hlt _) ?_
    first | refine valP_ok (ld3 (hS.cell 0 rfl rfl)) ?_ | refine valP_ok (ld3 (hS.cell 1 rfl rfl)) ?_ | refine valP_ok (ld3 (hS.cell 2 rfl rfl)) ?_ | refine valP_ok (ld3 (hS.cell 3 rfl rfl)) ?_ | refine valP_ok (ld3 (hS.cell 4 rfl rfl)) ?_ | refine valP_ok (ld3 (by assumption)) ?_
    refine callvR (by kernel_rfl) rfl (less_ret M[i] (fewest C M[0] ((M.take i).drop 1)) (wf_of hx.1 hx.2) (wf_of hy.1 hy.2) h4 hC hS) ?_
    rintro v w ⟨rfl, hS⟩
    refine valP_ok (lss_ok _ _ _ _ _ _ _) ?_
    unfold m120_10
    refine cond_split (fun hl => ?_) (fun hl => ?_)
    · rw [if_pos hl] at e2
      clear hR hc
      have hR : Rd w 1 (some ⟨g, o, none⟩) M.length (ints M) := hS.get 3 rfl
      have hc := hR.cell_ (ints_get hlt)
      refine valP_ok (ix28 hlt _) ?_
      first | refine valP_ok (ld3 (hS.cell 0 rfl rfl)) ?_ | refine valP_ok (ld3 (hS.cell 1 rfl rfl)) ?_ | refine valP_ok (ld3 (hS.cell 2 rfl rfl)) ?_ | refine valP_ok (ld3 (hS.cell 3 rfl rfl)) ?_ | refine valP_ok (ld3 (hS.cell 4 rfl rfl)) ?_ | refine valP_ok (ld3 (by assumption)) ?_
      unfold m120_9
      refine valP_ok (add_ok _ _ _ (by omega) (by omega) _) ?_
      exact ⟨⟨i + 1, by rw [e2]; rfl, by omega, by omega, hS⟩, by simp [intOf]; omega⟩
    · rw [if_neg hl] at e2
      unfold m120_9
      refine valP_ok (add_ok _ _ _ (by omega) (by omega) _) ?_
      exact ⟨⟨i + 1, by rw [e2]; rfl, by omega, by omega, hS⟩, by simp [intOf]; omega⟩
  · unfold m120_4 m120_5
    have : i = M.length := by omega
    subst this
    rw [List.take_length]
    exact ⟨rfl, hS⟩
theorem least_ret {w0 w : World} {F : List Nat} {L : List Res} {b mb k c : Nat} {A : Option Addr} {M : List Int} {base big : Int} {C : Int → Int} {Mv : Value → Option Value} (hok : ShOk M base big C) (hC : Mc Mv C) (hne : 0 < M.length)
    (hS : St w0 F w (shc b (.slice A M.length c) mb base big :: mapI mb k Mv :: Res.rd 1 A M.length (ints M) :: L)) :
    Ret Try.prog 101 #[.pointer (some ⟨b, 0, none⟩)] w fun v w' => v = .int .i64 (fewest C M[0] (M.drop 1)) ∧ St w0 F w' (shc b (.slice A M.length c) mb base big :: mapI mb k Mv :: Res.rd 1 A M.length (ints M) :: L) := by
  refine s101 _ ?_
  unfold m101
  unfold m101_0
  refine new_ok (bx126 rfl _) hS ?_
  intro b1 w hS
  unfold m101_1
  first | refine valP_ok (ld126 (hS.cell 0 rfl rfl)) ?_ | refine valP_ok (ld126 (hS.cell 1 rfl rfl)) ?_ | refine valP_ok (ld126 (hS.cell 2 rfl rfl)) ?_ | refine valP_ok (ld126 (hS.cell 3 rfl rfl)) ?_ | refine valP_ok (ld126 (hS.cell 4 rfl rfl)) ?_ | refine valP_ok (ld126 (by assumption)) ?_
  refine nil_ok ?_
  first | refine valP_ok (fa131_0 _ _) ?_ | refine valP_ok (fao131_0 _ _ _) ?_
  first | refine valP_ok (ld28 (hS.cell 0 rfl rfl)) ?_ | refine valP_ok (ld28 (hS.cell 1 rfl rfl)) ?_ | refine valP_ok (ld28 (hS.cell 2 rfl rfl)) ?_ | refine valP_ok (ld28 (hS.cell 3 rfl rfl)) ?_ | refine valP_ok (ld28 (hS.cell 4 rfl rfl)) ?_ | refine valP_ok (ld28 (by assumption)) ?_
  refine valP_ok (mf121 _ _) ?_
  refine callR (by kernel_rfl) (min_ret hok hC hne hS) ?_
  rintro v w ⟨rfl, hS⟩
  unfold m101_2
  exact ⟨rfl, hS.tail⟩

end Go.Proofs.Ytjjmlopmemmobaa.M
