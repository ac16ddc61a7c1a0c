/- What the document's group comes to: Join, Leave, Tick, Sync, Beat, May. -/
import Derived.Test.YtjjmlopmemmobaaG7
namespace Go.Proofs.Ytjjmlopmemmobaa.M
open Go.Proofs.Ytjjmlopmemmobaa.F Go.RowKit
set_option linter.unusedVariables false
set_option linter.unusedSimpArgs false
set_option maxRecDepth 100000
set_option maxHeartbeats 2000000
attribute [local irreducible] Res.cells Res.row Res.map Res.any World.cell? World.frozen? Instr.fieldAt Instr.loadAt Instr.storeAt Instr.indexAt Instr.lookup Instr.mapUpdate Instr.box Instr.build Instr.buildSlice Instr.extract Instr.alloc Instr.field Instr.index Instr.sliceAt Instr.makeSlice Instr.makeMap Instr.makeFunc binS Op.unary Sem.run
open Go.Proofs.Ytjjmlopmemmobaa.L Go.Shelf
theorem filter_take {p : Mem → Bool} {l : List Mem} {i : Nat} (h : i < l.length) : (l.take (i + 1)).filter p = (l.take i).filter p ++ if p l[i] then [l[i]] else [] := by
  rw [List.take_succ_eq_append_getElem h, List.filter_append]
  congr 1
  rw [List.filter_cons, List.filter_nil]
theorem filter_take_len {p : Mem → Bool} {l : List Mem} {i : Nat} (hl : l.length ≤ 1000) : ((l.take i).filter p).length ≤ 1000 := by
  have := List.length_filter_le p (l.take i)
  rw [List.length_take] at this
  omega
theorem rjoin_ret {w0 w : World} {F : List Nat} {L : List Res} {b T : Nat} {s : GS} {X : GA} {wk : Int} (hT : T < 900) (hs : GOk T s) (hS : St w0 F w (grpL 86 b s X ++ L)) :
    Ret Try.prog 76 #[.pointer (some ⟨b, 0, none⟩), .int .i64 wk] w fun v w' => v = .tuple #[.int .i64 (joinA s wk).1, .int .i64 (joinA s wk).2.1, .int .i64 (joinA s wk).2.2] ∧ ∃ X', St w0 F w' (grpL 86 b (joinG s wk) X' ++ L) := by
  have hlen := hs.len
  have hnow := hs.now0
  have hn0 := hs.n0
  refine s76 _ _ ?_
  unfold m76
  unfold m76_0
  have bad : (wk < 1 ∨ 8 < wk) → ∀ t, t = true → m76_20 (fun v w' => v = .tuple #[.int .i64 (joinA s wk).1, .int .i64 (joinA s wk).2.1, .int .i64 (joinA s wk).2.2] ∧ ∃ X', St w0 F w' (grpL 86 b (joinG s wk) X' ++ L)) (.pointer (some ⟨b, 0, none⟩)) (.int .i64 wk) (.bool t) w := fun hb t ht => by
    unfold m76_20
    refine cond_t ht ?_
    unfold m76_21
    unfold joinA joinG
    rw [if_pos hb, if_pos (.inl hb)]
    exact ⟨rfl, X, hS⟩
  unfold m76_1
  refine valP_ok (lss_ok _ _ _ _ _ _ _) ?_
  refine cond_split (fun h => ?_) (fun h => ?_)
  · first | refine pick_dt (by first | assumption | omega) ?_ | refine pick_df (by first | assumption | omega) ?_ | refine pick_t (by first | rfl | assumption) ?_ | refine pick_f (by first | rfl | assumption) ?_ | refine pick_dt rfl ?_ | refine pick_df (not_not_intro rfl) ?_
    exact bad (by omega) _ (by simp [h])
  refine valP_ok (gtr_ok _ _ _ _ _ _ _) ?_
  first | refine pick_dt (by first | assumption | omega) ?_ | refine pick_df (by first | assumption | omega) ?_ | refine pick_t (by first | rfl | assumption) ?_ | refine pick_f (by first | rfl | assumption) ?_ | refine pick_dt rfl ?_ | refine pick_df (not_not_intro rfl) ?_
  by_cases h1 : wk > 8
  · exact bad (by omega) _ (by simp [h1])
  have hw : ¬ (wk < 1 ∨ 8 < wk) := by omega
  unfold m76_20
  refine cond_df h1 ?_
  have bad2 : (1099511627776 ≤ s.g ∨ 1099511627776 ≤ s.n) → ∀ t, t = true → m76_18 (fun v w' => v = .tuple #[.int .i64 (joinA s wk).1, .int .i64 (joinA s wk).2.1, .int .i64 (joinA s wk).2.2] ∧ ∃ X', St w0 F w' (grpL 86 b (joinG s wk) X' ++ L)) (.pointer (some ⟨b, 0, none⟩)) (.int .i64 wk) (.bool t) w := fun hb t ht => by
    unfold m76_18
    refine cond_t ht ?_
    unfold m76_19
    unfold joinA joinG
    rw [if_neg hw, if_pos hb, if_pos (.inr hb)]
    exact ⟨rfl, X, hS⟩
  unfold m76_2
  refine nil_ok ?_
  first | refine valP_ok (fa86_2 _ _) ?_ | refine valP_ok (fao86_2 _ _ _) ?_
  first | refine valP_ok (ld3 (hS.cell 0 rfl rfl)) ?_ | refine valP_ok (ld3 (hS.cell 1 rfl rfl)) ?_ | refine valP_ok (ld3 (hS.cell 2 rfl rfl)) ?_ | refine valP_ok (ld3 (hS.cell 3 rfl rfl)) ?_ | refine valP_ok (ld3 (hS.cell 4 rfl rfl)) ?_ | refine valP_ok (ld3 (by assumption)) ?_
  refine valP_ok (geq_ok _ _ _ _ _ _ _) ?_
  refine cond_split (fun h2 => ?_) (fun h2 => ?_)
  · first | refine pick_dt (by first | assumption | omega) ?_ | refine pick_df (by first | assumption | omega) ?_ | refine pick_t (by first | rfl | assumption) ?_ | refine pick_f (by first | rfl | assumption) ?_ | refine pick_dt rfl ?_ | refine pick_df (not_not_intro rfl) ?_
    exact bad2 (by omega) _ (by simp [h2])
  refine nil_ok ?_
  first | refine valP_ok (fa86_3 _ _) ?_ | refine valP_ok (fao86_3 _ _ _) ?_
  first | refine valP_ok (ld3 (hS.cell 0 rfl rfl)) ?_ | refine valP_ok (ld3 (hS.cell 1 rfl rfl)) ?_ | refine valP_ok (ld3 (hS.cell 2 rfl rfl)) ?_ | refine valP_ok (ld3 (hS.cell 3 rfl rfl)) ?_ | refine valP_ok (ld3 (hS.cell 4 rfl rfl)) ?_ | refine valP_ok (ld3 (by assumption)) ?_
  refine valP_ok (geq_ok _ _ _ _ _ _ _) ?_
  first | refine pick_dt (by first | assumption | omega) ?_ | refine pick_df (by first | assumption | omega) ?_ | refine pick_t (by first | rfl | assumption) ?_ | refine pick_f (by first | rfl | assumption) ?_ | refine pick_dt rfl ?_ | refine pick_df (not_not_intro rfl) ?_
  by_cases h3 : s.n ≥ 1099511627776
  · exact bad2 (by omega) _ (by simp [h3])
  have hgn : ¬ (1099511627776 ≤ s.g ∨ 1099511627776 ≤ s.n) := by omega
  unfold m76_18
  refine cond_df h3 ?_
  unfold joinA joinG
  rw [if_neg hw, if_neg hgn, if_neg (by omega)]
  unfold m76_3 m76_4
  have hS := hS.row_nil 69 3
  refine loop_in (fun u w' => ∃ (i : Nat) (A : Option Addr) (c : Nat), u = (.slice A ((s.L.take i).filter fun m => !decide (m.wk = wk)).length c, .int .i64 i) ∧ i ≤ s.L.length ∧ St w0 F w' (mrow (.slice A ((s.L.take i).filter fun m => !decide (m.wk = wk)).length c) ((s.L.take i).filter fun m => !decide (m.wk = wk)) :: (grpL 86 b s X ++ L))) (fun u _ => s.L.length - (intOf u.2).toNat) ⟨0, none, 0, rfl, by omega, hS⟩ ?_
  clear hS bad bad2
  rintro u w ⟨i, A, c, rfl, hi, hS⟩
  unfold m76_13
  refine nil_ok ?_
  first | refine valP_ok (fa86_5 _ _) ?_ | refine valP_ok (fao86_5 _ _ _) ?_
  first | refine valP_ok (ld66 (hS.cell 0 rfl rfl)) ?_ | refine valP_ok (ld66 (hS.cell 1 rfl rfl)) ?_ | refine valP_ok (ld66 (hS.cell 2 rfl rfl)) ?_ | refine valP_ok (ld66 (hS.cell 3 rfl rfl)) ?_ | refine valP_ok (ld66 (hS.cell 4 rfl rfl)) ?_ | refine valP_ok (ld66 (by assumption)) ?_
  refine builtin_ok (len66 _) ?_
  refine valP_ok (lss_ok _ _ _ _ _ _ _) ?_
  unfold m76_17
  simp only
  refine cond_split (fun h => ?_) (fun h => ?_)
  · have hlt : i < s.L.length := by omega
    obtain ⟨m, cm, o, co⟩ := X
    obtain ⟨g, hg2⟩ := hS.row_ptr 2 rfl (by omega)
    simp only at hg2
    subst hg2
    have h0 := hS.row_struct 2 encM_len rfl hlt (j := 0) (by omega) rfl
    have h1 := hS.row_struct 2 encM_len rfl hlt (j := 1) (by omega) rfl
    have h2 := hS.row_struct 2 encM_len rfl hlt (j := 2) (by omega) rfl
    rw [Nat.add_zero] at h0
    have hft := filter_take (p := fun m => !decide (m.wk = wk)) hlt
    have hfl : ((s.L.take i).filter fun m => !decide (m.wk = wk)).length ≤ 1000 := filter_take_len (by omega)
    unfold m76_14
    refine nil_ok ?_
    first | refine valP_ok (fa86_5 _ _) ?_ | refine valP_ok (fao86_5 _ _ _) ?_
    first | refine valP_ok (ld66 (hS.cell 0 rfl rfl)) ?_ | refine valP_ok (ld66 (hS.cell 1 rfl rfl)) ?_ | refine valP_ok (ld66 (hS.cell 2 rfl rfl)) ?_ | refine valP_ok (ld66 (hS.cell 3 rfl rfl)) ?_ | refine valP_ok (ld66 (hS.cell 4 rfl rfl)) ?_ | refine valP_ok (ld66 (by assumption)) ?_
    first | refine valP_ok (ixz66 (by first | assumption | omega) _) ?_ | refine valP_ok (ix66 (by first | assumption | omega) _) ?_
    first | refine valP_ok (fa69_1 _ _) ?_ | refine valP_ok (fao69_1 _ _ _) ?_
    refine valP_ok (ld3 h1) ?_
    refine valP_ok (ne3 _ _ _ _ _) ?_
    unfold m76_16
    refine cond_split (fun e => ?_) (fun e => ?_)
    · refine nil_ok ?_
      first | refine valP_ok (fa86_5 _ _) ?_ | refine valP_ok (fao86_5 _ _ _) ?_
      first | refine valP_ok (ld66 (hS.cell 0 rfl rfl)) ?_ | refine valP_ok (ld66 (hS.cell 1 rfl rfl)) ?_ | refine valP_ok (ld66 (hS.cell 2 rfl rfl)) ?_ | refine valP_ok (ld66 (hS.cell 3 rfl rfl)) ?_ | refine valP_ok (ld66 (hS.cell 4 rfl rfl)) ?_ | refine valP_ok (ld66 (by assumption)) ?_
      first | refine valP_ok (ixz66 (by first | assumption | omega) _) ?_ | refine valP_ok (ix66 (by first | assumption | omega) _) ?_
      refine valP_ok (ld69 h0 h1 h2) ?_
      refine newslice_ok (bs66_1 _) hS ?_
      intro b55 w hS
      rw [if_pos (by rw [decide_eq_false e]; rfl)] at hft
      refine append_oneS 0 sl66 encM_len (encM_one _) (by omega) (by omega) hS rfl ?_
      intro A' c' w hS
      simp only [List.set_cons_zero] at hS
      unfold m76_15
      refine valP_ok (add_ok _ _ _ (by omega) (by omega) _) ?_
      rw [← hft] at hS
      rw [← hft]
      exact ⟨⟨i + 1, A', c', rfl, by omega, hS⟩, by simp [intOf]; omega⟩
    · unfold m76_15
      refine valP_ok (add_ok _ _ _ (by omega) (by omega) _) ?_
      rw [if_neg (by rw [decide_eq_true (Decidable.not_not.1 e)]; decide), List.append_nil] at hft
      rw [← hft] at hS
      rw [← hft]
      exact ⟨⟨i + 1, A, c, rfl, by omega, hS⟩, by simp [intOf]; omega⟩
  · have hi2 : i = s.L.length := by omega
    subst hi2
    rw [List.take_length] at hS
    rw [List.take_length]
    generalize hl2 : (s.L.filter fun m => !decide (m.wk = wk)) = l2 at hS
    have hl2l : l2.length ≤ s.L.length := by rw [← hl2]; exact List.length_filter_le _ _
    unfold m76_5
    refine nil_ok ?_
    first | refine valP_ok (fa86_3 _ _) ?_ | refine valP_ok (fao86_3 _ _ _) ?_
    first | refine valP_ok (ld3 (hS.cell 0 rfl rfl)) ?_ | refine valP_ok (ld3 (hS.cell 1 rfl rfl)) ?_ | refine valP_ok (ld3 (hS.cell 2 rfl rfl)) ?_ | refine valP_ok (ld3 (hS.cell 3 rfl rfl)) ?_ | refine valP_ok (ld3 (hS.cell 4 rfl rfl)) ?_ | refine valP_ok (ld3 (by assumption)) ?_
    unfold m76_6
    refine nil_ok ?_
    first | refine valP_ok (fa86_4 _ _) ?_ | refine valP_ok (fao86_4 _ _ _) ?_
    first | refine valP_ok (ld3 (hS.cell 0 rfl rfl)) ?_ | refine valP_ok (ld3 (hS.cell 1 rfl rfl)) ?_ | refine valP_ok (ld3 (hS.cell 2 rfl rfl)) ?_ | refine valP_ok (ld3 (hS.cell 3 rfl rfl)) ?_ | refine valP_ok (ld3 (hS.cell 4 rfl rfl)) ?_ | refine valP_ok (ld3 (by assumption)) ?_
    refine valP_ok (add_ok _ _ _ (by omega) (by omega) _) ?_
    refine valP_ok (bd69_0_1_2 rfl rfl rfl _) ?_
    refine newslice_ok (bs66_1 _) hS ?_
    intro b70 w hS
    refine append_oneS (x := (⟨s.n, wk, s.now + 12⟩ : Mem)) 0 sl66 encM_len (encM_one _) (by omega) (by omega) hS rfl ?_
    intro A' c' w hS
    simp only [List.set_cons_zero] at hS
    have hS : St w0 F w (mrow (.slice A' (l2 ++ [(⟨s.n, wk, s.now + 12⟩ : Mem)]).length c') (l2 ++ [(⟨s.n, wk, s.now + 12⟩ : Mem)]) :: Res.cells b 86 [.int .i64 s.parts, .bool s.sticky, .int .i64 s.g, .int .i64 s.n, .int .i64 s.now, .slice X.m s.L.length X.cm, .slice X.o s.O.length X.co] :: mrow (.slice X.m s.L.length X.cm) s.L :: irow (.slice X.o s.O.length X.co) s.O :: L) := hS
    unfold m76_7
    refine nil_ok ?_
    first | refine valP_ok (fa86_5 _ _) ?_ | refine valP_ok (fao86_5 _ _ _) ?_
    first | refine store_at 0 st66 hS rfl (by simp) rfl ?_ | refine store_at 1 st66 hS rfl (by simp) rfl ?_ | refine store_at 2 st66 hS rfl (by simp) rfl ?_ | refine store_at 3 st66 hS rfl (by simp) rfl ?_ | refine store_at 4 st66 hS rfl (by simp) rfl ?_
    intro w hS
    simp only [List.set_cons_zero, List.set_cons_succ] at hS
    unfold m76_8
    refine valP_ok (add_ok _ _ _ (by omega) (by omega) _) ?_
    refine nil_ok ?_
    first | refine valP_ok (fa86_3 _ _) ?_ | refine valP_ok (fao86_3 _ _ _) ?_
    first | refine store_at 0 st3 hS rfl (by simp) rfl ?_ | refine store_at 1 st3 hS rfl (by simp) rfl ?_ | refine store_at 2 st3 hS rfl (by simp) rfl ?_ | refine store_at 3 st3 hS rfl (by simp) rfl ?_ | refine store_at 4 st3 hS rfl (by simp) rfl ?_
    intro w hS
    simp only [List.set_cons_zero, List.set_cons_succ] at hS
    unfold m76_9
    have hj : GOk (T + 1) (joined s wk) := hs.join (by omega) (by omega)
    have hS : St w0 F w (Res.cells b 86 [.int .i64 s.parts, .bool s.sticky, .int .i64 s.g, .int .i64 (s.n + 1), .int .i64 s.now, .slice A' (l2 ++ [(⟨s.n, wk, s.now + 12⟩ : Mem)]).length c', .slice X.o s.O.length X.co] :: mrow (.slice A' (l2 ++ [(⟨s.n, wk, s.now + 12⟩ : Mem)]).length c') (l2 ++ [(⟨s.n, wk, s.now + 12⟩ : Mem)]) :: irow (.slice X.o s.O.length X.co) s.O :: L) := hS.pick 4 [1, 0, 3] (by simp) (by decide)
    have hS : St w0 F w (grpL 86 b (joined s wk) ⟨A', c', X.o, X.co⟩ ++ L) := by
      unfold joined
      rw [hl2]
      exact hS
    refine callR (by kernel_rfl) (rbegin_ret (hj.pre (by omega)) hS) ?_
    rintro v w ⟨X', hS⟩
    unfold m76_10
    refine nil_ok ?_
    first | refine valQ_ok (fa86_2 _) ?_ | refine valQ_ok (fao86_2 _ _) ?_
    first | refine valQ_load ld3 (hS.cell 0 rfl rfl) ?_ | refine valQ_load ld3 (hS.cell 1 rfl rfl) ?_ | refine valQ_load ld3 (hS.cell 2 rfl rfl) ?_ | refine valQ_load ld3 (hS.cell 3 rfl rfl) ?_ | refine valQ_load ld3 (hS.cell 4 rfl rfl) ?_ | refine valQ_load ld3 (by assumption) ?_
    refine drawn_ok hS ?_
    intro w hS
    unfold m76_11
    exact ⟨rfl, X', hS⟩
theorem rtick_ret {w0 w : World} {F : List Nat} {L : List Res} {b T : Nat} {s : GS} {X : GA} (hT : T < 900) (hs : GOk T s) (hS : St w0 F w (grpL 86 b s X ++ L)) :
    Ret Try.prog 80 #[.pointer (some ⟨b, 0, none⟩)] w fun v w' => v = .bool (tickA s) ∧ ∃ X', St w0 F w' (grpL 86 b (tickG s) X' ++ L) := by
  have hlen := hs.len
  have hnow := hs.now0
  refine s80 _ ?_
  unfold m80
  unfold m80_0
  have hS : St w0 F w (Res.cells b 86 [.int .i64 s.parts, .bool s.sticky, .int .i64 s.g, .int .i64 s.n, .int .i64 s.now, .slice X.m s.L.length X.cm, .slice X.o s.O.length X.co] :: mrow (.slice X.m s.L.length X.cm) s.L :: irow (.slice X.o s.O.length X.co) s.O :: L) := hS
  unfold m80_1
  refine nil_ok ?_
  first | refine valP_ok (fa86_4 _ _) ?_ | refine valP_ok (fao86_4 _ _ _) ?_
  first | refine valP_ok (ld3 (hS.cell 0 rfl rfl)) ?_ | refine valP_ok (ld3 (hS.cell 1 rfl rfl)) ?_ | refine valP_ok (ld3 (hS.cell 2 rfl rfl)) ?_ | refine valP_ok (ld3 (hS.cell 3 rfl rfl)) ?_ | refine valP_ok (ld3 (hS.cell 4 rfl rfl)) ?_ | refine valP_ok (ld3 (by assumption)) ?_
  refine valP_ok (add_ok _ _ _ (by omega) (by omega) _) ?_
  refine nil_ok ?_
  first | refine valP_ok (fa86_4 _ _) ?_ | refine valP_ok (fao86_4 _ _ _) ?_
  first | refine store_at 0 st3 hS rfl (by simp) rfl ?_ | refine store_at 1 st3 hS rfl (by simp) rfl ?_ | refine store_at 2 st3 hS rfl (by simp) rfl ?_ | refine store_at 3 st3 hS rfl (by simp) rfl ?_ | refine store_at 4 st3 hS rfl (by simp) rfl ?_
  intro w hS
  simp only [List.set_cons_zero, List.set_cons_succ] at hS
  have hS : St w0 F w (grpL 86 b (later s) X ++ L) := hS
  unfold m80_2
  refine nil_ok ?_
  first | refine valP_ok (fa86_2 _ _) ?_ | refine valP_ok (fao86_2 _ _ _) ?_
  first | refine valP_ok (ld3 (hS.cell 0 rfl rfl)) ?_ | refine valP_ok (ld3 (hS.cell 1 rfl rfl)) ?_ | refine valP_ok (ld3 (hS.cell 2 rfl rfl)) ?_ | refine valP_ok (ld3 (hS.cell 3 rfl rfl)) ?_ | refine valP_ok (ld3 (hS.cell 4 rfl rfl)) ?_ | refine valP_ok (ld3 (by assumption)) ?_
  refine valP_ok (geq_ok _ _ _ _ _ _ _) ?_
  unfold m80_18
  refine cond_split (fun h => ?_) (fun h => ?_)
  · have h : 1099511627776 ≤ s.g := h
    unfold m80_19
    unfold tickA tickG
    rw [if_pos (.inl h), decide_eq_true h]
    exact ⟨rfl, X, hS⟩
  have hg : ¬ 1099511627776 ≤ s.g := h
  unfold m80_3 m80_4
  have hS := hS.row_nil 69 3
  refine loop_in (fun u w' => ∃ (i : Nat) (A : Option Addr) (c : Nat), u = (.slice A ((s.L.take i).filter fun m => !decide (m.due ≤ s.now + 1)).length c, .int .i64 i) ∧ i ≤ s.L.length ∧ St w0 F w' (mrow (.slice A ((s.L.take i).filter fun m => !decide (m.due ≤ s.now + 1)).length c) ((s.L.take i).filter fun m => !decide (m.due ≤ s.now + 1)) :: (grpL 86 b (later s) X ++ L))) (fun u _ => s.L.length - (intOf u.2).toNat) ⟨0, none, 0, rfl, by omega, hS⟩ ?_
  clear hS
  rintro u w ⟨i, A, c, rfl, hi, hS⟩
  unfold m80_13
  refine nil_ok ?_
  first | refine valP_ok (fa86_5 _ _) ?_ | refine valP_ok (fao86_5 _ _ _) ?_
  first | refine valP_ok (ld66 (hS.cell 0 rfl rfl)) ?_ | refine valP_ok (ld66 (hS.cell 1 rfl rfl)) ?_ | refine valP_ok (ld66 (hS.cell 2 rfl rfl)) ?_ | refine valP_ok (ld66 (hS.cell 3 rfl rfl)) ?_ | refine valP_ok (ld66 (hS.cell 4 rfl rfl)) ?_ | refine valP_ok (ld66 (by assumption)) ?_
  refine builtin_ok (len66 _) ?_
  refine valP_ok (lss_ok _ _ _ _ _ _ _) ?_
  unfold m80_17
  simp only
  refine cond_split (fun h => ?_) (fun h => ?_)
  · have hlt : i < s.L.length := by have : (i : Int) < s.L.length := h; omega
    obtain ⟨m, cm, o, co⟩ := X
    obtain ⟨g, hg2⟩ := hS.row_ptr 2 rfl (by show 0 < s.L.length; omega)
    simp only at hg2
    subst hg2
    have h0 : w.cell? ⟨g, i * 3 + 0, none⟩ = some (.int .i64 s.L[i].id) := hS.row_struct (l := s.L) 2 encM_len rfl hlt (j := 0) (by omega) rfl
    have h1 : w.cell? ⟨g, i * 3 + 1, none⟩ = some (.int .i64 s.L[i].wk) := hS.row_struct (l := s.L) 2 encM_len rfl hlt (j := 1) (by omega) rfl
    have h2 : w.cell? ⟨g, i * 3 + 2, none⟩ = some (.int .i64 s.L[i].due) := hS.row_struct (l := s.L) 2 encM_len rfl hlt (j := 2) (by omega) rfl
    rw [Nat.add_zero] at h0
    have hft := filter_take (p := fun m => !decide (m.due ≤ s.now + 1)) hlt
    have hfl : ((s.L.take i).filter fun m => !decide (m.due ≤ s.now + 1)).length ≤ 1000 := filter_take_len (by omega)
    unfold m80_14
    refine nil_ok ?_
    first | refine valQ_ok (fa86_5 _) ?_ | refine valQ_ok (fao86_5 _ _) ?_
    first | refine valQ_load ld66 (hS.cell 0 rfl rfl) ?_ | refine valQ_load ld66 (hS.cell 1 rfl rfl) ?_ | refine valQ_load ld66 (hS.cell 2 rfl rfl) ?_ | refine valQ_load ld66 (hS.cell 3 rfl rfl) ?_ | refine valQ_load ld66 (hS.cell 4 rfl rfl) ?_ | refine valQ_load ld66 (by assumption) ?_
    refine valQ_ok (ixz66 hlt) ?_
    first | refine valQ_ok (fa69_2 _) ?_ | refine valQ_ok (fao69_2 _ _) ?_
    refine valQ_load ld3 h2 ?_
    refine nil_ok ?_
    first | refine valQ_ok (fa86_4 _) ?_ | refine valQ_ok (fao86_4 _ _) ?_
    first | refine valQ_load ld3 (hS.cell 0 rfl rfl) ?_ | refine valQ_load ld3 (hS.cell 1 rfl rfl) ?_ | refine valQ_load ld3 (hS.cell 2 rfl rfl) ?_ | refine valQ_load ld3 (hS.cell 3 rfl rfl) ?_ | refine valQ_load ld3 (hS.cell 4 rfl rfl) ?_ | refine valQ_load ld3 (by assumption) ?_
    refine valQ_ok (gtr_ok _ _ _ _ _ _) ?_
    refine drawn_ok hS ?_
    intro w hS
    unfold m80_16
    refine cond_split (fun e => ?_) (fun e => ?_)
    · have e : s.L[i].due > s.now + 1 := e
      have h0 : w.cell? ⟨g, i * 3 + 0, none⟩ = some (.int .i64 s.L[i].id) := hS.row_struct (l := s.L) 2 encM_len rfl hlt (j := 0) (by omega) rfl
      have h1 : w.cell? ⟨g, i * 3 + 1, none⟩ = some (.int .i64 s.L[i].wk) := hS.row_struct (l := s.L) 2 encM_len rfl hlt (j := 1) (by omega) rfl
      have h2 : w.cell? ⟨g, i * 3 + 2, none⟩ = some (.int .i64 s.L[i].due) := hS.row_struct (l := s.L) 2 encM_len rfl hlt (j := 2) (by omega) rfl
      rw [Nat.add_zero] at h0
      refine nil_ok ?_
      first | refine valP_ok (fa86_5 _ _) ?_ | refine valP_ok (fao86_5 _ _ _) ?_
      first | refine valP_ok (ld66 (hS.cell 0 rfl rfl)) ?_ | refine valP_ok (ld66 (hS.cell 1 rfl rfl)) ?_ | refine valP_ok (ld66 (hS.cell 2 rfl rfl)) ?_ | refine valP_ok (ld66 (hS.cell 3 rfl rfl)) ?_ | refine valP_ok (ld66 (hS.cell 4 rfl rfl)) ?_ | refine valP_ok (ld66 (by assumption)) ?_
      refine valP_ok (ixz66 hlt _) ?_
      refine valP_ok (ld69 h0 h1 h2) ?_
      refine newslice_ok (bs66_1 _) hS ?_
      intro b48 w hS
      rw [if_pos (by rw [decide_eq_false (by omega)]; rfl)] at hft
      refine append_oneS 0 sl66 encM_len (encM_one _) (by omega) (by omega) hS rfl ?_
      intro A' c' w hS
      simp only [List.set_cons_zero] at hS
      unfold m80_15
      refine valP_ok (add_ok _ _ _ (by omega) (by omega) _) ?_
      rw [← hft] at hS
      rw [← hft]
      exact ⟨⟨i + 1, A', c', rfl, by omega, hS⟩, by simp [intOf]; omega⟩
    · have e : ¬ s.L[i].due > s.now + 1 := e
      unfold m80_15
      refine valP_ok (add_ok _ _ _ (by omega) (by omega) _) ?_
      rw [if_neg (by rw [decide_eq_true (by omega)]; decide), List.append_nil] at hft
      rw [← hft] at hS
      rw [← hft]
      exact ⟨⟨i + 1, A, c, rfl, by omega, hS⟩, by simp [intOf]; omega⟩
  · have hi2 : i = s.L.length := by have : ¬ (i : Int) < s.L.length := h; omega
    subst hi2
    rw [List.take_length] at hS
    rw [List.take_length]
    have hS : St w0 F w (mrow (.slice A (stays s).length c) (stays s) :: Res.cells b 86 [.int .i64 s.parts, .bool s.sticky, .int .i64 s.g, .int .i64 s.n, .int .i64 (s.now + 1), .slice X.m s.L.length X.cm, .slice X.o s.O.length X.co] :: mrow (.slice X.m s.L.length X.cm) s.L :: irow (.slice X.o s.O.length X.co) s.O :: L) := hS
    have hle : (stays s).length ≤ s.L.length := List.length_filter_le _ _
    show m80_5 _ _ (.slice A (stays s).length c) _
    unfold m80_5
    refine builtin_ok (len66 _) ?_
    refine nil_ok ?_
    first | refine valP_ok (fa86_5 _ _) ?_ | refine valP_ok (fao86_5 _ _ _) ?_
    first | refine valP_ok (ld66 (hS.cell 0 rfl rfl)) ?_ | refine valP_ok (ld66 (hS.cell 1 rfl rfl)) ?_ | refine valP_ok (ld66 (hS.cell 2 rfl rfl)) ?_ | refine valP_ok (ld66 (hS.cell 3 rfl rfl)) ?_ | refine valP_ok (ld66 (hS.cell 4 rfl rfl)) ?_ | refine valP_ok (ld66 (by assumption)) ?_
    refine builtin_ok (len66 _) ?_
    refine valP_ok (eq3 _ _ _ _ _) ?_
    unfold m80_10
    refine cond_split (fun e => ?_) (fun e => ?_)
    · unfold m80_11
      unfold tickA tickG
      rw [if_pos (.inr (by omega)), decide_eq_false (p := (stays s).length < s.L.length) (by omega), Bool.and_false]
      exact ⟨rfl, X, hS.tail⟩
    · have hl : (stays s).length < s.L.length := by omega
      unfold m80_6
      refine nil_ok ?_
      first | refine valP_ok (fa86_5 _ _) ?_ | refine valP_ok (fao86_5 _ _ _) ?_
      first | refine store_at 0 st66 hS rfl (by simp) rfl ?_ | refine store_at 1 st66 hS rfl (by simp) rfl ?_ | refine store_at 2 st66 hS rfl (by simp) rfl ?_ | refine store_at 3 st66 hS rfl (by simp) rfl ?_ | refine store_at 4 st66 hS rfl (by simp) rfl ?_
      intro w hS
      simp only [List.set_cons_zero, List.set_cons_succ] at hS
      have hf := hs.later.fewer (fun m => !decide (m.due ≤ s.now + 1))
      have hgt : tickG s = gturned { later s with L := stays s } := by unfold tickG; rw [if_neg (by omega)]
      have hS : St w0 F w (grpL 86 b { later s with L := stays s } ⟨A, c, X.o, X.co⟩ ++ L) := hS.pick 4 [1, 0, 3] (by simp) (by decide)
      unfold m80_7
      refine callR (by kernel_rfl) (rbegin_ret (s := { later s with L := stays s }) (hf.pre (by omega)) hS) ?_
      rintro v w ⟨X', hS⟩
      unfold m80_8 m80_9
      rw [hgt]
      refine ⟨?_, X', hS⟩
      congr 1
      unfold tickA
      rw [decide_eq_false hg, decide_eq_true hl]
      rfl

end Go.Proofs.Ytjjmlopmemmobaa.M
