/- What group's functions come to: Join, Leave, Tick, Sync, Beat, May. -/
import Derived.Test.YtjjmlopmemmobaaG4
namespace Go.Proofs.Ytjjmlopmemmobaa.M
open Go.Proofs.Ytjjmlopmemmobaa.F Go.RowKit
set_option linter.unusedVariables false
set_option linter.unusedSimpArgs false
set_option maxRecDepth 100000
set_option maxHeartbeats 2000000
attribute [local irreducible] Res.cells Res.row Res.map Res.any World.cell? World.frozen? Instr.fieldAt Instr.loadAt Instr.storeAt Instr.indexAt Instr.lookup Instr.mapUpdate Instr.box Instr.build Instr.buildSlice Instr.extract Instr.alloc Instr.field Instr.index Instr.sliceAt Instr.makeSlice Instr.makeMap Instr.makeFunc binS Op.unary Sem.run
open Go.Proofs.Ytjjmlopmemmobaa.L Go.Shelf
theorem gjoin_ret {w0 w : World} {F : List Nat} {L : List Res} {b T : Nat} {s : GS} {X : GA} {wk : Int} (hT : T < 900) (hs : GOk T s) (hS : St w0 F w (grpL 103 b s X ++ L)) :
    Ret Try.prog 54 #[.pointer (some ⟨b, 0, none⟩), .int .i64 wk] w fun v w' => v = .tuple #[.int .i64 (joinA s wk).1, .int .i64 (joinA s wk).2.1, .int .i64 (joinA s wk).2.2] ∧ ∃ X', St w0 F w' (grpL 103 b (joinG s wk) X' ++ L) := by
  have hlen := hs.len
  have hnow := hs.now0
  have hn0 := hs.n0
  refine s54 _ _ ?_
  unfold m54
  unfold m54_0
  refine new_ok (bx3 rfl _) hS ?_
  intro b3 w hS
  have hS : St w0 F w (grpL 103 b s X ++ Res.cells b3 3 [.int .i64 wk] :: L) := hS.pick 4 [1, 2, 3, 0] (by simp) (by decide)
  have bad : (wk < 1 ∨ 8 < wk) → ∀ w t, St w0 F w (grpL 103 b s X ++ Res.cells b3 3 [.int .i64 wk] :: L) → t = true → m54_9 (fun v w' => v = .tuple #[.int .i64 (joinA s wk).1, .int .i64 (joinA s wk).2.1, .int .i64 (joinA s wk).2.2] ∧ ∃ X', St w0 F w' (grpL 103 b (joinG s wk) X' ++ L)) (.pointer (some ⟨b, 0, none⟩)) (.pointer (some ⟨b3, 0, none⟩)) (.bool t) w := fun hb w t hS ht => by
    unfold m54_9
    refine cond_t ht ?_
    unfold m54_10
    unfold joinA joinG
    rw [if_pos hb, if_pos (.inl hb)]
    exact ⟨rfl, X, hS.pick 4 [0, 1, 2] (by simp) (by decide)⟩
  unfold m54_1
  first | refine valP_ok (eq59n _ _ _) ?_ | refine valP_ok (eq59s _ _ _ _) ?_
  refine cond_f rfl ?_
  first | refine valP_ok (ld3 (hS.cell 0 rfl rfl)) ?_ | refine valP_ok (ld3 (hS.cell 1 rfl rfl)) ?_ | refine valP_ok (ld3 (hS.cell 2 rfl rfl)) ?_ | refine valP_ok (ld3 (hS.cell 3 rfl rfl)) ?_ | refine valP_ok (ld3 (hS.cell 4 rfl rfl)) ?_ | refine valP_ok (ld3 (by assumption)) ?_
  refine valP_ok (lss_ok _ _ _ _ _ _ _) ?_
  first | refine pick_dt (by first | assumption | omega) ?_ | refine pick_df (by first | assumption | omega) ?_ | refine pick_t (by first | rfl | assumption) ?_ | refine pick_f (by first | rfl | assumption) ?_ | refine pick_dt rfl ?_ | refine pick_df (not_not_intro rfl) ?_
  refine cond_split (fun h => ?_) (fun h => ?_)
  · first | refine pick_dt (by first | assumption | omega) ?_ | refine pick_df (by first | assumption | omega) ?_ | refine pick_t (by first | rfl | assumption) ?_ | refine pick_f (by first | rfl | assumption) ?_ | refine pick_dt rfl ?_ | refine pick_df (not_not_intro rfl) ?_
    exact bad (by omega) _ _ hS (by simp [h])
  first | refine valP_ok (ld3 (hS.cell 0 rfl rfl)) ?_ | refine valP_ok (ld3 (hS.cell 1 rfl rfl)) ?_ | refine valP_ok (ld3 (hS.cell 2 rfl rfl)) ?_ | refine valP_ok (ld3 (hS.cell 3 rfl rfl)) ?_ | refine valP_ok (ld3 (hS.cell 4 rfl rfl)) ?_ | refine valP_ok (ld3 (by assumption)) ?_
  refine valP_ok (gtr_ok _ _ _ _ _ _ _) ?_
  first | refine pick_dt (by first | assumption | omega) ?_ | refine pick_df (by first | assumption | omega) ?_ | refine pick_t (by first | rfl | assumption) ?_ | refine pick_f (by first | rfl | assumption) ?_ | refine pick_dt rfl ?_ | refine pick_df (not_not_intro rfl) ?_
  by_cases h1 : wk > 8
  · exact bad (by omega) _ _ hS (by simp [h1])
  have hw : ¬ (wk < 1 ∨ 8 < wk) := by omega
  unfold m54_9
  refine cond_df h1 ?_
  refine callR (by kernel_rfl) (spent_ret hS) ?_
  rintro v w ⟨rfl, rfl⟩
  have bad2 : (1099511627776 ≤ s.g ∨ 1099511627776 ≤ s.n) → ∀ w t, St w0 F w (grpL 103 b s X ++ Res.cells b3 3 [.int .i64 wk] :: L) → t = true → m54_11 (fun v w' => v = .tuple #[.int .i64 (joinA s wk).1, .int .i64 (joinA s wk).2.1, .int .i64 (joinA s wk).2.2] ∧ ∃ X', St w0 F w' (grpL 103 b (joinG s wk) X' ++ L)) (.pointer (some ⟨b, 0, none⟩)) (.pointer (some ⟨b3, 0, none⟩)) (.bool t) w := fun hb w t hS ht => by
    unfold m54_11
    refine cond_t ht ?_
    unfold m54_12
    unfold joinA joinG
    rw [if_neg hw, if_pos hb, if_pos (.inr hb)]
    exact ⟨rfl, X, hS.pick 4 [0, 1, 2] (by simp) (by decide)⟩
  refine cond_split (fun h2 => ?_) (fun h2 => ?_)
  · first | refine pick_dt (by first | assumption | omega) ?_ | refine pick_df (by first | assumption | omega) ?_ | refine pick_t (by first | rfl | assumption) ?_ | refine pick_f (by first | rfl | assumption) ?_ | refine pick_dt rfl ?_ | refine pick_df (not_not_intro rfl) ?_
    exact bad2 (by omega) _ _ hS (by simp [h2])
  refine nil_ok ?_
  first | refine valP_ok (fa103_3 _ _) ?_ | refine valP_ok (fao103_3 _ _ _) ?_
  first | refine valP_ok (ld3 (hS.cell 0 rfl rfl)) ?_ | refine valP_ok (ld3 (hS.cell 1 rfl rfl)) ?_ | refine valP_ok (ld3 (hS.cell 2 rfl rfl)) ?_ | refine valP_ok (ld3 (hS.cell 3 rfl rfl)) ?_ | refine valP_ok (ld3 (hS.cell 4 rfl rfl)) ?_ | refine valP_ok (ld3 (by assumption)) ?_
  refine valP_ok (geq_ok _ _ _ _ _ _ _) ?_
  first | refine pick_dt (by first | assumption | omega) ?_ | refine pick_df (by first | assumption | omega) ?_ | refine pick_t (by first | rfl | assumption) ?_ | refine pick_f (by first | rfl | assumption) ?_ | refine pick_dt rfl ?_ | refine pick_df (not_not_intro rfl) ?_
  by_cases h3 : s.n ≥ 1099511627776
  · exact bad2 (by omega) _ _ hS (by simp [h3])
  have hgn : ¬ (1099511627776 ≤ s.g ∨ 1099511627776 ≤ s.n) := by omega
  unfold m54_11
  refine cond_df h3 ?_
  unfold joinA joinG
  rw [if_neg hw, if_neg hgn, if_neg (by omega)]
  unfold m54_2
  refine valP_ok (mf83 _ _) ?_
  refine callR (by kernel_rfl) (drop_ret (by kernel_rfl) (by omega) hS asks_wk) ?_
  rintro v w ⟨-, hS⟩
  have hS : St w0 F w (grpL 103 b { s with L := s.L.filter fun m => !decide (m.wk = wk) } X ++ Res.cells b3 3 [.int .i64 wk] :: L) := hS
  generalize hl2 : (s.L.filter fun m => !decide (m.wk = wk)) = l2 at hS
  have hl2l : l2.length ≤ s.L.length := by rw [← hl2]; exact List.length_filter_le _ _
  have hS : St w0 F w (Res.cells b 103 [.int .i64 s.parts, .bool s.sticky, .int .i64 s.g, .int .i64 s.n, .int .i64 s.now, .slice X.m l2.length X.cm, .slice X.o s.O.length X.co] :: mrow (.slice X.m l2.length X.cm) l2 :: irow (.slice X.o s.O.length X.co) s.O :: Res.cells b3 3 [.int .i64 wk] :: L) := hS
  unfold m54_3
  refine drawn_ok hS ?_
  intro w hS
  refine held_St [Res.cells b 103 [.int .i64 s.parts, .bool s.sticky, .int .i64 s.g, .int .i64 s.n, .int .i64 s.now, .slice X.m l2.length X.cm, .slice X.o s.O.length X.co], Res.cells b3 3 [.int .i64 wk]] hS (by simp) ?_
  refine nil_ok ?_
  first | refine valJ_ok (fa103_3 _) ?_ | refine valJ_ok (fao103_3 _ _) ?_
  first | refine valJ_load ld3 (AllH.cell 0 rfl rfl) ?_ | refine valJ_load ld3 (AllH.cell 1 rfl rfl) ?_ | refine valJ_load ld3 (AllH.cell 2 rfl rfl) ?_ | refine valJ_load ld3 (AllH.cell 3 rfl rfl) ?_ | refine valJ_load ld3 (AllH.cell 4 rfl rfl) ?_ | refine valJ_load ld3 (by assumption) ?_
  first | refine valJ_load ld3 (AllH.cell 0 rfl rfl) ?_ | refine valJ_load ld3 (AllH.cell 1 rfl rfl) ?_ | refine valJ_load ld3 (AllH.cell 2 rfl rfl) ?_ | refine valJ_load ld3 (AllH.cell 3 rfl rfl) ?_ | refine valJ_load ld3 (AllH.cell 4 rfl rfl) ?_ | refine valJ_load ld3 (by assumption) ?_
  refine nil_ok ?_
  first | refine valJ_ok (fa103_4 _) ?_ | refine valJ_ok (fao103_4 _ _) ?_
  first | refine valJ_load ld3 (AllH.cell 0 rfl rfl) ?_ | refine valJ_load ld3 (AllH.cell 1 rfl rfl) ?_ | refine valJ_load ld3 (AllH.cell 2 rfl rfl) ?_ | refine valJ_load ld3 (AllH.cell 3 rfl rfl) ?_ | refine valJ_load ld3 (AllH.cell 4 rfl rfl) ?_ | refine valJ_load ld3 (by assumption) ?_
  refine valJ_ok (add_ok _ _ _ (by omega) (by omega)) ?_
  refine valJ_ok (bd69_0_1_2 rfl rfl rfl) ?_
  refine new_ok (al69 _) hS ?_
  intro b7 w hS
  refine stay_St hS (by simp) ?_
  first | refine ss69 0 hS rfl rfl rfl rfl ?_ | refine ss69 1 hS rfl rfl rfl rfl ?_ | refine ss69 2 hS rfl rfl rfl rfl ?_ | refine ss69 3 hS rfl rfl rfl rfl ?_ | refine ss69 4 hS rfl rfl rfl rfl ?_
  intro w hS
  simp only [List.set_cons_zero, List.set_cons_succ] at hS
  refine stay_St hS (by simp) ?_
  have fin : ∀ w A' c', St w0 F w (Res.cells b 103 [.int .i64 s.parts, .bool s.sticky, .int .i64 s.g, .int .i64 s.n, .int .i64 s.now, .slice A' (l2 ++ [(⟨s.n, wk, s.now + 12⟩ : Mem)]).length c', .slice X.o s.O.length X.co] :: mrow (.slice A' (l2 ++ [(⟨s.n, wk, s.now + 12⟩ : Mem)]).length c') (l2 ++ [(⟨s.n, wk, s.now + 12⟩ : Mem)]) :: irow (.slice X.o s.O.length X.co) s.O :: Res.cells b7 69 [.int .i64 s.n, .int .i64 wk, .int .i64 (s.now + 12)] :: L) →
      m54_5 (fun v w' => v = .tuple #[.int .i64 s.n, .int .i64 (s.g + 1), .int .i64 0] ∧ ∃ X', St w0 F w' (grpL 103 b (gturned (joined s wk)) X' ++ L)) (.pointer (some ⟨b, 0, none⟩)) (.pointer (some ⟨b7, 0, none⟩)) w := fun w A' c' hS => by
    unfold m54_5
    refine nil_ok ?_
    first | refine valP_ok (fa103_3 _ _) ?_ | refine valP_ok (fao103_3 _ _ _) ?_
    first | refine valP_ok (ld3 (hS.cell 0 rfl rfl)) ?_ | refine valP_ok (ld3 (hS.cell 1 rfl rfl)) ?_ | refine valP_ok (ld3 (hS.cell 2 rfl rfl)) ?_ | refine valP_ok (ld3 (hS.cell 3 rfl rfl)) ?_ | refine valP_ok (ld3 (hS.cell 4 rfl rfl)) ?_ | refine valP_ok (ld3 (by assumption)) ?_
    refine valP_ok (add_ok _ _ _ (by omega) (by omega) _) ?_
    refine nil_ok ?_
    first | refine valP_ok (fa103_3 _ _) ?_ | refine valP_ok (fao103_3 _ _ _) ?_
    first | refine store_at 0 st3 hS rfl (by simp) rfl ?_ | refine store_at 1 st3 hS rfl (by simp) rfl ?_ | refine store_at 2 st3 hS rfl (by simp) rfl ?_ | refine store_at 3 st3 hS rfl (by simp) rfl ?_ | refine store_at 4 st3 hS rfl (by simp) rfl ?_
    intro w hS
    simp only [List.set_cons_zero, List.set_cons_succ] at hS
    unfold m54_6
    have hj : GOk (T + 1) (joined s wk) := hs.join (by omega) (by omega)
    have hS : St w0 F w (grpL 103 b (joined s wk) ⟨A', c', X.o, X.co⟩ ++ Res.cells b7 69 [.int .i64 s.n, .int .i64 wk, .int .i64 (s.now + 12)] :: L) := by
      unfold joined
      rw [hl2]
      exact hS
    refine callR (by kernel_rfl) (gturn_ret (hj.pre (by omega)) hS) ?_
    rintro v w ⟨X', hS⟩
    unfold m54_7
    first | refine valQ_ok (fa69_0 _) ?_ | refine valQ_ok (fao69_0 _ _) ?_
    first | refine valQ_load ld3 (hS.cell 0 rfl rfl) ?_ | refine valQ_load ld3 (hS.cell 1 rfl rfl) ?_ | refine valQ_load ld3 (hS.cell 2 rfl rfl) ?_ | refine valQ_load ld3 (hS.cell 3 rfl rfl) ?_ | refine valQ_load ld3 (hS.cell 4 rfl rfl) ?_ | refine valQ_load ld3 (by assumption) ?_
    refine nil_ok ?_
    first | refine valQ_ok (fa103_2 _) ?_ | refine valQ_ok (fao103_2 _ _) ?_
    first | refine valQ_load ld3 (hS.cell 0 rfl rfl) ?_ | refine valQ_load ld3 (hS.cell 1 rfl rfl) ?_ | refine valQ_load ld3 (hS.cell 2 rfl rfl) ?_ | refine valQ_load ld3 (hS.cell 3 rfl rfl) ?_ | refine valQ_load ld3 (hS.cell 4 rfl rfl) ?_ | refine valQ_load ld3 (by assumption) ?_
    refine drawn_ok hS ?_
    intro w hS
    unfold m54_8
    exact ⟨rfl, X', hS.pick 4 [0, 1, 2] (by simp) (by decide)⟩
  have hS : St w0 F w (Res.cells b7 69 [.int .i64 s.n, .int .i64 wk, .int .i64 (s.now + 12)] :: Res.cells b 103 [.int .i64 s.parts, .bool s.sticky, .int .i64 s.g, .int .i64 s.n, .int .i64 s.now, .slice X.m l2.length X.cm, .slice X.o s.O.length X.co] :: mrow (.slice X.m l2.length X.cm) l2 :: irow (.slice X.o s.O.length X.co) s.O :: L) := hS.pick 5 [0, 1, 2, 3] (by simp) (by decide)
  unfold m54_4
  refine drawn_ok hS ?_
  intro w hS
  refine nil_ok ?_
  first | refine pureP_ok (fa103_5 _) ?_ | refine pureP_ok (fao103_5 _ _) ?_
  refine ⟨?_, ?_⟩
  · first | refine valP_ok (ld66 (hS.cell 0 rfl rfl)) ?_ | refine valP_ok (ld66 (hS.cell 1 rfl rfl)) ?_ | refine valP_ok (ld66 (hS.cell 2 rfl rfl)) ?_ | refine valP_ok (ld66 (hS.cell 3 rfl rfl)) ?_ | refine valP_ok (ld66 (hS.cell 4 rfl rfl)) ?_ | refine valP_ok (ld66 (by assumption)) ?_
    first | refine ls69 0 hS rfl ?_ | refine ls69 1 hS rfl ?_ | refine ls69 2 hS rfl ?_ | refine ls69 3 hS rfl ?_ | refine ls69 4 hS rfl ?_ | refine valP_ok (ld69 (by assumption) (by assumption) (by assumption)) ?_
    refine newslice_ok (bs66_1 _) hS ?_
    intro b49 w hS
    refine append_oneS (x := (⟨s.n, wk, s.now + 12⟩ : Mem)) 2 sl66 encM_len (encM_one _) (by omega) (by omega) hS rfl ?_
    intro A' c' w hS
    simp only [List.set_cons_zero, List.set_cons_succ] at hS
    refine nil_ok ?_
    first | refine pureP_ok (fa103_5 _) ?_ | refine pureP_ok (fao103_5 _ _) ?_
    first | refine store_at 0 st66 hS rfl (by simp) rfl ?_ | refine store_at 1 st66 hS rfl (by simp) rfl ?_ | refine store_at 2 st66 hS rfl (by simp) rfl ?_ | refine store_at 3 st66 hS rfl (by simp) rfl ?_ | refine store_at 4 st66 hS rfl (by simp) rfl ?_
    intro w hS
    simp only [List.set_cons_zero, List.set_cons_succ] at hS
    exact fin _ A' c' (hS.pick 4 [1, 2, 3, 0] (by simp) (by decide))
  first | refine ls69 0 hS rfl ?_ | refine ls69 1 hS rfl ?_ | refine ls69 2 hS rfl ?_ | refine ls69 3 hS rfl ?_ | refine ls69 4 hS rfl ?_ | refine valP_ok (ld69 (by assumption) (by assumption) (by assumption)) ?_
  refine ⟨?_, ?_⟩
  · first | refine valP_ok (ld66 (hS.cell 0 rfl rfl)) ?_ | refine valP_ok (ld66 (hS.cell 1 rfl rfl)) ?_ | refine valP_ok (ld66 (hS.cell 2 rfl rfl)) ?_ | refine valP_ok (ld66 (hS.cell 3 rfl rfl)) ?_ | refine valP_ok (ld66 (hS.cell 4 rfl rfl)) ?_ | refine valP_ok (ld66 (by assumption)) ?_
    refine newslice_ok (bs66_1 _) hS ?_
    intro b49 w hS
    refine append_oneS (x := (⟨s.n, wk, s.now + 12⟩ : Mem)) 2 sl66 encM_len (encM_one _) (by omega) (by omega) hS rfl ?_
    intro A' c' w hS
    simp only [List.set_cons_zero, List.set_cons_succ] at hS
    refine nil_ok ?_
    first | refine pureP_ok (fa103_5 _) ?_ | refine pureP_ok (fao103_5 _ _) ?_
    first | refine store_at 0 st66 hS rfl (by simp) rfl ?_ | refine store_at 1 st66 hS rfl (by simp) rfl ?_ | refine store_at 2 st66 hS rfl (by simp) rfl ?_ | refine store_at 3 st66 hS rfl (by simp) rfl ?_ | refine store_at 4 st66 hS rfl (by simp) rfl ?_
    intro w hS
    simp only [List.set_cons_zero, List.set_cons_succ] at hS
    exact fin _ A' c' (hS.pick 4 [1, 2, 3, 0] (by simp) (by decide))
  · refine newslice_ok (bs66_1 _) hS ?_
    intro b49 w hS
    first | refine valP_ok (ld66 (hS.cell 0 rfl rfl)) ?_ | refine valP_ok (ld66 (hS.cell 1 rfl rfl)) ?_ | refine valP_ok (ld66 (hS.cell 2 rfl rfl)) ?_ | refine valP_ok (ld66 (hS.cell 3 rfl rfl)) ?_ | refine valP_ok (ld66 (hS.cell 4 rfl rfl)) ?_ | refine valP_ok (ld66 (by assumption)) ?_
    refine append_oneS (x := (⟨s.n, wk, s.now + 12⟩ : Mem)) 2 sl66 encM_len (encM_one _) (by omega) (by omega) hS rfl ?_
    intro A' c' w hS
    simp only [List.set_cons_zero, List.set_cons_succ] at hS
    refine nil_ok ?_
    first | refine pureP_ok (fa103_5 _) ?_ | refine pureP_ok (fao103_5 _ _) ?_
    first | refine store_at 0 st66 hS rfl (by simp) rfl ?_ | refine store_at 1 st66 hS rfl (by simp) rfl ?_ | refine store_at 2 st66 hS rfl (by simp) rfl ?_ | refine store_at 3 st66 hS rfl (by simp) rfl ?_ | refine store_at 4 st66 hS rfl (by simp) rfl ?_
    intro w hS
    simp only [List.set_cons_zero, List.set_cons_succ] at hS
    exact fin _ A' c' (hS.pick 4 [1, 2, 3, 0] (by simp) (by decide))
theorem gleave_ret {w0 w : World} {F : List Nat} {L : List Res} {b T : Nat} {s : GS} {X : GA} {id : Int} (hT : T < 900) (hs : GOk T s) (hS : St w0 F w (grpL 103 b s X ++ L)) :
    Ret Try.prog 49 #[.pointer (some ⟨b, 0, none⟩), .int .i64 id] w fun v w' => v = .int .i64 (leaveA s id) ∧ ∃ X', St w0 F w' (grpL 103 b (leaveG s id) X' ++ L) := by
  have hlen := hs.len
  refine s49 _ _ ?_
  unfold m49
  unfold m49_0
  refine new_ok (bx3 rfl _) hS ?_
  intro b3 w hS
  have hS : St w0 F w (grpL 103 b s X ++ Res.cells b3 3 [.int .i64 id] :: L) := hS.pick 4 [1, 2, 3, 0] (by simp) (by decide)
  unfold m49_1
  first | refine valP_ok (ld3 (hS.cell 0 rfl rfl)) ?_ | refine valP_ok (ld3 (hS.cell 1 rfl rfl)) ?_ | refine valP_ok (ld3 (hS.cell 2 rfl rfl)) ?_ | refine valP_ok (ld3 (hS.cell 3 rfl rfl)) ?_ | refine valP_ok (ld3 (hS.cell 4 rfl rfl)) ?_ | refine valP_ok (ld3 (by assumption)) ?_
  refine callR (by kernel_rfl) (find_ret (by omega) hS id) ?_
  rintro v w ⟨hv, rfl⟩
  unfold FoundM at hv
  unfold leaveA leaveG
  split at hv
  · rename_i ha
    subst hv
    first | refine valP_ok (eq105n _ _ _) ?_ | refine valP_ok (eq105s _ _ _ _) ?_
    unfold m49_6
    refine cond_t rfl ?_
    unfold m49_7
    rw [ha]
    exact ⟨rfl, X, hS.pick 4 [0, 1, 2] (by simp) (by decide)⟩
  rename_i i ha
  obtain ⟨g, hX, hi, rfl⟩ := hv
  rw [ha]
  first | refine valP_ok (eq105n _ _ _) ?_ | refine valP_ok (eq105s _ _ _ _) ?_
  unfold m49_6
  refine cond_f rfl ?_
  refine callR (by kernel_rfl) (spent_ret hS) ?_
  rintro v w ⟨rfl, rfl⟩
  unfold m49_8
  refine cond_split (fun h => ?_) (fun h => ?_)
  · unfold m49_9
    simp only
    rw [if_pos h, if_pos h]
    exact ⟨rfl, X, hS.pick 4 [0, 1, 2] (by simp) (by decide)⟩
  simp only
  rw [if_neg (by omega), if_neg (by omega)]
  unfold m49_2
  refine valP_ok (mf75 _ _) ?_
  refine callR (by kernel_rfl) (drop_ret (by kernel_rfl) (by omega) hS asks_id) ?_
  rintro v w ⟨-, hS⟩
  have hf := hs.fewer (fun m => !decide (m.id = id))
  unfold m49_3
  refine callR (by kernel_rfl) (gturn_ret (hf.pre (by omega)) hS) ?_
  rintro v w ⟨X', hS⟩
  unfold m49_4 m49_5
  exact ⟨rfl, X', hS.pick 4 [0, 1, 2] (by simp) (by decide)⟩
theorem stays_all {s : GS} (h : ¬ (stays s).length < s.L.length) : stays s = s.L := by
  have h1 : (stays s).length ≤ s.L.length := List.length_filter_le _ _
  have h2 : (stays s).length = s.L.length := by omega
  unfold stays at h2 ⊢
  rw [List.filter_eq_self]
  exact List.length_filter_eq_length_iff.1 h2
theorem gtick_ret {w0 w : World} {F : List Nat} {L : List Res} {b T : Nat} {s : GS} {X : GA} (hT : T < 900) (hs : GOk T s) (hS : St w0 F w (grpL 103 b s X ++ L)) :
    Ret Try.prog 42 #[.pointer (some ⟨b, 0, none⟩)] w fun v w' => v = .bool (tickA s) ∧ ∃ X', St w0 F w' (grpL 103 b (tickG s) X' ++ L) := by
  have hlen := hs.len
  have hnow := hs.now0
  refine s42 _ ?_
  unfold m42
  unfold m42_0
  refine new_ok (bx59 rfl _) hS ?_
  intro b1 w hS
  have hS : St w0 F w (Res.cells b 103 [.int .i64 s.parts, .bool s.sticky, .int .i64 s.g, .int .i64 s.n, .int .i64 s.now, .slice X.m s.L.length X.cm, .slice X.o s.O.length X.co] :: mrow (.slice X.m s.L.length X.cm) s.L :: irow (.slice X.o s.O.length X.co) s.O :: Res.cells b1 59 [.pointer (some ⟨b, 0, none⟩)] :: L) := hS.pick 4 [1, 2, 3, 0] (by simp) (by decide)
  unfold m42_1
  first | refine valP_ok (ld59 (hS.cell 0 rfl rfl)) ?_ | refine valP_ok (ld59 (hS.cell 1 rfl rfl)) ?_ | refine valP_ok (ld59 (hS.cell 2 rfl rfl)) ?_ | refine valP_ok (ld59 (hS.cell 3 rfl rfl)) ?_ | refine valP_ok (ld59 (hS.cell 4 rfl rfl)) ?_ | refine valP_ok (ld59 (by assumption)) ?_
  first | refine valP_ok (eq59n _ _ _) ?_ | refine valP_ok (eq59s _ _ _ _) ?_
  unfold m42_9
  refine cond_f rfl ?_
  unfold m42_2
  first | refine valP_ok (ld59 (hS.cell 0 rfl rfl)) ?_ | refine valP_ok (ld59 (hS.cell 1 rfl rfl)) ?_ | refine valP_ok (ld59 (hS.cell 2 rfl rfl)) ?_ | refine valP_ok (ld59 (hS.cell 3 rfl rfl)) ?_ | refine valP_ok (ld59 (hS.cell 4 rfl rfl)) ?_ | refine valP_ok (ld59 (by assumption)) ?_
  refine nil_ok ?_
  first | refine valP_ok (fa103_4 _ _) ?_ | refine valP_ok (fao103_4 _ _ _) ?_
  first | refine valP_ok (ld3 (hS.cell 0 rfl rfl)) ?_ | refine valP_ok (ld3 (hS.cell 1 rfl rfl)) ?_ | refine valP_ok (ld3 (hS.cell 2 rfl rfl)) ?_ | refine valP_ok (ld3 (hS.cell 3 rfl rfl)) ?_ | refine valP_ok (ld3 (hS.cell 4 rfl rfl)) ?_ | refine valP_ok (ld3 (by assumption)) ?_
  refine valP_ok (add_ok _ _ _ (by omega) (by omega) _) ?_
  refine nil_ok ?_
  first | refine valP_ok (fa103_4 _ _) ?_ | refine valP_ok (fao103_4 _ _ _) ?_
  first | refine store_at 0 st3 hS rfl (by simp) rfl ?_ | refine store_at 1 st3 hS rfl (by simp) rfl ?_ | refine store_at 2 st3 hS rfl (by simp) rfl ?_ | refine store_at 3 st3 hS rfl (by simp) rfl ?_ | refine store_at 4 st3 hS rfl (by simp) rfl ?_
  intro w hS
  simp only [List.set_cons_zero, List.set_cons_succ] at hS
  have hS : St w0 F w (grpL 103 b (later s) X ++ Res.cells b1 59 [.pointer (some ⟨b, 0, none⟩)] :: L) := hS
  have hc1 : w.cell? ⟨b1, 0, none⟩ = some (.pointer (some ⟨b, 0, none⟩)) := hS.cell 3 rfl rfl
  unfold m42_3
  refine valP_ok (ld59 hc1) ?_
  refine callR (by kernel_rfl) (spent_ret hS) ?_
  rintro v w ⟨rfl, rfl⟩
  have no : ∀ w t, (1099511627776 ≤ s.g ∨ ¬ (stays s).length < s.L.length) → St w0 F w (grpL 103 b (later s) X ++ Res.cells b1 59 [.pointer (some ⟨b, 0, none⟩)] :: L) → t = true → m42_7 (fun v w' => v = .bool (tickA s) ∧ ∃ X', St w0 F w' (grpL 103 b (tickG s) X' ++ L)) (.pointer (some ⟨b1, 0, none⟩)) (.bool t) w := fun w t hn hS ht => by
    unfold m42_7
    refine cond_t ht ?_
    unfold m42_8
    unfold tickG
    rw [if_pos hn]
    refine ⟨?_, X, hS.pick 4 [0, 1, 2] (by simp) (by decide)⟩
    congr 1
    unfold tickA
    rcases hn with h | h
    · rw [decide_eq_true h]; rfl
    · rw [decide_eq_false h, Bool.and_false]
  refine cond_split (fun h => ?_) (fun h => ?_)
  · first | refine pick_dt (by first | assumption | omega) ?_ | refine pick_df (by first | assumption | omega) ?_ | refine pick_t (by first | rfl | assumption) ?_ | refine pick_f (by first | rfl | assumption) ?_ | refine pick_dt rfl ?_ | refine pick_df (not_not_intro rfl) ?_
    exact no _ _ (.inl h) hS rfl
  have hgl : ¬ 1099511627776 ≤ s.g := h
  refine valP_ok (ld59 hc1) ?_
  refine valP_ok (mf73 _ _) ?_
  refine callR (by kernel_rfl) (drop_ret (by kernel_rfl) (by show s.L.length ≤ _; omega) hS asks_due) ?_
  rintro v w ⟨rfl, hS⟩
  have hS : St w0 F w (grpL 103 b { later s with L := stays s } X ++ Res.cells b1 59 [.pointer (some ⟨b, 0, none⟩)] :: L) := hS
  first | refine valP_ok (not_ok _ _) ?_ | refine valP_ok (notb_ok _ _) ?_
  first | refine pick_dt (by first | assumption | omega) ?_ | refine pick_df (by first | assumption | omega) ?_ | refine pick_t (by first | rfl | assumption) ?_ | refine pick_f (by first | rfl | assumption) ?_ | refine pick_dt rfl ?_ | refine pick_df (not_not_intro rfl) ?_
  by_cases hl : (stays s).length < s.L.length
  · unfold m42_7
    refine cond_df (not_not_intro hl) ?_
    have hc1 : w.cell? ⟨b1, 0, none⟩ = some (.pointer (some ⟨b, 0, none⟩)) := hS.cell 3 rfl rfl
    unfold m42_4
    refine valP_ok (ld59 hc1) ?_
    have hf := hs.later.fewer (fun m => !decide (m.due ≤ s.now + 1))
    have hg : tickG s = gturned { later s with L := stays s } := by unfold tickG; rw [if_neg (by omega)]
    refine callR (by kernel_rfl) (gturn_ret (s := { later s with L := stays s }) (hf.pre (by omega)) hS) ?_
    rintro v w ⟨X', hS⟩
    unfold m42_5 m42_6
    rw [hg]
    refine ⟨?_, X', hS.pick 4 [0, 1, 2] (by simp) (by decide)⟩
    congr 1
    unfold tickA
    rw [decide_eq_false (by omega), decide_eq_true hl]
    rfl
  · refine no _ _ (.inr hl) ?_ (decide_eq_true hl)
    rw [stays_all hl] at hS
    exact hS

end Go.Proofs.Ytjjmlopmemmobaa.M
