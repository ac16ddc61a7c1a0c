/- Whatever happens to any group, each answer, its members, generations and owners are the document's. -/
import Derived.Test.YtjjmlopmemmobaaG14
import Derived.Test.YtjjmlopmemmobaaMge0
import Derived.Test.YtjjmlopmemmobaaMstep0
namespace Go.Proofs.Ytjjmlopmemmobaa.M
open Go.Proofs.Ytjjmlopmemmobaa.F Go.RowKit
set_option linter.unusedVariables false
set_option linter.unusedSimpArgs false
set_option maxRecDepth 100000
set_option maxHeartbeats 2000000
attribute [local irreducible] Res.cells Res.row Res.map Res.any World.cell? World.frozen? Instr.fieldAt Instr.loadAt Instr.storeAt Instr.indexAt Instr.lookup Instr.mapUpdate Instr.box Instr.build Instr.buildSlice Instr.extract Instr.alloc Instr.field Instr.index Instr.sliceAt Instr.makeSlice Instr.makeMap Instr.makeFunc binS Op.unary Sem.run
open Go.Proofs.Ytjjmlopmemmobaa.L Go.Shelf
theorem syncA_len {T : Nat} {s : GS} (hs : GOk T s) (id : Int) : (syncA s id).2.1.length ≤ 1000 := by
  unfold syncA
  split
  · simp
  · have h1 := ownFrom_len id s.O 0
    have h2 := hs.olen
    have h3 := hs.parts
    simp only
    omega
theorem gstep_m {w0 w : World} {F : List Nat} {L : List Res} {b b' T : Nat} {s : GS} {X Y : GA} {x : Gd} {R : Value → World → Prop} (hT : T < 890) (hs : GOk T s) (hS : St w0 F w (grpL 103 b s X ++ (grpL 86 b' s Y ++ L)))
    (hR : ∀ w X' Y', St w0 F w (grpL 103 b (doG s x) X' ++ (grpL 86 b' (doG s x) Y' ++ L)) → R (.bool true) w) : m51 R (.pointer (some ⟨b, 0, none⟩)) (.pointer (some ⟨b', 0, none⟩)) (valG x) w := by
  unfold m51
  unfold m51_0
  refine new_ok (bx65 _ _ _ _ _ _) hS ?_
  intro b5 w hS
  have hS : St w0 F w (grpL 103 b s X ++ (Res.cells b5 65 (encG x) :: (grpL 86 b' s Y ++ L))) := hS.pick 7 [1, 2, 3, 0, 4, 5, 6] (by simp) (by decide)
  unfold m51_1
  first | refine valP_ok (fa65_0 _ _) ?_ | refine valP_ok (fao65_0 _ _ _) ?_
  first | refine valP_ok (ld3 (hS.cell 0 rfl rfl)) ?_ | refine valP_ok (ld3 (hS.cell 1 rfl rfl)) ?_ | refine valP_ok (ld3 (hS.cell 2 rfl rfl)) ?_ | refine valP_ok (ld3 (hS.cell 3 rfl rfl)) ?_ | refine valP_ok (ld3 (hS.cell 4 rfl rfl)) ?_ | refine valP_ok (ld3 (by assumption)) ?_
  unfold m51_4
  refine valP_ok (eq3 _ _ _ _ _) ?_
  have join : (x.k = 0 ∨ x.k = 1) → ∀ t, t = true → m51_5 R (.pointer (some ⟨b, 0, none⟩)) (.pointer (some ⟨b', 0, none⟩)) (.pointer (some ⟨b5, 0, none⟩)) (.int .i64 x.k) (.bool t) w := fun hk t ht => by
    unfold m51_5
    refine cond_t ht ?_
    first | refine valP_ok (fa65_1 _ _) ?_ | refine valP_ok (fao65_1 _ _ _) ?_
    first | refine valP_ok (ld3 (hS.cell 0 rfl rfl)) ?_ | refine valP_ok (ld3 (hS.cell 1 rfl rfl)) ?_ | refine valP_ok (ld3 (hS.cell 2 rfl rfl)) ?_ | refine valP_ok (ld3 (hS.cell 3 rfl rfl)) ?_ | refine valP_ok (ld3 (hS.cell 4 rfl rfl)) ?_ | refine valP_ok (ld3 (by assumption)) ?_
    refine callR (by kernel_rfl) (gjoin_ret (by omega) hs hS) ?_
    rintro v w ⟨rfl, X', hS⟩
    have hS : St w0 F w (grpL 86 b' s Y ++ (Res.cells b5 65 (encG x) :: (grpL 103 b (joinG s x.a) X' ++ L))) := hS.pick 7 [4, 5, 6, 3, 0, 1, 2] (by simp) (by decide)
    refine valP_ok (extract_ok _ 0 rfl _) ?_
    refine valP_ok (extract_ok _ 1 rfl _) ?_
    refine valP_ok (extract_ok _ 2 rfl _) ?_
    unfold m51_6
    first | refine valP_ok (fa65_1 _ _) ?_ | refine valP_ok (fao65_1 _ _ _) ?_
    first | refine valP_ok (ld3 (hS.cell 0 rfl rfl)) ?_ | refine valP_ok (ld3 (hS.cell 1 rfl rfl)) ?_ | refine valP_ok (ld3 (hS.cell 2 rfl rfl)) ?_ | refine valP_ok (ld3 (hS.cell 3 rfl rfl)) ?_ | refine valP_ok (ld3 (hS.cell 4 rfl rfl)) ?_ | refine valP_ok (ld3 (by assumption)) ?_
    refine callR (by kernel_rfl) (rjoin_ret (by omega) hs hS) ?_
    rintro v w ⟨rfl, Y', hS⟩
    refine valP_ok (extract_ok _ 0 rfl _) ?_
    refine valP_ok (extract_ok _ 1 rfl _) ?_
    refine valP_ok (extract_ok _ 2 rfl _) ?_
    unfold m51_7
    refine valP_ok (eq3 _ _ _ _ _) ?_
    refine cond_dt rfl ?_
    refine valP_ok (eq3 _ _ _ _ _) ?_
    first | refine pick_dt (by first | assumption | omega) ?_ | refine pick_df (by first | assumption | omega) ?_ | refine pick_t (by first | rfl | assumption) ?_ | refine pick_f (by first | rfl | assumption) ?_ | refine pick_dt rfl ?_ | refine pick_df (not_not_intro rfl) ?_
    refine cond_dt rfl ?_
    refine valP_ok (eq3 _ _ _ _ _) ?_
    first | refine pick_dt (by first | assumption | omega) ?_ | refine pick_df (by first | assumption | omega) ?_ | refine pick_t (by first | rfl | assumption) ?_ | refine pick_f (by first | rfl | assumption) ?_ | refine pick_dt rfl ?_ | refine pick_df (not_not_intro rfl) ?_
    unfold m51_8
    rw [decide_eq_true rfl]
    refine hR w X' Y' ?_
    unfold doG
    rw [if_pos hk]
    exact hS.pick 7 [4, 5, 6, 0, 1, 2] (by simp) (by decide)
  unfold m51_22
  refine cond_split (fun h0 => ?_) (fun h0 => ?_)
  · exact join (.inl h0) _ (by simp [h0])
  refine valP_ok (eq3 _ _ _ _ _) ?_
  by_cases h1 : x.k = 1
  · exact join (.inr h1) _ (by simp [h1])
  unfold m51_5
  refine cond_df h1 ?_
  refine valP_ok (eq3 _ _ _ _ _) ?_
  unfold m51_9
  refine cond_split (fun h2 => ?_) (fun h2 => ?_)
  · clear join
    first | refine valP_ok (fa65_1 _ _) ?_ | refine valP_ok (fao65_1 _ _ _) ?_
    first | refine valP_ok (ld3 (hS.cell 0 rfl rfl)) ?_ | refine valP_ok (ld3 (hS.cell 1 rfl rfl)) ?_ | refine valP_ok (ld3 (hS.cell 2 rfl rfl)) ?_ | refine valP_ok (ld3 (hS.cell 3 rfl rfl)) ?_ | refine valP_ok (ld3 (hS.cell 4 rfl rfl)) ?_ | refine valP_ok (ld3 (by assumption)) ?_
    refine callR (by kernel_rfl) (gsync_ret (by omega) hs hS) ?_
    rintro v w ⟨A, c, rfl, hS⟩
    have hS : St w0 F w (grpL 86 b' s Y ++ (Res.cells b5 65 (encG x) :: irow (.slice A (syncA s x.a).2.1.length c) (syncA s x.a).2.1 :: (grpL 103 b (syncG s x.a) X ++ L))) := hS.pick 8 [5, 6, 7, 4, 0, 1, 2, 3] (by simp) (by decide)
    refine valP_ok (extract_ok _ 0 rfl _) ?_
    refine valP_ok (extract_ok _ 1 rfl _) ?_
    refine valP_ok (extract_ok _ 2 rfl _) ?_
    unfold m51_10
    first | refine valP_ok (fa65_1 _ _) ?_ | refine valP_ok (fao65_1 _ _ _) ?_
    first | refine valP_ok (ld3 (hS.cell 0 rfl rfl)) ?_ | refine valP_ok (ld3 (hS.cell 1 rfl rfl)) ?_ | refine valP_ok (ld3 (hS.cell 2 rfl rfl)) ?_ | refine valP_ok (ld3 (hS.cell 3 rfl rfl)) ?_ | refine valP_ok (ld3 (hS.cell 4 rfl rfl)) ?_ | refine valP_ok (ld3 (by assumption)) ?_
    refine callR (by kernel_rfl) (rsync_ret (by omega) hs hS) ?_
    rintro v w ⟨A2, c2, rfl, hS⟩
    refine valP_ok (extract_ok _ 0 rfl _) ?_
    refine valP_ok (extract_ok _ 1 rfl _) ?_
    refine valP_ok (extract_ok _ 2 rfl _) ?_
    unfold m51_11
    refine valP_ok (eq3 _ _ _ _ _) ?_
    refine cond_dt rfl ?_
    refine callR (by kernel_rfl) (same_ret (Nat.le_trans (syncA_len hs x.a) (by omega)) hS (Bes.of_row 5 rfl) (Bes.of_row 0 rfl)) ?_
    rintro v w ⟨rfl, hS⟩
    first | refine pick_dt (by first | assumption | omega) ?_ | refine pick_df (by first | assumption | omega) ?_ | refine pick_t (by first | rfl | assumption) ?_ | refine pick_f (by first | rfl | assumption) ?_ | refine pick_dt rfl ?_ | refine pick_df (not_not_intro rfl) ?_
    refine cond_dt rfl ?_
    refine valP_ok (eq3 _ _ _ _ _) ?_
    first | refine pick_dt (by first | assumption | omega) ?_ | refine pick_df (by first | assumption | omega) ?_ | refine pick_t (by first | rfl | assumption) ?_ | refine pick_f (by first | rfl | assumption) ?_ | refine pick_dt rfl ?_ | refine pick_df (not_not_intro rfl) ?_
    unfold m51_12
    rw [decide_eq_true rfl]
    refine hR w X Y ?_
    unfold doG
    rw [if_neg (by omega), if_pos h2]
    exact hS.pick 9 [6, 7, 8, 1, 2, 3] (by simp) (by decide)
  refine valP_ok (eq3 _ _ _ _ _) ?_
  have beat : (x.k = 3 ∨ x.k = 4) → ∀ t, t = true → m51_13 R (.pointer (some ⟨b, 0, none⟩)) (.pointer (some ⟨b', 0, none⟩)) (.pointer (some ⟨b5, 0, none⟩)) (.int .i64 x.k) (.bool t) w := fun hk t ht => by
    unfold m51_13
    refine cond_t ht ?_
    refine drawn_ok hS ?_
    intro w hS
    refine held_St [Res.cells b5 65 (encG x)] hS (by simp) ?_
    first | refine valJ_ok (fa65_1 _) ?_ | refine valJ_ok (fao65_1 _ _) ?_
    first | refine valJ_load ld3 (AllH.cell 0 rfl rfl) ?_ | refine valJ_load ld3 (AllH.cell 1 rfl rfl) ?_ | refine valJ_load ld3 (AllH.cell 2 rfl rfl) ?_ | refine valJ_load ld3 (AllH.cell 3 rfl rfl) ?_ | refine valJ_load ld3 (AllH.cell 4 rfl rfl) ?_ | refine valJ_load ld3 (by assumption) ?_
    first | refine valJ_ok (fa65_2 _) ?_ | refine valJ_ok (fao65_2 _ _) ?_
    first | refine valJ_load ld3 (AllH.cell 0 rfl rfl) ?_ | refine valJ_load ld3 (AllH.cell 1 rfl rfl) ?_ | refine valJ_load ld3 (AllH.cell 2 rfl rfl) ?_ | refine valJ_load ld3 (AllH.cell 3 rfl rfl) ?_ | refine valJ_load ld3 (AllH.cell 4 rfl rfl) ?_ | refine valJ_load ld3 (by assumption) ?_
    first | refine valJ_ok (fa65_1 _) ?_ | refine valJ_ok (fao65_1 _ _) ?_
    first | refine valJ_load ld3 (AllH.cell 0 rfl rfl) ?_ | refine valJ_load ld3 (AllH.cell 1 rfl rfl) ?_ | refine valJ_load ld3 (AllH.cell 2 rfl rfl) ?_ | refine valJ_load ld3 (AllH.cell 3 rfl rfl) ?_ | refine valJ_load ld3 (AllH.cell 4 rfl rfl) ?_ | refine valJ_load ld3 (by assumption) ?_
    first | refine valJ_ok (fa65_2 _) ?_ | refine valJ_ok (fao65_2 _ _) ?_
    first | refine valJ_load ld3 (AllH.cell 0 rfl rfl) ?_ | refine valJ_load ld3 (AllH.cell 1 rfl rfl) ?_ | refine valJ_load ld3 (AllH.cell 2 rfl rfl) ?_ | refine valJ_load ld3 (AllH.cell 3 rfl rfl) ?_ | refine valJ_load ld3 (AllH.cell 4 rfl rfl) ?_ | refine valJ_load ld3 (by assumption) ?_
    refine callR (by kernel_rfl) (gbeat_ret (by omega) hs hS) ?_
    rintro v w ⟨rfl, hS⟩
    have hS : St w0 F w (grpL 86 b' s Y ++ (Res.cells b5 65 (encG x) :: (grpL 103 b (beatG s x.a x.b) X ++ L))) := hS.pick 7 [4, 5, 6, 3, 0, 1, 2] (by simp) (by decide)
    refine stay_St hS (by simp) ?_
    refine callR (by kernel_rfl) (rbeat_ret (by omega) hs hS) ?_
    rintro v w ⟨rfl, hS⟩
    refine stay_St hS (by simp) ?_
    refine valJ_ok (eq3 _ _ _ _) ?_
    unfold m51_14
    rw [decide_eq_true rfl]
    refine hR w X Y ?_
    unfold doG
    rw [if_neg (by omega), if_neg (by omega), if_pos hk]
    exact hS.pick 7 [4, 5, 6, 0, 1, 2] (by simp) (by decide)
  unfold m51_21
  refine cond_split (fun h3 => ?_) (fun h3 => ?_)
  · exact beat (.inl h3) _ (by simp [h3])
  refine valP_ok (eq3 _ _ _ _ _) ?_
  by_cases h4 : x.k = 4
  · exact beat (.inr h4) _ (by simp [h4])
  unfold m51_13
  refine cond_df h4 ?_
  refine valP_ok (eq3 _ _ _ _ _) ?_
  unfold m51_15
  refine cond_split (fun h5 => ?_) (fun h5 => ?_)
  · refine drawn_ok hS ?_
    intro w hS
    refine held_St [Res.cells b5 65 (encG x)] hS (by simp) ?_
    first | refine valJ_ok (fa65_1 _) ?_ | refine valJ_ok (fao65_1 _ _) ?_
    first | refine valJ_load ld3 (AllH.cell 0 rfl rfl) ?_ | refine valJ_load ld3 (AllH.cell 1 rfl rfl) ?_ | refine valJ_load ld3 (AllH.cell 2 rfl rfl) ?_ | refine valJ_load ld3 (AllH.cell 3 rfl rfl) ?_ | refine valJ_load ld3 (AllH.cell 4 rfl rfl) ?_ | refine valJ_load ld3 (by assumption) ?_
    first | refine valJ_ok (fa65_1 _) ?_ | refine valJ_ok (fao65_1 _ _) ?_
    first | refine valJ_load ld3 (AllH.cell 0 rfl rfl) ?_ | refine valJ_load ld3 (AllH.cell 1 rfl rfl) ?_ | refine valJ_load ld3 (AllH.cell 2 rfl rfl) ?_ | refine valJ_load ld3 (AllH.cell 3 rfl rfl) ?_ | refine valJ_load ld3 (AllH.cell 4 rfl rfl) ?_ | refine valJ_load ld3 (by assumption) ?_
    refine callR (by kernel_rfl) (gleave_ret (by omega) hs hS) ?_
    rintro v w ⟨rfl, X', hS⟩
    have hS : St w0 F w (grpL 86 b' s Y ++ (Res.cells b5 65 (encG x) :: (grpL 103 b (leaveG s x.a) X' ++ L))) := hS.pick 7 [4, 5, 6, 3, 0, 1, 2] (by simp) (by decide)
    refine stay_St hS (by simp) ?_
    refine callR (by kernel_rfl) (rleave_ret (by omega) hs hS) ?_
    rintro v w ⟨rfl, Y', hS⟩
    refine stay_St hS (by simp) ?_
    refine valJ_ok (eq3 _ _ _ _) ?_
    unfold m51_16
    rw [decide_eq_true rfl]
    refine hR w X' Y' ?_
    unfold doG
    rw [if_neg (by omega), if_neg (by omega), if_neg (by omega), if_pos h5]
    exact hS.pick 7 [4, 5, 6, 0, 1, 2] (by simp) (by decide)
  refine valP_ok (eq3 _ _ _ _ _) ?_
  have tick : (x.k = 6 ∨ x.k = 7 ∨ x.k = 8) → ∀ t, t = true → m51_17 R (.pointer (some ⟨b, 0, none⟩)) (.pointer (some ⟨b', 0, none⟩)) (.pointer (some ⟨b5, 0, none⟩)) (.bool t) w := fun hk t ht => by
    unfold m51_17
    refine cond_t ht ?_
    refine callR (by kernel_rfl) (gtick_ret (by omega) hs hS) ?_
    rintro v w ⟨rfl, X', hS⟩
    have hS : St w0 F w (grpL 86 b' s Y ++ (Res.cells b5 65 (encG x) :: (grpL 103 b (tickG s) X' ++ L))) := hS.pick 7 [4, 5, 6, 3, 0, 1, 2] (by simp) (by decide)
    refine callR (by kernel_rfl) (rtick_ret (by omega) hs hS) ?_
    rintro v w ⟨rfl, Y', hS⟩
    refine valP_ok (eq4 _ _ _ _ _) ?_
    unfold m51_18
    rw [decide_eq_true rfl]
    refine hR w X' Y' ?_
    unfold doG
    rw [if_neg (by omega), if_neg (by omega), if_neg (by omega), if_neg (by omega), if_pos hk]
    exact hS.pick 7 [4, 5, 6, 0, 1, 2] (by simp) (by decide)
  unfold m51_19
  refine cond_split (fun h6 => ?_) (fun h6 => ?_)
  · exact tick (.inl h6) _ (by simp [h6])
  refine valP_ok (eq3 _ _ _ _ _) ?_
  unfold m51_20
  refine cond_split (fun h7 => ?_) (fun h7 => ?_)
  · exact tick (.inr (.inl h7)) _ (by simp [h7])
  refine valP_ok (eq3 _ _ _ _ _) ?_
  by_cases h8 : x.k = 8
  · exact tick (.inr (.inr h8)) _ (by simp [h8])
  unfold m51_17
  refine cond_df h8 ?_
  clear join beat tick
  unfold m51_2
  refine drawn_ok hS ?_
  intro w hS
  refine held_St [Res.cells b5 65 (encG x)] hS (by simp) ?_
  first | refine valJ_ok (fa65_1 _) ?_ | refine valJ_ok (fao65_1 _ _) ?_
  first | refine valJ_load ld3 (AllH.cell 0 rfl rfl) ?_ | refine valJ_load ld3 (AllH.cell 1 rfl rfl) ?_ | refine valJ_load ld3 (AllH.cell 2 rfl rfl) ?_ | refine valJ_load ld3 (AllH.cell 3 rfl rfl) ?_ | refine valJ_load ld3 (AllH.cell 4 rfl rfl) ?_ | refine valJ_load ld3 (by assumption) ?_
  first | refine valJ_ok (fa65_2 _) ?_ | refine valJ_ok (fao65_2 _ _) ?_
  first | refine valJ_load ld3 (AllH.cell 0 rfl rfl) ?_ | refine valJ_load ld3 (AllH.cell 1 rfl rfl) ?_ | refine valJ_load ld3 (AllH.cell 2 rfl rfl) ?_ | refine valJ_load ld3 (AllH.cell 3 rfl rfl) ?_ | refine valJ_load ld3 (AllH.cell 4 rfl rfl) ?_ | refine valJ_load ld3 (by assumption) ?_
  first | refine valJ_ok (fa65_3 _) ?_ | refine valJ_ok (fao65_3 _ _) ?_
  first | refine valJ_load ld3 (AllH.cell 0 rfl rfl) ?_ | refine valJ_load ld3 (AllH.cell 1 rfl rfl) ?_ | refine valJ_load ld3 (AllH.cell 2 rfl rfl) ?_ | refine valJ_load ld3 (AllH.cell 3 rfl rfl) ?_ | refine valJ_load ld3 (AllH.cell 4 rfl rfl) ?_ | refine valJ_load ld3 (by assumption) ?_
  first | refine valJ_ok (fa65_1 _) ?_ | refine valJ_ok (fao65_1 _ _) ?_
  first | refine valJ_load ld3 (AllH.cell 0 rfl rfl) ?_ | refine valJ_load ld3 (AllH.cell 1 rfl rfl) ?_ | refine valJ_load ld3 (AllH.cell 2 rfl rfl) ?_ | refine valJ_load ld3 (AllH.cell 3 rfl rfl) ?_ | refine valJ_load ld3 (AllH.cell 4 rfl rfl) ?_ | refine valJ_load ld3 (by assumption) ?_
  first | refine valJ_ok (fa65_2 _) ?_ | refine valJ_ok (fao65_2 _ _) ?_
  first | refine valJ_load ld3 (AllH.cell 0 rfl rfl) ?_ | refine valJ_load ld3 (AllH.cell 1 rfl rfl) ?_ | refine valJ_load ld3 (AllH.cell 2 rfl rfl) ?_ | refine valJ_load ld3 (AllH.cell 3 rfl rfl) ?_ | refine valJ_load ld3 (AllH.cell 4 rfl rfl) ?_ | refine valJ_load ld3 (by assumption) ?_
  first | refine valJ_ok (fa65_3 _) ?_ | refine valJ_ok (fao65_3 _ _) ?_
  first | refine valJ_load ld3 (AllH.cell 0 rfl rfl) ?_ | refine valJ_load ld3 (AllH.cell 1 rfl rfl) ?_ | refine valJ_load ld3 (AllH.cell 2 rfl rfl) ?_ | refine valJ_load ld3 (AllH.cell 3 rfl rfl) ?_ | refine valJ_load ld3 (AllH.cell 4 rfl rfl) ?_ | refine valJ_load ld3 (by assumption) ?_
  refine callR (by kernel_rfl) (gmay_ret (by omega) hs hS) ?_
  rintro v w ⟨rfl, rfl⟩
  have hS : St w0 F w (grpL 86 b' s Y ++ (Res.cells b5 65 (encG x) :: (grpL 103 b s X ++ L))) := hS.pick 7 [4, 5, 6, 3, 0, 1, 2] (by simp) (by decide)
  refine stay_St hS (by simp) ?_
  refine callR (by kernel_rfl) (rmay_ret (by omega) hs hS) ?_
  rintro v w ⟨rfl, rfl⟩
  refine stay_St hS (by simp) ?_
  refine valJ_ok (eq3 _ _ _ _) ?_
  unfold m51_3
  rw [decide_eq_true rfl]
  refine hR w X Y ?_
  unfold doG
  rw [if_neg (by omega), if_neg (by omega), if_neg (by omega), if_neg (by omega), if_neg (by omega)]
  exact hS.pick 7 [4, 5, 6, 0, 1, 2] (by simp) (by decide)
theorem gstep_ret {w0 w : World} {F : List Nat} {L : List Res} {b b' T : Nat} {s : GS} {X Y : GA} {x : Gd} (hT : T < 890) (hs : GOk T s) (hS : St w0 F w (grpL 103 b s X ++ (grpL 86 b' s Y ++ L))) :
    Ret Try.prog 51 #[.pointer (some ⟨b, 0, none⟩), .pointer (some ⟨b', 0, none⟩), valG x] w fun v w' => v = .bool true ∧ ∃ X' Y', St w0 F w' (grpL 103 b (doG s x) X' ++ (grpL 86 b' (doG s x) Y' ++ L)) :=
  s51 _ _ _ (gstep_m hT hs hS fun w X' Y' h => ⟨rfl, X', Y', h⟩)
theorem gsame_ret {w0 w : World} {F : List Nat} {L : List Res} {b b' T : Nat} {s : GS} {X Y : GA} (hT : T < 890) (hs : GOk T s) (hS : St w0 F w (grpL 103 b s X ++ (grpL 86 b' s Y ++ L))) :
    Ret Try.prog 53 #[.pointer (some ⟨b, 0, none⟩), .pointer (some ⟨b', 0, none⟩)] w fun v w' => v = .bool true ∧ St w0 F w' (grpL 103 b s X ++ (grpL 86 b' s Y ++ L)) := by
  have hlen := hs.len
  have hol := hs.olen
  have hp := hs.parts
  refine s53 _ _ ?_
  unfold m53
  unfold m53_0
  unfold m53_1
  refine drawn_ok hS ?_
  intro w hS
  refine held_St [grpC 86 b' s Y] hS (by simp) ?_
  refine nil_ok ?_
  first | refine valJ_ok (fa86_2 _) ?_ | refine valJ_ok (fao86_2 _ _) ?_
  first | refine valJ_load ld3 (AllH.cell 0 rfl rfl) ?_ | refine valJ_load ld3 (AllH.cell 1 rfl rfl) ?_ | refine valJ_load ld3 (AllH.cell 2 rfl rfl) ?_ | refine valJ_load ld3 (AllH.cell 3 rfl rfl) ?_ | refine valJ_load ld3 (AllH.cell 4 rfl rfl) ?_ | refine valJ_load ld3 (by assumption) ?_
  refine callR (by kernel_rfl) (ggen_ret hS) ?_
  rintro v w ⟨rfl, rfl⟩
  refine stay_St hS (by simp) ?_
  refine valJ_ok (eq3 _ _ _ _) ?_
  refine cond_dt rfl ?_
  refine nil_ok ?_
  first | refine valJ_ok (fa86_3 _) ?_ | refine valJ_ok (fao86_3 _ _) ?_
  first | refine valJ_load ld3 (AllH.cell 0 rfl rfl) ?_ | refine valJ_load ld3 (AllH.cell 1 rfl rfl) ?_ | refine valJ_load ld3 (AllH.cell 2 rfl rfl) ?_ | refine valJ_load ld3 (AllH.cell 3 rfl rfl) ?_ | refine valJ_load ld3 (AllH.cell 4 rfl rfl) ?_ | refine valJ_load ld3 (by assumption) ?_
  refine callR (by kernel_rfl) (gnext_ret hS) ?_
  rintro v w ⟨rfl, rfl⟩
  refine stay_St hS (by simp) ?_
  refine valJ_ok (eq3 _ _ _ _) ?_
  first | refine pick_dt (by first | assumption | omega) ?_ | refine pick_df (by first | assumption | omega) ?_ | refine pick_t (by first | rfl | assumption) ?_ | refine pick_f (by first | rfl | assumption) ?_ | refine pick_dt rfl ?_ | refine pick_df (not_not_intro rfl) ?_
  refine cond_dt rfl ?_
  refine nil_ok ?_
  first | refine valJ_ok (fa86_5 _) ?_ | refine valJ_ok (fao86_5 _ _) ?_
  first | refine valJ_load ld66 (AllH.cell 0 rfl rfl) ?_ | refine valJ_load ld66 (AllH.cell 1 rfl rfl) ?_ | refine valJ_load ld66 (AllH.cell 2 rfl rfl) ?_ | refine valJ_load ld66 (AllH.cell 3 rfl rfl) ?_ | refine valJ_load ld66 (AllH.cell 4 rfl rfl) ?_ | refine valJ_load ld66 (by assumption) ?_
  refine callR (by kernel_rfl) (gmembers_ret (by omega) hS) ?_
  rintro v w ⟨A1, c1, rfl, hS⟩
  refine stay_St hS (by simp) ?_
  refine callR (by kernel_rfl) (msame_ret (by omega) hS (Bes.of_row 0 rfl) (Bes.of_row 5 rfl)) ?_
  rintro v w ⟨rfl, hS⟩
  have hS : St w0 F w (grpL 103 b s X ++ (grpL 86 b' s Y ++ L)) := hS.pick 7 [1, 2, 3, 4, 5, 6] (by simp) (by decide)
  refine stay_St hS (by simp) ?_
  first | refine pick_dt (by first | assumption | omega) ?_ | refine pick_df (by first | assumption | omega) ?_ | refine pick_t (by first | rfl | assumption) ?_ | refine pick_f (by first | rfl | assumption) ?_ | refine pick_dt rfl ?_ | refine pick_df (not_not_intro rfl) ?_
  refine cond_dt rfl ?_
  refine nil_ok ?_
  first | refine valJ_ok (fa86_6 _) ?_ | refine valJ_ok (fao86_6 _ _) ?_
  first | refine valJ_load ld28 (AllH.cell 0 rfl rfl) ?_ | refine valJ_load ld28 (AllH.cell 1 rfl rfl) ?_ | refine valJ_load ld28 (AllH.cell 2 rfl rfl) ?_ | refine valJ_load ld28 (AllH.cell 3 rfl rfl) ?_ | refine valJ_load ld28 (AllH.cell 4 rfl rfl) ?_ | refine valJ_load ld28 (by assumption) ?_
  refine callR (by kernel_rfl) (gowners_ret (by omega) hS) ?_
  rintro v w ⟨A2, c2, rfl, hS⟩
  refine stay_St hS (by simp) ?_
  refine callR (by kernel_rfl) (same_ret (by omega) hS (Bes.of_row 0 rfl) (Bes.of_row 6 rfl)) ?_
  rintro v w ⟨rfl, hS⟩
  have hS : St w0 F w (grpL 103 b s X ++ (grpL 86 b' s Y ++ L)) := hS.pick 7 [1, 2, 3, 4, 5, 6] (by simp) (by decide)
  refine stay_St hS (by simp) ?_
  first | refine pick_dt (by first | assumption | omega) ?_ | refine pick_df (by first | assumption | omega) ?_ | refine pick_t (by first | rfl | assumption) ?_ | refine pick_f (by first | rfl | assumption) ?_ | refine pick_dt rfl ?_ | refine pick_df (not_not_intro rfl) ?_
  unfold m53_2
  exact ⟨by rw [decide_eq_true rfl], hS⟩
structure Cse where
  parts : Int
  gen : Int
  next : Int
  st : Bool
abbrev encCse (x : Cse) : List Value := [.int .i64 x.parts, .int .i64 x.gen, .int .i64 x.next, .bool x.st]
theorem openCse {H : Type} {en : TypeId × Value → H} {w : World} {n : Nat} {cs : List Value} {y : DataW H × List MemPlace} (h : DataW.trod en Try.prog w 0 (fun _ => true) true n 79 cs = some y) : ∃ x : Cse, cs = encCse x ∧ True := by
  obtain ⟨hl, hf⟩ := open_structE Try.underlying79 h
  rw [show Try.prog.cellsOf 79 = 4 from by kernel_rfl] at hl
  obtain ⟨c0, c1, c2, c3, rfl⟩ : ∃ c0 c1 c2 c3, cs = [c0, c1, c2, c3] := by
    match cs, hl with
    | [c0, c1, c2, c3], _ => exact ⟨c0, c1, c2, c3, rfl⟩
  obtain ⟨_, _, h0⟩ := hf 0 3 0 1 rfl gcells3
  obtain ⟨_, _, h1⟩ := hf 1 3 1 1 rfl gcells3
  obtain ⟨_, _, h2⟩ := hf 2 3 2 1 rfl gcells3
  obtain ⟨_, _, h3⟩ := hf 3 4 3 1 rfl gcells4
  obtain ⟨a0, e0, _, w0⟩ := DataW.trod_int Try.underlying3 h0
  obtain ⟨a1, e1, _, w1⟩ := DataW.trod_int Try.underlying3 h1
  obtain ⟨a2, e2, _, w2⟩ := DataW.trod_int Try.underlying3 h2
  obtain ⟨a3, e3, _⟩ := DataW.trod_bool Try.underlying4 h3
  simp at e0 e1 e2 e3
  subst e0; subst e1; subst e2; subst e3
  exact ⟨⟨a0, a1, a2, a3⟩, rfl, trivial⟩
theorem gplays_ret {w0 : World} {A : Option Addr} {c : Nat} {l : List Gd} (x : Cse) (hl : Rd w0 5 A l.length (l.flatMap encG)) (hc : l.length ≤ c) (hok : ∀ x ∈ l, DG x) :
    Ret Try.prog 12 #[.agg (encCse x).toArray, .slice A l.length c] w0 fun v w' => v = .bool true ∧ Below w0.heap.size w0 w' := by
  have hS := St.start w0
  show Ret Try.prog 12 #[.agg #[.int .i64 x.parts, .int .i64 x.gen, .int .i64 x.next, .bool x.st], .slice A l.length c] w0 _
  refine s12 _ _ ?_
  unfold m12
  unfold m12_0
  refine new_ok (bx79 _ _ _ _ _) hS ?_
  intro b2 w hS
  unfold m12_1
  first | refine valP_ok (fa79_0 _ _) ?_ | refine valP_ok (fao79_0 _ _ _) ?_
  first | refine valP_ok (ld3 (hS.cell 0 rfl rfl)) ?_ | refine valP_ok (ld3 (hS.cell 1 rfl rfl)) ?_ | refine valP_ok (ld3 (hS.cell 2 rfl rfl)) ?_ | refine valP_ok (ld3 (hS.cell 3 rfl rfl)) ?_ | refine valP_ok (ld3 (hS.cell 4 rfl rfl)) ?_ | refine valP_ok (ld3 (by assumption)) ?_
  first | refine valP_ok (fa79_3 _ _) ?_ | refine valP_ok (fao79_3 _ _ _) ?_
  first | refine valP_ok (ld4 (hS.cell 0 rfl rfl)) ?_ | refine valP_ok (ld4 (hS.cell 1 rfl rfl)) ?_ | refine valP_ok (ld4 (hS.cell 2 rfl rfl)) ?_ | refine valP_ok (ld4 (hS.cell 3 rfl rfl)) ?_ | refine valP_ok (ld4 (hS.cell 4 rfl rfl)) ?_ | refine valP_ok (ld4 (by assumption)) ?_
  first | refine valP_ok (fa79_1 _ _) ?_ | refine valP_ok (fao79_1 _ _ _) ?_
  first | refine valP_ok (ld3 (hS.cell 0 rfl rfl)) ?_ | refine valP_ok (ld3 (hS.cell 1 rfl rfl)) ?_ | refine valP_ok (ld3 (hS.cell 2 rfl rfl)) ?_ | refine valP_ok (ld3 (hS.cell 3 rfl rfl)) ?_ | refine valP_ok (ld3 (hS.cell 4 rfl rfl)) ?_ | refine valP_ok (ld3 (by assumption)) ?_
  first | refine valP_ok (fa79_2 _ _) ?_ | refine valP_ok (fao79_2 _ _ _) ?_
  first | refine valP_ok (ld3 (hS.cell 0 rfl rfl)) ?_ | refine valP_ok (ld3 (hS.cell 1 rfl rfl)) ?_ | refine valP_ok (ld3 (hS.cell 2 rfl rfl)) ?_ | refine valP_ok (ld3 (hS.cell 3 rfl rfl)) ?_ | refine valP_ok (ld3 (hS.cell 4 rfl rfl)) ?_ | refine valP_ok (ld3 (by assumption)) ?_
  refine callR (by kernel_rfl) (gnew_ret hS) ?_
  by_cases hb : newBad x.parts x.gen x.next
  · clear hS
    intro v w hv
    rw [if_pos hb] at hv
    obtain ⟨rfl, hS⟩ := hv
    refine valP_ok (extract_ok _ 0 rfl _) ?_
    refine valP_ok (extract_ok _ 1 rfl _) ?_
    unfold m12_2
    first | refine valP_ok (fa79_0 _ _) ?_ | refine valP_ok (fao79_0 _ _ _) ?_
    first | refine valP_ok (ld3 (hS.cell 0 rfl rfl)) ?_ | refine valP_ok (ld3 (hS.cell 1 rfl rfl)) ?_ | refine valP_ok (ld3 (hS.cell 2 rfl rfl)) ?_ | refine valP_ok (ld3 (hS.cell 3 rfl rfl)) ?_ | refine valP_ok (ld3 (hS.cell 4 rfl rfl)) ?_ | refine valP_ok (ld3 (by assumption)) ?_
    first | refine valP_ok (fa79_3 _ _) ?_ | refine valP_ok (fao79_3 _ _ _) ?_
    first | refine valP_ok (ld4 (hS.cell 0 rfl rfl)) ?_ | refine valP_ok (ld4 (hS.cell 1 rfl rfl)) ?_ | refine valP_ok (ld4 (hS.cell 2 rfl rfl)) ?_ | refine valP_ok (ld4 (hS.cell 3 rfl rfl)) ?_ | refine valP_ok (ld4 (hS.cell 4 rfl rfl)) ?_ | refine valP_ok (ld4 (by assumption)) ?_
    first | refine valP_ok (fa79_1 _ _) ?_ | refine valP_ok (fao79_1 _ _ _) ?_
    first | refine valP_ok (ld3 (hS.cell 0 rfl rfl)) ?_ | refine valP_ok (ld3 (hS.cell 1 rfl rfl)) ?_ | refine valP_ok (ld3 (hS.cell 2 rfl rfl)) ?_ | refine valP_ok (ld3 (hS.cell 3 rfl rfl)) ?_ | refine valP_ok (ld3 (hS.cell 4 rfl rfl)) ?_ | refine valP_ok (ld3 (by assumption)) ?_
    first | refine valP_ok (fa79_2 _ _) ?_ | refine valP_ok (fao79_2 _ _ _) ?_
    first | refine valP_ok (ld3 (hS.cell 0 rfl rfl)) ?_ | refine valP_ok (ld3 (hS.cell 1 rfl rfl)) ?_ | refine valP_ok (ld3 (hS.cell 2 rfl rfl)) ?_ | refine valP_ok (ld3 (hS.cell 3 rfl rfl)) ?_ | refine valP_ok (ld3 (hS.cell 4 rfl rfl)) ?_ | refine valP_ok (ld3 (by assumption)) ?_
    refine callR (by kernel_rfl) (rnew_ret hS) ?_
    clear hS
    intro v w hv
    rw [if_pos hb] at hv
    obtain ⟨rfl, hS⟩ := hv
    refine valP_ok (extract_ok _ 0 rfl _) ?_
    refine valP_ok (extract_ok _ 1 rfl _) ?_
    unfold m12_3
    refine valP_ok (ne3 _ _ _ _ _) ?_
    refine cond_df (by decide) ?_
    first | refine valP_ok (eq59n _ _ _) ?_ | refine valP_ok (eq59s _ _ _ _) ?_
    refine valP_ok (ne3 _ _ _ _ _) ?_
    refine valP_ok (ne4 _ _ _ _ _) ?_
    first | refine pick_dt (by first | assumption | omega) ?_ | refine pick_df (by first | assumption | omega) ?_ | refine pick_t (by first | rfl | assumption) ?_ | refine pick_f (by first | rfl | assumption) ?_ | refine pick_dt rfl ?_ | refine pick_df (not_not_intro rfl) ?_
    unfold m12_18
    refine cond_f (by simp) ?_
    unfold m12_4
    first | refine valP_ok (eq59n _ _ _) ?_ | refine valP_ok (eq59s _ _ _ _) ?_
    unfold m12_16
    refine cond_t rfl ?_
    refine callR (by kernel_rfl) (gawake_ret hS) ?_
    rintro v w ⟨rfl, hS⟩
    unfold m12_17
    exact ⟨rfl, hS.below⟩
  · clear hS
    intro v w hv
    rw [if_neg hb] at hv
    obtain ⟨b, X, rfl, hS⟩ := hv
    have hS : St w0 [] w (Res.cells b2 79 (encCse x) :: grpL 103 b (newS x.parts x.st x.gen x.next) X) := hS.pick 4 [3, 0, 1, 2] (by simp) (by decide)
    refine valP_ok (extract_ok _ 0 rfl _) ?_
    refine valP_ok (extract_ok _ 1 rfl _) ?_
    unfold m12_2
    first | refine valP_ok (fa79_0 _ _) ?_ | refine valP_ok (fao79_0 _ _ _) ?_
    first | refine valP_ok (ld3 (hS.cell 0 rfl rfl)) ?_ | refine valP_ok (ld3 (hS.cell 1 rfl rfl)) ?_ | refine valP_ok (ld3 (hS.cell 2 rfl rfl)) ?_ | refine valP_ok (ld3 (hS.cell 3 rfl rfl)) ?_ | refine valP_ok (ld3 (hS.cell 4 rfl rfl)) ?_ | refine valP_ok (ld3 (by assumption)) ?_
    first | refine valP_ok (fa79_3 _ _) ?_ | refine valP_ok (fao79_3 _ _ _) ?_
    first | refine valP_ok (ld4 (hS.cell 0 rfl rfl)) ?_ | refine valP_ok (ld4 (hS.cell 1 rfl rfl)) ?_ | refine valP_ok (ld4 (hS.cell 2 rfl rfl)) ?_ | refine valP_ok (ld4 (hS.cell 3 rfl rfl)) ?_ | refine valP_ok (ld4 (hS.cell 4 rfl rfl)) ?_ | refine valP_ok (ld4 (by assumption)) ?_
    first | refine valP_ok (fa79_1 _ _) ?_ | refine valP_ok (fao79_1 _ _ _) ?_
    first | refine valP_ok (ld3 (hS.cell 0 rfl rfl)) ?_ | refine valP_ok (ld3 (hS.cell 1 rfl rfl)) ?_ | refine valP_ok (ld3 (hS.cell 2 rfl rfl)) ?_ | refine valP_ok (ld3 (hS.cell 3 rfl rfl)) ?_ | refine valP_ok (ld3 (hS.cell 4 rfl rfl)) ?_ | refine valP_ok (ld3 (by assumption)) ?_
    first | refine valP_ok (fa79_2 _ _) ?_ | refine valP_ok (fao79_2 _ _ _) ?_
    first | refine valP_ok (ld3 (hS.cell 0 rfl rfl)) ?_ | refine valP_ok (ld3 (hS.cell 1 rfl rfl)) ?_ | refine valP_ok (ld3 (hS.cell 2 rfl rfl)) ?_ | refine valP_ok (ld3 (hS.cell 3 rfl rfl)) ?_ | refine valP_ok (ld3 (hS.cell 4 rfl rfl)) ?_ | refine valP_ok (ld3 (by assumption)) ?_
    refine callR (by kernel_rfl) (rnew_ret hS) ?_
    clear hS
    intro v w hv
    rw [if_neg hb] at hv
    obtain ⟨b', Y, rfl, hS⟩ := hv
    have hS : St w0 [] w (grpL 103 b (newS x.parts x.st x.gen x.next) X ++ (grpL 86 b' (newS x.parts x.st x.gen x.next) Y ++ [])) := hS.pick 7 [4, 5, 6, 0, 1, 2] (by simp) (by decide)
    refine valP_ok (extract_ok _ 0 rfl _) ?_
    refine valP_ok (extract_ok _ 1 rfl _) ?_
    unfold m12_3
    refine valP_ok (ne3 _ _ _ _ _) ?_
    refine cond_df (by decide) ?_
    first | refine valP_ok (eq59n _ _ _) ?_ | refine valP_ok (eq59s _ _ _ _) ?_
    refine valP_ok (ne3 _ _ _ _ _) ?_
    refine valP_ok (ne4 _ _ _ _ _) ?_
    first | refine pick_dt (by first | assumption | omega) ?_ | refine pick_df (by first | assumption | omega) ?_ | refine pick_t (by first | rfl | assumption) ?_ | refine pick_f (by first | rfl | assumption) ?_ | refine pick_dt rfl ?_ | refine pick_df (not_not_intro rfl) ?_
    unfold m12_18
    refine cond_f (by simp) ?_
    unfold m12_4
    first | refine valP_ok (eq59n _ _ _) ?_ | refine valP_ok (eq59s _ _ _ _) ?_
    unfold m12_16
    refine cond_f rfl ?_
    unfold m12_5
    refine callR (by kernel_rfl) (gsome_ret hc) ?_
    rintro v w ⟨rfl, rfl⟩
    have hl2 := rdG_take 120 hl
    have hok2 : ∀ x ∈ l.take 120, DG x := fun x hx => hok x (List.mem_of_mem_take hx)
    have hll : (l.take 120).length ≤ 120 := by rw [List.length_take]; omega
    generalize l.take 120 = ls at *
    unfold m12_6 m12_9
    refine loop_in (fun u w' => ∃ (i : Nat) (s : GS) (X Y : GA), u = .int .i64 i ∧ i ≤ ls.length ∧ GOk i s ∧ St w0 [] w' (grpL 103 b s X ++ (grpL 86 b' s Y ++ []))) (fun u _ => ls.length - (intOf u).toNat) ⟨0, _, X, Y, rfl, by omega, newS_ok x.st hb, hS⟩ ?_
    clear hS
    rintro u w ⟨i, s, X, Y, rfl, hi, hs, hS⟩
    have hlen := hs.len
    unfold m12_10
    refine builtin_ok (len58 _) ?_
    refine valP_ok (lss_ok _ _ _ _ _ _ _) ?_
    unfold m12_15
    refine cond_split (fun h => ?_) (fun h => ?_)
    · have hlt : i < ls.length := by omega
      unfold m12_11
      refine drawn_ok hS ?_
      intro w hS
      have hr := hl2.old0 hS
      obtain ⟨g, o, rfl⟩ := hr.some_ (by omega) (by omega)
      have h0 := hr.struct encG_len hlt (j := 0) (by omega) rfl
      have h1 := hr.struct encG_len hlt (j := 1) (by omega) rfl
      have h2 := hr.struct encG_len hlt (j := 2) (by omega) rfl
      have h3 := hr.struct encG_len hlt (j := 3) (by omega) rfl
      have h4 := hr.struct encG_len hlt (j := 4) (by omega) rfl
      rw [Nat.add_zero] at h0
      refine pureP_ok (ix58 hlt) ?_
      refine nil_ok ?_
      refine pureP_ok (fa86_5 _) ?_
      refine nil_ok ?_
      refine pureP_ok (fa86_2 _) ?_
      repeat' (first | refine And.intro ?_ ?_ | refine valP_ok (ld65 h0 h1 h2 h3 h4) ?_ | refine valP_ok (ld66 (hS.cell 3 rfl rfl)) ?_ | refine valP_ok (ld3 (hS.cell 3 rfl rfl)) ?_)
      all_goals
        refine callR (by kernel_rfl) (gaimed_ret (hok2 _ (List.getElem_mem hlt)) (by omega) hS (Bes.of_row 4 rfl)) ?_
        rintro v w ⟨rfl, hS⟩
        refine callR (by kernel_rfl) (gstep_ret (by omega) hs hS) ?_
        have hs2 : GOk (i + 1) (doG s (aimG ls[i] s.L s.g)) := doG_ok (by omega) hs _
        rintro v w ⟨rfl, X', Y', hS⟩
        refine pureP_ok (notb_ok _) ?_
        refine cond_f rfl ?_
        refine callR (by kernel_rfl) (gsame_ret (by omega) hs2 hS) ?_
        rintro v w ⟨rfl, hS⟩
        refine pureP_ok (notb_ok _) ?_
        refine pick_f rfl ?_
        unfold m12_13
        refine cond_f rfl ?_
        unfold m12_12
        refine valP_ok (add_ok _ _ _ (by omega) (by omega) _) ?_
        exact ⟨⟨i + 1, _, X', Y', rfl, by omega, hs2, hS⟩, by simp [intOf]; omega⟩
    · unfold m12_7
      refine callR (by kernel_rfl) (gawake_ret hS) ?_
      rintro v w ⟨rfl, hS⟩
      unfold m12_8
      exact ⟨rfl, hS.below⟩

end Go.Proofs.Ytjjmlopmemmobaa.M
