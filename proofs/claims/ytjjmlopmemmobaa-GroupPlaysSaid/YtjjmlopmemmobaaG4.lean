/- What group's functions come to: New, Join, Leave, Tick, Sync, Beat, May, Gen, Next, Members, Owners. -/
import Derived.Test.YtjjmlopmemmobaaG3
namespace Go.Proofs.Ytjjmlopmemmobaa.M
open Go.Proofs.Ytjjmlopmemmobaa.F Go.RowKit
set_option linter.unusedVariables false
set_option linter.unusedSimpArgs false
set_option maxRecDepth 100000
set_option maxHeartbeats 2000000
attribute [local irreducible] Res.cells Res.row Res.map Res.any World.cell? World.frozen? Instr.fieldAt Instr.loadAt Instr.storeAt Instr.indexAt Instr.lookup Instr.mapUpdate Instr.box Instr.build Instr.buildSlice Instr.extract Instr.alloc Instr.field Instr.index Instr.sliceAt Instr.makeSlice Instr.makeMap Instr.makeFunc binS Op.unary Sem.run
open Go.Proofs.Ytjjmlopmemmobaa.L Go.Shelf
theorem gnew_ret {w0 w : World} {F : List Nat} {L : List Res} {parts gen next : Int} {sticky : Bool} (hS : St w0 F w L) :
    Ret Try.prog 36 #[.int .i64 parts, .bool sticky, .int .i64 gen, .int .i64 next] w fun v w' => if newBad parts gen next then v = .tuple #[.pointer none, .int .i64 1] ∧ St w0 F w' L
      else ∃ b X, v = .tuple #[.pointer (some ⟨b, 0, none⟩), .int .i64 0] ∧ St w0 F w' (grpL 103 b (newS parts sticky gen next) X ++ L) := by
  refine s36 _ _ _ _ ?_
  unfold m36
  unfold m36_0
  have bad : newBad parts gen next → ∀ w, St w0 F w L → ∀ t, t = true → m36_4 (fun v w' => if newBad parts gen next then v = .tuple #[.pointer none, .int .i64 1] ∧ St w0 F w' L
      else ∃ b X, v = .tuple #[.pointer (some ⟨b, 0, none⟩), .int .i64 0] ∧ St w0 F w' (grpL 103 b (newS parts sticky gen next) X ++ L)) (.int .i64 parts) (.bool sticky) (.int .i64 gen) (.int .i64 next) (.bool t) w := fun hb w hS t ht => by
    unfold m36_4
    refine cond_t ht ?_
    unfold m36_5
    show ite _ _ _
    rw [if_pos hb]
    exact ⟨rfl, hS⟩
  unfold m36_1
  refine valP_ok (lss_ok _ _ _ _ _ _ _) ?_
  refine cond_split (fun h => ?_) (fun h => ?_)
  · first | refine pick_dt (by first | assumption | omega) ?_ | refine pick_df (by first | assumption | omega) ?_ | refine pick_t (by first | rfl | assumption) ?_ | refine pick_f (by first | rfl | assumption) ?_ | refine pick_dt rfl ?_ | refine pick_df (not_not_intro rfl) ?_
    first | refine pick_dt (by first | assumption | omega) ?_ | refine pick_df (by first | assumption | omega) ?_ | refine pick_t (by first | rfl | assumption) ?_ | refine pick_f (by first | rfl | assumption) ?_ | refine pick_dt rfl ?_ | refine pick_df (not_not_intro rfl) ?_
    first | refine pick_dt (by first | assumption | omega) ?_ | refine pick_df (by first | assumption | omega) ?_ | refine pick_t (by first | rfl | assumption) ?_ | refine pick_f (by first | rfl | assumption) ?_ | refine pick_dt rfl ?_ | refine pick_df (not_not_intro rfl) ?_
    first | refine pick_dt (by first | assumption | omega) ?_ | refine pick_df (by first | assumption | omega) ?_ | refine pick_t (by first | rfl | assumption) ?_ | refine pick_f (by first | rfl | assumption) ?_ | refine pick_dt rfl ?_ | refine pick_df (not_not_intro rfl) ?_
    first | refine pick_dt (by first | assumption | omega) ?_ | refine pick_df (by first | assumption | omega) ?_ | refine pick_t (by first | rfl | assumption) ?_ | refine pick_f (by first | rfl | assumption) ?_ | refine pick_dt rfl ?_ | refine pick_df (not_not_intro rfl) ?_
    exact bad (by unfold newBad; omega) _ hS _ (by simp [h])
  refine valP_ok (gtr_ok _ _ _ _ _ _ _) ?_
  first | refine pick_dt (by first | assumption | omega) ?_ | refine pick_df (by first | assumption | omega) ?_ | refine pick_t (by first | rfl | assumption) ?_ | refine pick_f (by first | rfl | assumption) ?_ | refine pick_dt rfl ?_ | refine pick_df (not_not_intro rfl) ?_
  refine cond_split (fun h1 => ?_) (fun h1 => ?_)
  · first | refine pick_dt (by first | assumption | omega) ?_ | refine pick_df (by first | assumption | omega) ?_ | refine pick_t (by first | rfl | assumption) ?_ | refine pick_f (by first | rfl | assumption) ?_ | refine pick_dt rfl ?_ | refine pick_df (not_not_intro rfl) ?_
    first | refine pick_dt (by first | assumption | omega) ?_ | refine pick_df (by first | assumption | omega) ?_ | refine pick_t (by first | rfl | assumption) ?_ | refine pick_f (by first | rfl | assumption) ?_ | refine pick_dt rfl ?_ | refine pick_df (not_not_intro rfl) ?_
    first | refine pick_dt (by first | assumption | omega) ?_ | refine pick_df (by first | assumption | omega) ?_ | refine pick_t (by first | rfl | assumption) ?_ | refine pick_f (by first | rfl | assumption) ?_ | refine pick_dt rfl ?_ | refine pick_df (not_not_intro rfl) ?_
    first | refine pick_dt (by first | assumption | omega) ?_ | refine pick_df (by first | assumption | omega) ?_ | refine pick_t (by first | rfl | assumption) ?_ | refine pick_f (by first | rfl | assumption) ?_ | refine pick_dt rfl ?_ | refine pick_df (not_not_intro rfl) ?_
    exact bad (by unfold newBad; omega) _ hS _ (by simp [h1])
  refine valP_ok (lss_ok _ _ _ _ _ _ _) ?_
  first | refine pick_dt (by first | assumption | omega) ?_ | refine pick_df (by first | assumption | omega) ?_ | refine pick_t (by first | rfl | assumption) ?_ | refine pick_f (by first | rfl | assumption) ?_ | refine pick_dt rfl ?_ | refine pick_df (not_not_intro rfl) ?_
  refine cond_split (fun h2 => ?_) (fun h2 => ?_)
  · first | refine pick_dt (by first | assumption | omega) ?_ | refine pick_df (by first | assumption | omega) ?_ | refine pick_t (by first | rfl | assumption) ?_ | refine pick_f (by first | rfl | assumption) ?_ | refine pick_dt rfl ?_ | refine pick_df (not_not_intro rfl) ?_
    first | refine pick_dt (by first | assumption | omega) ?_ | refine pick_df (by first | assumption | omega) ?_ | refine pick_t (by first | rfl | assumption) ?_ | refine pick_f (by first | rfl | assumption) ?_ | refine pick_dt rfl ?_ | refine pick_df (not_not_intro rfl) ?_
    first | refine pick_dt (by first | assumption | omega) ?_ | refine pick_df (by first | assumption | omega) ?_ | refine pick_t (by first | rfl | assumption) ?_ | refine pick_f (by first | rfl | assumption) ?_ | refine pick_dt rfl ?_ | refine pick_df (not_not_intro rfl) ?_
    exact bad (by unfold newBad; omega) _ hS _ (by simp [h2])
  refine valP_ok (gtr_ok _ _ _ _ _ _ _) ?_
  first | refine pick_dt (by first | assumption | omega) ?_ | refine pick_df (by first | assumption | omega) ?_ | refine pick_t (by first | rfl | assumption) ?_ | refine pick_f (by first | rfl | assumption) ?_ | refine pick_dt rfl ?_ | refine pick_df (not_not_intro rfl) ?_
  refine cond_split (fun h3 => ?_) (fun h3 => ?_)
  · first | refine pick_dt (by first | assumption | omega) ?_ | refine pick_df (by first | assumption | omega) ?_ | refine pick_t (by first | rfl | assumption) ?_ | refine pick_f (by first | rfl | assumption) ?_ | refine pick_dt rfl ?_ | refine pick_df (not_not_intro rfl) ?_
    first | refine pick_dt (by first | assumption | omega) ?_ | refine pick_df (by first | assumption | omega) ?_ | refine pick_t (by first | rfl | assumption) ?_ | refine pick_f (by first | rfl | assumption) ?_ | refine pick_dt rfl ?_ | refine pick_df (not_not_intro rfl) ?_
    exact bad (by unfold newBad; omega) _ hS _ (by simp [h3])
  refine valP_ok (lss_ok _ _ _ _ _ _ _) ?_
  first | refine pick_dt (by first | assumption | omega) ?_ | refine pick_df (by first | assumption | omega) ?_ | refine pick_t (by first | rfl | assumption) ?_ | refine pick_f (by first | rfl | assumption) ?_ | refine pick_dt rfl ?_ | refine pick_df (not_not_intro rfl) ?_
  refine cond_split (fun h4 => ?_) (fun h4 => ?_)
  · first | refine pick_dt (by first | assumption | omega) ?_ | refine pick_df (by first | assumption | omega) ?_ | refine pick_t (by first | rfl | assumption) ?_ | refine pick_f (by first | rfl | assumption) ?_ | refine pick_dt rfl ?_ | refine pick_df (not_not_intro rfl) ?_
    exact bad (by unfold newBad; omega) _ hS _ (by simp [h4])
  refine valP_ok (gtr_ok _ _ _ _ _ _ _) ?_
  first | refine pick_dt (by first | assumption | omega) ?_ | refine pick_df (by first | assumption | omega) ?_ | refine pick_t (by first | rfl | assumption) ?_ | refine pick_f (by first | rfl | assumption) ?_ | refine pick_dt rfl ?_ | refine pick_df (not_not_intro rfl) ?_
  by_cases h5 : next > 1099511627776
  · exact bad (by unfold newBad; omega) _ hS _ (by simp [h5])
  unfold m36_4
  refine cond_df h5 ?_
  have ep : (Value.int .i64 parts) = Value.int .i64 ((parts.toNat : Nat) : Int) := by rw [Int.toNat_of_nonneg (by omega)]
  have hrl : (List.replicate parts.toNat (0 : Int)).length = parts.toNat := by simp
  unfold m36_2
  rw [ep]
  refine make_ok sl28 hS (by omega) (by unfold maxLen; omega) ?_
  intro b1 w hS
  refine valP_ok (bd103_0_1_2_3_6 rfl rfl rfl rfl rfl _) ?_
  refine new_ok (bx103 _ _ _ _ _ _ _ _) hS ?_
  intro b3 w hS
  rw [zero_cells] at hS
  have h1 := (hS.row_nil 69 3).pick 3 [1, 0, 2] (by simp) (by decide)
  unfold m36_3
  show ite _ _ _
  rw [if_neg (by unfold newBad; omega)]
  refine ⟨b3, ⟨none, 0, some ⟨b1, 0, none⟩, parts.toNat⟩, rfl, ?_⟩
  show St w0 F w ([_, _, _] ++ L)
  rw [← ep] at h1
  simp only [grpC, newS, irow, mrow, hrl]
  exact h1
theorem ggen_ret {w0 w : World} {F : List Nat} {L : List Res} {b : Nat} {s : GS} {X : GA} (hS : St w0 F w (grpL 103 b s X ++ L)) :
    Ret Try.prog 44 #[.pointer (some ⟨b, 0, none⟩)] w fun v w' => v = .int .i64 s.g ∧ w' = w := by
  refine s44 _ ?_
  unfold m44
  unfold m44_0
  unfold m44_1
  first | refine valP_ok (eq59n _ _ _) ?_ | refine valP_ok (eq59s _ _ _ _) ?_
  unfold m44_4
  refine cond_f rfl ?_
  unfold m44_2
  refine nil_ok ?_
  first | refine valP_ok (fa103_2 _ _) ?_ | refine valP_ok (fao103_2 _ _ _) ?_
  first | refine valP_ok (ld3 (hS.cell 0 rfl rfl)) ?_ | refine valP_ok (ld3 (hS.cell 1 rfl rfl)) ?_ | refine valP_ok (ld3 (hS.cell 2 rfl rfl)) ?_ | refine valP_ok (ld3 (hS.cell 3 rfl rfl)) ?_ | refine valP_ok (ld3 (hS.cell 4 rfl rfl)) ?_ | refine valP_ok (ld3 (by assumption)) ?_
  unfold m44_3
  exact ⟨rfl, rfl⟩
theorem gnext_ret {w0 w : World} {F : List Nat} {L : List Res} {b : Nat} {s : GS} {X : GA} (hS : St w0 F w (grpL 103 b s X ++ L)) :
    Ret Try.prog 45 #[.pointer (some ⟨b, 0, none⟩)] w fun v w' => v = .int .i64 s.n ∧ w' = w := by
  refine s45 _ ?_
  unfold m45
  unfold m45_0
  unfold m45_1
  first | refine valP_ok (eq59n _ _ _) ?_ | refine valP_ok (eq59s _ _ _ _) ?_
  unfold m45_4
  refine cond_f rfl ?_
  unfold m45_2
  refine nil_ok ?_
  first | refine valP_ok (fa103_3 _ _) ?_ | refine valP_ok (fao103_3 _ _ _) ?_
  first | refine valP_ok (ld3 (hS.cell 0 rfl rfl)) ?_ | refine valP_ok (ld3 (hS.cell 1 rfl rfl)) ?_ | refine valP_ok (ld3 (hS.cell 2 rfl rfl)) ?_ | refine valP_ok (ld3 (hS.cell 3 rfl rfl)) ?_ | refine valP_ok (ld3 (hS.cell 4 rfl rfl)) ?_ | refine valP_ok (ld3 (by assumption)) ?_
  unfold m45_3
  exact ⟨rfl, rfl⟩
theorem gmembers_ret {w0 w : World} {F : List Nat} {L : List Res} {b : Nat} {s : GS} {X : GA} (hl : s.L.length ≤ 1000) (hS : St w0 F w (grpL 103 b s X ++ L)) :
    Ret Try.prog 39 #[.pointer (some ⟨b, 0, none⟩)] w fun v w' => ∃ A c, v = .slice A s.L.length c ∧ St w0 F w' (mrow (.slice A s.L.length c) s.L :: (grpL 103 b s X ++ L)) := by
  refine s39 _ ?_
  unfold m39
  unfold m39_0
  unfold m39_1
  first | refine valP_ok (eq59n _ _ _) ?_ | refine valP_ok (eq59s _ _ _ _) ?_
  unfold m39_4
  refine cond_f rfl ?_
  unfold m39_2
  refine nil_ok ?_
  first | refine valP_ok (fa103_5 _ _) ?_ | refine valP_ok (fao103_5 _ _ _) ?_
  first | refine valP_ok (ld66 (hS.cell 0 rfl rfl)) ?_ | refine valP_ok (ld66 (hS.cell 1 rfl rfl)) ?_ | refine valP_ok (ld66 (hS.cell 2 rfl rfl)) ?_ | refine valP_ok (ld66 (hS.cell 3 rfl rfl)) ?_ | refine valP_ok (ld66 (hS.cell 4 rfl rfl)) ?_ | refine valP_ok (ld66 (by assumption)) ?_
  refine callR (by kernel_rfl) (mclone_ret 1 hS rfl (by omega)) ?_
  rintro v w ⟨A, c, rfl, hS⟩
  unfold m39_3
  exact ⟨A, c, rfl, hS⟩
theorem gowners_ret {w0 w : World} {F : List Nat} {L : List Res} {b : Nat} {s : GS} {X : GA} (hl : s.O.length ≤ 1000) (hS : St w0 F w (grpL 103 b s X ++ L)) :
    Ret Try.prog 46 #[.pointer (some ⟨b, 0, none⟩)] w fun v w' => ∃ A c, v = .slice A s.O.length c ∧ St w0 F w' (irow (.slice A s.O.length c) s.O :: (grpL 103 b s X ++ L)) := by
  refine s46 _ ?_
  unfold m46
  unfold m46_0
  unfold m46_1
  first | refine valP_ok (eq59n _ _ _) ?_ | refine valP_ok (eq59s _ _ _ _) ?_
  unfold m46_4
  refine cond_f rfl ?_
  unfold m46_2
  refine nil_ok ?_
  first | refine valP_ok (fa103_6 _ _) ?_ | refine valP_ok (fao103_6 _ _ _) ?_
  first | refine valP_ok (ld28 (hS.cell 0 rfl rfl)) ?_ | refine valP_ok (ld28 (hS.cell 1 rfl rfl)) ?_ | refine valP_ok (ld28 (hS.cell 2 rfl rfl)) ?_ | refine valP_ok (ld28 (hS.cell 3 rfl rfl)) ?_ | refine valP_ok (ld28 (hS.cell 4 rfl rfl)) ?_ | refine valP_ok (ld28 (by assumption)) ?_
  refine callR (by kernel_rfl) (clone_ret 2 hS rfl (by omega)) ?_
  rintro v w ⟨A, c, rfl, hS⟩
  unfold m46_3
  exact ⟨A, c, rfl, hS⟩
theorem asks_wk {w0 : World} {F : List Nat} {L : List Res} {b bw : Nat} {s : GS} {X : GA} {wk : Int} : AsksM w0 F (grpL 103 b s X ++ Res.cells bw 3 [.int .i64 wk] :: L) 1 X.m s.L.length X.cm 83 #[.pointer (some ⟨bw, 0, none⟩)] (fun m => decide (m.wk = wk)) := by
  intro x w xs R hx hS
  have hc : w.cell? ⟨bw, 0, none⟩ = some (.int .i64 wk) := hS.cell (R.length + 3) (by rw [List.getElem?_append_right (by omega), show R.length + 3 - R.length = 3 by omega]; rfl) rfl
  show Ret Try.prog 83 #[valM x, .pointer (some ⟨bw, 0, none⟩)] w _
  refine s83 _ _ ?_
  unfold m83 m83_0
  refine new_ok (bx69 _ _ _ _) hS ?_
  intro b2 w' hS'
  have hc : w'.cell? ⟨bw, 0, none⟩ = some (.int .i64 wk) := hS'.cell (R.length + 3 + 1) (by rw [List.getElem?_cons_succ, List.getElem?_append_right (by omega), show R.length + 3 - R.length = 3 by omega]; rfl) rfl
  have hS := hS'
  unfold m83_1
  first | refine valP_ok (fa69_1 _ _) ?_ | refine valP_ok (fao69_1 _ _ _) ?_
  first | refine valP_ok (ld3 (hS.cell 0 rfl rfl)) ?_ | refine valP_ok (ld3 (hS.cell 1 rfl rfl)) ?_ | refine valP_ok (ld3 (hS.cell 2 rfl rfl)) ?_ | refine valP_ok (ld3 (hS.cell 3 rfl rfl)) ?_ | refine valP_ok (ld3 (hS.cell 4 rfl rfl)) ?_ | refine valP_ok (ld3 (by assumption)) ?_
  first | refine valP_ok (ld3 (hS.cell 0 rfl rfl)) ?_ | refine valP_ok (ld3 (hS.cell 1 rfl rfl)) ?_ | refine valP_ok (ld3 (hS.cell 2 rfl rfl)) ?_ | refine valP_ok (ld3 (hS.cell 3 rfl rfl)) ?_ | refine valP_ok (ld3 (hS.cell 4 rfl rfl)) ?_ | refine valP_ok (ld3 (by assumption)) ?_
  refine valP_ok (eq3 _ _ _ _ _) ?_
  unfold m83_2
  exact ⟨rfl, hS.tail⟩
theorem asks_id {w0 : World} {F : List Nat} {L : List Res} {b bw : Nat} {s : GS} {X : GA} {id : Int} : AsksM w0 F (grpL 103 b s X ++ Res.cells bw 3 [.int .i64 id] :: L) 1 X.m s.L.length X.cm 75 #[.pointer (some ⟨bw, 0, none⟩)] (fun m => decide (m.id = id)) := by
  intro x w xs R hx hS
  show Ret Try.prog 75 #[valM x, .pointer (some ⟨bw, 0, none⟩)] w _
  refine s75 _ _ ?_
  unfold m75 m75_0
  refine new_ok (bx69 _ _ _ _) hS ?_
  intro b2 w' hS'
  have hc : w'.cell? ⟨bw, 0, none⟩ = some (.int .i64 id) := hS'.cell (R.length + 3 + 1) (by rw [List.getElem?_cons_succ, List.getElem?_append_right (by omega), show R.length + 3 - R.length = 3 by omega]; rfl) rfl
  have hS := hS'
  unfold m75_1
  first | refine valP_ok (fa69_0 _ _) ?_ | refine valP_ok (fao69_0 _ _ _) ?_
  first | refine valP_ok (ld3 (hS.cell 0 rfl rfl)) ?_ | refine valP_ok (ld3 (hS.cell 1 rfl rfl)) ?_ | refine valP_ok (ld3 (hS.cell 2 rfl rfl)) ?_ | refine valP_ok (ld3 (hS.cell 3 rfl rfl)) ?_ | refine valP_ok (ld3 (hS.cell 4 rfl rfl)) ?_ | refine valP_ok (ld3 (by assumption)) ?_
  first | refine valP_ok (ld3 (hS.cell 0 rfl rfl)) ?_ | refine valP_ok (ld3 (hS.cell 1 rfl rfl)) ?_ | refine valP_ok (ld3 (hS.cell 2 rfl rfl)) ?_ | refine valP_ok (ld3 (hS.cell 3 rfl rfl)) ?_ | refine valP_ok (ld3 (hS.cell 4 rfl rfl)) ?_ | refine valP_ok (ld3 (by assumption)) ?_
  refine valP_ok (eq3 _ _ _ _ _) ?_
  unfold m75_2
  exact ⟨rfl, hS.tail⟩
theorem asks_due {w0 : World} {F : List Nat} {L : List Res} {b bw : Nat} {s : GS} {X : GA} : AsksM w0 F (grpL 103 b s X ++ Res.cells bw 59 [.pointer (some ⟨b, 0, none⟩)] :: L) 1 X.m s.L.length X.cm 73 #[.pointer (some ⟨bw, 0, none⟩)] (fun m => decide (m.due ≤ s.now)) := by
  intro x w xs R hx hS
  show Ret Try.prog 73 #[valM x, .pointer (some ⟨bw, 0, none⟩)] w _
  refine s73 _ _ ?_
  unfold m73 m73_0
  refine new_ok (bx69 _ _ _ _) hS ?_
  intro b2 w' hS'
  have hc : w'.cell? ⟨bw, 0, none⟩ = some (.pointer (some ⟨b, 0, none⟩)) := hS'.cell (R.length + 3 + 1) (by rw [List.getElem?_cons_succ, List.getElem?_append_right (by omega), show R.length + 3 - R.length = 3 by omega]; rfl) rfl
  have hd : w'.cell? ⟨b, 4, none⟩ = some (.int .i64 s.now) := hS'.cell (R.length + 0 + 1) (by rw [List.getElem?_cons_succ, List.getElem?_append_right (by omega), Nat.sub_self]; rfl) rfl
  have hS := hS'
  unfold m73_1
  first | refine valQ_ok (fa69_2 _) ?_ | refine valQ_ok (fao69_2 _ _) ?_
  first | refine valQ_load ld3 (hS.cell 0 rfl rfl) ?_ | refine valQ_load ld3 (hS.cell 1 rfl rfl) ?_ | refine valQ_load ld3 (hS.cell 2 rfl rfl) ?_ | refine valQ_load ld3 (hS.cell 3 rfl rfl) ?_ | refine valQ_load ld3 (hS.cell 4 rfl rfl) ?_ | refine valQ_load ld3 (by assumption) ?_
  first | refine valQ_load ld59 (hS.cell 0 rfl rfl) ?_ | refine valQ_load ld59 (hS.cell 1 rfl rfl) ?_ | refine valQ_load ld59 (hS.cell 2 rfl rfl) ?_ | refine valQ_load ld59 (hS.cell 3 rfl rfl) ?_ | refine valQ_load ld59 (hS.cell 4 rfl rfl) ?_ | refine valQ_load ld59 (by assumption) ?_
  refine nil_ok ?_
  first | refine valQ_ok (fa103_4 _) ?_ | refine valQ_ok (fao103_4 _ _) ?_
  first | refine valQ_load ld3 (hS.cell 0 rfl rfl) ?_ | refine valQ_load ld3 (hS.cell 1 rfl rfl) ?_ | refine valQ_load ld3 (hS.cell 2 rfl rfl) ?_ | refine valQ_load ld3 (hS.cell 3 rfl rfl) ?_ | refine valQ_load ld3 (hS.cell 4 rfl rfl) ?_ | refine valQ_load ld3 (by assumption) ?_
  refine valQ_ok (leq_ok _ _ _ _ _ _) ?_
  refine drawn_ok hS ?_
  intro w hS
  unfold m73_2
  exact ⟨rfl, hS.tail⟩

end Go.Proofs.Ytjjmlopmemmobaa.M
