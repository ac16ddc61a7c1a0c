/- Chapter 10's example. -/
import Derived.Test.YtjjmlopmemmobaaG11
namespace Go.Proofs.Ytjjmlopmemmobaa.M
open Go.Proofs.Ytjjmlopmemmobaa.F Go.RowKit
set_option linter.unusedVariables false
set_option linter.unusedSimpArgs false
set_option maxRecDepth 100000
set_option maxHeartbeats 2000000
attribute [local irreducible] Res.cells Res.row Res.map Res.any World.cell? World.frozen? Instr.fieldAt Instr.loadAt Instr.storeAt Instr.indexAt Instr.lookup Instr.mapUpdate Instr.box Instr.build Instr.buildSlice Instr.extract Instr.alloc Instr.field Instr.index Instr.sliceAt Instr.makeSlice Instr.makeMap Instr.makeFunc binS Op.unary Sem.run
open Go.Proofs.Ytjjmlopmemmobaa.L Go.Shelf
def gx0 : GS := newS 2 false 0 1
def gx1 : GS := ⟨2, false, 1, 2, 0, [⟨1, 1, 12⟩], [1, 1]⟩
def gx2 : GS := ⟨2, false, 2, 3, 0, [⟨1, 1, 12⟩, ⟨2, 2, 12⟩], [1, 2]⟩
def gx3 : GS := ⟨2, false, 3, 4, 0, [⟨2, 2, 12⟩, ⟨3, 1, 12⟩], [2, 3]⟩
theorem gx_join1 : joinG gx0 1 = gx1 := by
  have h : joinG gx0 1 = gturned ⟨2, false, 0, 2, 0, [⟨1, 1, 12⟩], [0, 0]⟩ := by kernel_rfl
  have h2 : membersL (idsL [(⟨1, 1, 12⟩ : Mem)]) = [1] := ids_mem (l := [⟨1, 1, 12⟩]) (by simp) (by simp)
  have e : ownL ⟨2, false, 0, 2, 0, [⟨1, 1, 12⟩], [0, 0]⟩ = rangeL 2 (membersL (idsL ([⟨1, 1, 12⟩] : List Mem))) := rfl
  rw [h2] at e
  rw [h]
  unfold gturned
  rw [e]
  show GS.mk 2 false (0 + 1) 2 0 [⟨1, 1, 12⟩] (rangeL 2 [1]) = _
  kernel_rfl
theorem gx_join2 : joinG gx1 2 = gx2 := by
  have h : joinG gx1 2 = gturned ⟨2, false, 1, 3, 0, [⟨1, 1, 12⟩, ⟨2, 2, 12⟩], [1, 1]⟩ := by kernel_rfl
  have h2 : membersL (idsL [(⟨1, 1, 12⟩ : Mem), ⟨2, 2, 12⟩]) = [1, 2] := ids_mem (l := [⟨1, 1, 12⟩, ⟨2, 2, 12⟩]) (by simp) (by simp)
  have e : ownL ⟨2, false, 1, 3, 0, [⟨1, 1, 12⟩, ⟨2, 2, 12⟩], [1, 1]⟩ = rangeL 2 (membersL (idsL ([⟨1, 1, 12⟩, ⟨2, 2, 12⟩] : List Mem))) := rfl
  rw [h2] at e
  rw [h]
  unfold gturned
  rw [e]
  show GS.mk 2 false (1 + 1) 3 0 [⟨1, 1, 12⟩, ⟨2, 2, 12⟩] (rangeL 2 [1, 2]) = _
  kernel_rfl
theorem gx_join3 : joinG gx2 1 = gx3 := by
  have h : joinG gx2 1 = gturned ⟨2, false, 2, 4, 0, [⟨2, 2, 12⟩, ⟨3, 1, 12⟩], [1, 2]⟩ := by kernel_rfl
  have h2 : membersL (idsL [(⟨2, 2, 12⟩ : Mem), ⟨3, 1, 12⟩]) = [2, 3] := ids_mem (l := [⟨2, 2, 12⟩, ⟨3, 1, 12⟩]) (by simp) (by simp)
  have e : ownL ⟨2, false, 2, 4, 0, [⟨2, 2, 12⟩, ⟨3, 1, 12⟩], [1, 2]⟩ = rangeL 2 (membersL (idsL ([⟨2, 2, 12⟩, ⟨3, 1, 12⟩] : List Mem))) := rfl
  rw [h2] at e
  rw [h]
  unfold gturned
  rw [e]
  show GS.mk 2 false (2 + 1) 4 0 [⟨2, 2, 12⟩, ⟨3, 1, 12⟩] (rangeL 2 [2, 3]) = _
  kernel_rfl
theorem gx_ok0 : GOk 0 gx0 := newS_ok false (by unfold newBad; omega)
theorem gx_ok1 : GOk 1 gx1 := gx_join1 ▸ joinG_ok (by omega) gx_ok0 1
theorem gx_ok2 : GOk 2 gx2 := gx_join2 ▸ joinG_ok (by omega) gx_ok1 2
theorem gx_ok3 : GOk 3 gx3 := gx_join3 ▸ joinG_ok (by omega) gx_ok2 1
theorem gawake_ret {w0 w : World} {F : List Nat} {L : List Res} (hS : St w0 F w L) : Ret Try.prog 40 #[] w fun v w' => v = .bool true ∧ St w0 F w' L := by
  refine s40 ?_
  unfold m40 m40_0
  unfold m40_1
  refine callR (by kernel_rfl) (gnew_ret (parts := 2) (gen := 0) (next := 1) (sticky := false) hS) ?_
  intro v w hv
  rw [if_neg (by unfold newBad; omega)] at hv
  obtain ⟨b, X, rfl, hS⟩ := hv
  have hS : St w0 F w (grpL 103 b gx0 X ++ L) := hS
  refine valP_ok (extract_ok _ 0 rfl _) ?_
  refine valP_ok (extract_ok _ 1 rfl _) ?_
  unfold m40_2
  refine valP_ok (ne26 _ _ _ _ _) ?_
  refine cond_df (by decide) ?_
  first | refine valP_ok (eq59n _ _ _) ?_ | refine valP_ok (eq59s _ _ _ _) ?_
  first | refine pick_dt (by first | assumption | omega) ?_ | refine pick_df (by first | assumption | omega) ?_ | refine pick_t (by first | rfl | assumption) ?_ | refine pick_f (by first | rfl | assumption) ?_ | refine pick_dt rfl ?_ | refine pick_df (not_not_intro rfl) ?_
  unfold m40_10
  refine cond_f rfl ?_
  unfold m40_3
  refine callR (by kernel_rfl) (gjoin_ret (by omega) gx_ok0 hS) ?_
  rintro v w ⟨rfl, X1, hS⟩
  rw [gx_join1] at hS
  rw [show joinA gx0 1 = (1, 1, 0) from by kernel_rfl]
  refine valP_ok (extract_ok _ 0 rfl _) ?_
  refine valP_ok (extract_ok _ 1 rfl _) ?_
  refine valP_ok (extract_ok _ 2 rfl _) ?_
  unfold m40_4
  refine callR (by kernel_rfl) (gjoin_ret (by omega) gx_ok1 hS) ?_
  rintro v w ⟨rfl, X2, hS⟩
  rw [gx_join2] at hS
  rw [show joinA gx1 2 = (2, 2, 0) from by kernel_rfl]
  refine valP_ok (extract_ok _ 0 rfl _) ?_
  refine valP_ok (extract_ok _ 1 rfl _) ?_
  refine valP_ok (extract_ok _ 2 rfl _) ?_
  unfold m40_5
  refine callR (by kernel_rfl) (gowners_ret (by simp [gx2]) hS) ?_
  rintro v w ⟨A1, c1, rfl, hS⟩
  have hS : St w0 F w (grpL 103 b gx2 X2 ++ irow (.slice A1 [(1 : Int), 2].length c1) [1, 2] :: L) := hS.pick 4 [1, 2, 3, 0] (by simp) (by decide)
  unfold m40_6
  refine callR (by kernel_rfl) (gjoin_ret (by omega) gx_ok2 hS) ?_
  rintro v w ⟨rfl, X3, hS⟩
  rw [gx_join3] at hS
  rw [show joinA gx2 1 = (3, 3, 0) from by kernel_rfl]
  refine valP_ok (extract_ok _ 0 rfl _) ?_
  refine valP_ok (extract_ok _ 1 rfl _) ?_
  refine valP_ok (extract_ok _ 2 rfl _) ?_
  unfold m40_7
  refine callR (by kernel_rfl) (gowners_ret (by simp [gx3]) hS) ?_
  rintro v w ⟨A2, c2, rfl, hS⟩
  have hS : St w0 F w (irow (.slice A2 [(2 : Int), 3].length c2) [2, 3] :: (grpL 103 b gx3 X3 ++ irow (.slice A1 [(1 : Int), 2].length c1) [1, 2] :: L)) := hS
  unfold m40_8
  refine valP_ok (eq3 _ _ _ _ _) ?_
  refine cond_dt rfl ?_
  refine valP_ok (eq3 _ _ _ _ _) ?_
  first | refine pick_dt (by first | assumption | omega) ?_ | refine pick_df (by first | assumption | omega) ?_ | refine pick_t (by first | rfl | assumption) ?_ | refine pick_f (by first | rfl | assumption) ?_ | refine pick_dt rfl ?_ | refine pick_df (not_not_intro rfl) ?_
  refine cond_dt rfl ?_
  refine valP_ok (eq3 _ _ _ _ _) ?_
  first | refine pick_dt (by first | assumption | omega) ?_ | refine pick_df (by first | assumption | omega) ?_ | refine pick_t (by first | rfl | assumption) ?_ | refine pick_f (by first | rfl | assumption) ?_ | refine pick_dt rfl ?_ | refine pick_df (not_not_intro rfl) ?_
  refine cond_dt rfl ?_
  refine valP_ok (eq3 _ _ _ _ _) ?_
  first | refine pick_dt (by first | assumption | omega) ?_ | refine pick_df (by first | assumption | omega) ?_ | refine pick_t (by first | rfl | assumption) ?_ | refine pick_f (by first | rfl | assumption) ?_ | refine pick_dt rfl ?_ | refine pick_df (not_not_intro rfl) ?_
  refine cond_dt rfl ?_
  refine newslice_ok (bs28_2 rfl rfl _) hS ?_
  intro b62 w hS
  refine callR (by kernel_rfl) (same_ret (a := [1, 2]) (b := [1, 2]) (by simp) hS (Bes.of_row 5 rfl) (Bes.of_cells 0 rfl rfl)) ?_
  rintro v w ⟨rfl, hS⟩
  refine pick_dt rfl ?_
  refine cond_dt rfl ?_
  refine valP_ok (eq3 _ _ _ _ _) ?_
  first | refine pick_dt (by first | assumption | omega) ?_ | refine pick_df (by first | assumption | omega) ?_ | refine pick_t (by first | rfl | assumption) ?_ | refine pick_f (by first | rfl | assumption) ?_ | refine pick_dt rfl ?_ | refine pick_df (not_not_intro rfl) ?_
  refine cond_dt rfl ?_
  refine valP_ok (eq3 _ _ _ _ _) ?_
  first | refine pick_dt (by first | assumption | omega) ?_ | refine pick_df (by first | assumption | omega) ?_ | refine pick_t (by first | rfl | assumption) ?_ | refine pick_f (by first | rfl | assumption) ?_ | refine pick_dt rfl ?_ | refine pick_df (not_not_intro rfl) ?_
  refine cond_dt rfl ?_
  refine newslice_ok (bs28_2 rfl rfl _) hS ?_
  intro b75 w hS
  refine callR (by kernel_rfl) (same_ret (a := [2, 3]) (b := [2, 3]) (by simp) hS (Bes.of_row 2 rfl) (Bes.of_cells 0 rfl rfl)) ?_
  rintro v w ⟨rfl, hS⟩
  refine pick_dt rfl ?_
  refine cond_dt rfl ?_
  have hS : St w0 F w (grpL 103 b gx3 X3 ++ L) := hS.pick 7 [3, 4, 5] (by simp) (by decide)
  refine callR (by kernel_rfl) (gbeat_ret (T := 3) (by omega) gx_ok3 hS) ?_
  rintro v w ⟨rfl, hS⟩
  rw [show beatG gx3 2 2 = gx3 from by kernel_rfl] at hS
  rw [show beatA gx3 2 2 = 12 from by kernel_rfl]
  refine valP_ok (eq26 _ _ _ _ _) ?_
  refine pick_dt rfl ?_
  refine cond_dt rfl ?_
  refine callR (by kernel_rfl) (gbeat_ret (T := 3) (by omega) gx_ok3 hS) ?_
  rintro v w ⟨rfl, hS⟩
  rw [show beatA gx3 1 3 = 11 from by kernel_rfl]
  refine valP_ok (eq26 _ _ _ _ _) ?_
  refine pick_dt rfl ?_
  unfold m40_9
  exact ⟨rfl, hS.pick 3 [] (by simp) (by decide)⟩

end Go.Proofs.Ytjjmlopmemmobaa.M
