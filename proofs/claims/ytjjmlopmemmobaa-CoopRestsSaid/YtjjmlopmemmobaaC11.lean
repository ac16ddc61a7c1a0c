/- Chapter 35's example; deeds. -/
import Derived.Test.YtjjmlopmemmobaaC10
namespace Go.Proofs.Ytjjmlopmemmobaa.M
open Go.Proofs.Ytjjmlopmemmobaa.F Go.RowKit
set_option linter.unusedVariables false
set_option linter.unusedSimpArgs false
set_option maxRecDepth 100000
set_option maxHeartbeats 2000000
attribute [local irreducible] Res.cells Res.row Res.map Res.any World.cell? World.frozen? Instr.fieldAt Instr.loadAt Instr.storeAt Instr.indexAt Instr.lookup Instr.mapUpdate Instr.box Instr.build Instr.buildSlice Instr.extract Instr.alloc Instr.field Instr.index Instr.sliceAt Instr.makeSlice Instr.makeMap Instr.makeFunc binS Op.unary Sem.run
open Go.Proofs.Ytjjmlopmemmobaa.L Go.Shelf
theorem sortL_self {M : List Int} (h : M.Pairwise (· < ·)) : sortL M = M := sorted_unique _ _ (sortL_rise (h.imp fun h e => by omega)) h fun x => sortL_mem
def ex0 : CS := ⟨0, [], [0, 0, 0, 0], [0, 0, 0, 0]⟩
def ex1 : CS := ⟨1, [1], [1, 1, 1, 1], [1, 1, 1, 1]⟩
def ex2 : CS := ⟨2, [1, 2], [1, 1, 1, 1], [1, 1, 2, 2]⟩
def ex3 : CS := ⟨2, [1, 2], [1, 1, 2, 1], [1, 1, 2, 2]⟩
theorem ex_join1 : joinS ex0 [1] = (0, ex1) := by
  have h : joinS ex0 [1] = (0, turned { ex0 with M := sortL [1] }) := rfl
  have h2 : turned { ex0 with M := [1] } = ex1 := by kernel_rfl
  rw [h, sortL_self (by simp), h2]
theorem ex_join2 : joinS ex1 [2] = (0, ex2) := by
  have h : joinS ex1 [2] = (0, turned { ex1 with M := sortL [1, 2] }) := rfl
  have h2 : turned { ex1 with M := [1, 2] } = ex2 := by kernel_rfl
  rw [h, sortL_self (by simp), h2]
theorem ex_pre0 : CPre ex0 := ⟨by simp [ex0], by simp [ex0], by simp [ex0], by simp [ex0], by simp [ex0], by simp [ex0], by simp [ex0], by simp [ex0]⟩
theorem ex_pre1 : CPre ex1 := ⟨by simp [ex1], by simp [ex1], by simp [ex1], by simp [ex1], by simp [ex1], by simp [ex1], by simp [ex1], by simp [ex1]⟩
theorem ex_pre2 : CPre ex2 := ⟨by simp [ex2], by simp [ex2], by simp [ex2], by simp [ex2], by simp [ex2], by simp [ex2], by simp [ex2], by simp [ex2]⟩
theorem cawake_ret {w0 w : World} {F : List Nat} {L : List Res} (hS : St w0 F w L) : Ret Try.prog 22 #[] w fun v w' => v = .bool true ∧ St w0 F w' L := by
  refine s22 ?_
  unfold m22 m22_0
  unfold m22_1
  refine callR (by kernel_rfl) (new_ret (parts := 4) (by omega) (by omega) hS) ?_
  intro v w hv
  rw [if_pos (by omega)] at hv
  obtain ⟨b, X, rfl, hS⟩ := hv
  have hS : St w0 F w (coopL 94 b ex0 X ++ L) := hS
  refine valP_ok (extract_ok _ 0 rfl _) ?_
  refine valP_ok (extract_ok _ 1 rfl _) ?_
  unfold m22_2
  refine valP_ok (ne26 _ _ _ _ _) ?_
  refine cond_df (by decide) ?_
  first | refine valP_ok (eq23n _ _ _) ?_ | refine valP_ok (eq23s _ _ _ _) ?_
  first | refine pick_dt (by first | assumption | omega) ?_ | refine pick_df (by first | assumption | omega) ?_ | refine pick_t (by first | rfl | assumption) ?_ | refine pick_f (by first | rfl | assumption) ?_ | refine pick_dt rfl ?_ | refine pick_df (not_not_intro rfl) ?_
  unfold m22_11
  refine cond_f rfl ?_
  unfold m22_3
  refine newslice_ok (bs28_1 rfl _) hS ?_
  intro b19 w hS
  have hS := hS.pick 5 [1, 2, 3, 4, 0] (by simp) (by decide)
  refine callR (by kernel_rfl) (join_ret (s := ex0) (l := [1]) (L := Res.cells b19 3 [.int .i64 1] :: L) ex_pre0 (by simp) hS (Bes.of_cells 4 rfl rfl)) ?_
  rintro v w ⟨rfl, X1, hS⟩
  rw [ex_join1] at hS
  unfold m22_4
  refine callR (by kernel_rfl) (have_clone (by simp [ex1]) hS) ?_
  rintro v w ⟨A1, c1, rfl, hS⟩
  unfold m22_5
  refine newslice_ok (bs28_1 rfl _) hS ?_
  intro b24 w hS
  have hS := hS.pick 6 [2, 3, 4, 5, 0, 1] (by simp) (by decide)
  refine callR (by kernel_rfl) (join_ret (s := ex1) (l := [2]) (L := Res.cells b24 3 [.int .i64 2] :: irow (.slice A1 4 c1) [1, 1, 1, 1] :: Res.cells b19 3 [.int .i64 1] :: L) ex_pre1 (by simp) hS (Bes.of_cells 4 rfl rfl)) ?_
  rintro v w ⟨rfl, X2, hS⟩
  rw [ex_join2] at hS
  unfold m22_6
  refine callR (by kernel_rfl) (have_clone (by simp [ex2]) hS) ?_
  rintro v w ⟨A2, c2, rfl, hS⟩
  unfold m22_7
  have hS := hS.pick 5 [1, 2, 3, 4, 0] (by simp) (by decide)
  refine callR (by kernel_rfl) (revoke_ret (s := ex2) (L := irow (.slice A2 4 c2) [1, 1, 1, 1] :: Res.cells b24 3 [.int .i64 2] :: irow (.slice A1 4 c1) [1, 1, 1, 1] :: Res.cells b19 3 [.int .i64 1] :: L) 1 ex_pre2 hS) ?_
  rintro v w ⟨A3, c3, rfl, hS⟩
  have hrev : revL ex2 1 = [2, 3] := by kernel_rfl
  rw [hrev] at hS ⊢
  refine valP_ok (extract_ok _ 0 rfl _) ?_
  refine valP_ok (extract_ok _ 1 rfl _) ?_
  unfold m22_8
  have hS := hS.pick 5 [1, 2, 3, 4, 0] (by simp) (by decide)
  refine callR (by kernel_rfl) (done_ret (s := ex2) (L := irow (.slice A3 2 c3) [2, 3] :: irow (.slice A2 4 c2) [1, 1, 1, 1] :: Res.cells b24 3 [.int .i64 2] :: irow (.slice A1 4 c1) [1, 1, 1, 1] :: Res.cells b19 3 [.int .i64 1] :: L) 1 2 ex_pre2 hS) ?_
  rintro v w ⟨rfl, X3, hS⟩
  have hdone : doneS ex2 1 2 = (0, ex3) := by kernel_rfl
  rw [hdone] at hS ⊢
  unfold m22_9
  refine newslice_ok (bs28_4 rfl rfl rfl rfl _) hS ?_
  intro b36 w hS
  refine callR (by kernel_rfl) (same_ret (a := [1, 1, 1, 1]) (b := [1, 1, 1, 1]) (by simp) hS (Bes.of_row 8 rfl) (Bes.of_cells 0 rfl rfl)) ?_
  rintro v w ⟨rfl, hS⟩
  refine cond_dt rfl ?_
  refine newslice_ok (bs28_4 rfl rfl rfl rfl _) hS ?_
  intro b40 w hS
  refine callR (by kernel_rfl) (same_ret (a := [1, 1, 1, 1]) (b := [1, 1, 1, 1]) (by simp) hS (Bes.of_row 7 rfl) (Bes.of_cells 0 rfl rfl)) ?_
  rintro v w ⟨rfl, hS⟩
  refine pick_dt rfl ?_
  refine cond_dt rfl ?_
  refine newslice_ok (bs28_2 rfl rfl _) hS ?_
  intro b45 w hS
  refine callR (by kernel_rfl) (same_ret (a := [2, 3]) (b := [2, 3]) (by simp) hS (Bes.of_row 7 rfl) (Bes.of_cells 0 rfl rfl)) ?_
  rintro v w ⟨rfl, hS⟩
  refine pick_dt rfl ?_
  refine cond_dt rfl ?_
  refine valP_ok (eq26 _ _ _ _ _) ?_
  first | refine pick_dt (by first | assumption | omega) ?_ | refine pick_df (by first | assumption | omega) ?_ | refine pick_t (by first | rfl | assumption) ?_ | refine pick_f (by first | rfl | assumption) ?_ | refine pick_dt rfl ?_ | refine pick_df (not_not_intro rfl) ?_
  refine cond_dt rfl ?_
  refine valP_ok (eq26 _ _ _ _ _) ?_
  first | refine pick_dt (by first | assumption | omega) ?_ | refine pick_df (by first | assumption | omega) ?_ | refine pick_t (by first | rfl | assumption) ?_ | refine pick_f (by first | rfl | assumption) ?_ | refine pick_dt rfl ?_ | refine pick_df (not_not_intro rfl) ?_
  refine cond_dt rfl ?_
  have hS := hS.pick 7 [3, 4, 5, 6, 0, 1, 2] (by simp) (by decide)
  refine callR (by kernel_rfl) (have_clone (s := ex3) (by simp [ex3]) (L := Res.cells b45 3 [.int .i64 2, .int .i64 3] :: Res.cells b40 3 [.int .i64 1, .int .i64 1, .int .i64 1, .int .i64 1] :: Res.cells b36 3 [.int .i64 1, .int .i64 1, .int .i64 1, .int .i64 1] :: _) hS) ?_
  rintro v w ⟨A4, c4, rfl, hS⟩
  refine newslice_ok (bs28_4 rfl rfl rfl rfl _) hS ?_
  intro b59 w hS
  refine callR (by kernel_rfl) (same_ret (a := [1, 1, 2, 1]) (b := [1, 1, 2, 1]) (by simp) hS (Bes.of_row 1 rfl) (Bes.of_cells 0 rfl rfl)) ?_
  rintro v w ⟨rfl, hS⟩
  refine pick_dt rfl ?_
  unfold m22_10
  exact ⟨rfl, hS.pick 14 [] (by simp) (by decide)⟩

end Go.Proofs.Ytjjmlopmemmobaa.M
