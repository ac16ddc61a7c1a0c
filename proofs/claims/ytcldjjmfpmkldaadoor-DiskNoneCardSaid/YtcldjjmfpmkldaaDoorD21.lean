/- DiskNone: a disk that is none does nothing. -/
import Derived.Test.YtcldjjmfpmkldaaDoorD12
import Derived.Test.YtcldjjmfpmkldaaDoorFwL
import Derived.Test.YtcldjjmfpmkldaaDoorFwW
import Derived.Test.YtcldjjmfpmkldaaDoorFwB
import Derived.Test.YtcldjjmfpmkldaaDoorFwM
import Derived.Test.YtcldjjmfpmkldaaDoorMtrim0
import Derived.Test.YtcldjjmfpmkldaaDoorMdisk0
import Derived.Test.YtcldjjmfpmkldaaDoorMmore0
import Derived.Test.YtcldjjmfpmkldaaDoorMlaw0
import Derived.Test.YtcldjjmfpmkldaaDoorMall0
import Derived.Test.YtcldjjmfpmkldaaDoorMall1
namespace Go.Proofs.YtcldjjmfpmkldaaDoor.M
open Go.Proofs.YtcldjjmfpmkldaaDoor.F Go.RowKit
set_option linter.unusedVariables false
set_option linter.unusedSimpArgs false
set_option maxRecDepth 100000
set_option maxHeartbeats 2000000
attribute [local irreducible] Res.cells Res.row Res.map Res.any World.cell? World.frozen? Instr.fieldAt Instr.loadAt Instr.storeAt Instr.indexAt Instr.lookup Instr.mapUpdate Instr.box Instr.build Instr.buildSlice Instr.extract Instr.alloc Instr.field Instr.index Instr.sliceAt Instr.makeSlice Instr.makeMap Instr.makeFunc binS Op.unary Sem.run
section
variable {w0 w : World} {F : List Nat} {L : List Res} {s t : ByteArray} {n : Int}
theorem crash_nil {x : Value} (hS : St w0 F w L) : Ret Tryd.prog 14 #[.pointer none, x] w fun _ w' => St w0 F w' L := by
  refine s14 _ _ ?_
  unfold m14
  unfold m14_0
  first | refine valP_ok (eq23n _ _ _) ?_ | refine valP_ok (eq23s _ _ _ _) ?_
  unfold m14_15
  refine cond_t rfl ?_
  exact hS
theorem fuse_nil {x : Value} (hS : St w0 F w L) : Ret Tryd.prog 11 #[.pointer none, x] w fun _ w' => St w0 F w' L := by
  refine s11 _ _ ?_
  unfold m11
  unfold m11_0
  first | refine valP_ok (ne23n _ _ _) ?_ | refine valP_ok (ne23s _ _ _ _) ?_
  unfold m11_1
  refine cond_f rfl ?_
  exact hS
theorem read_nil (hS : St w0 F w L) : Ret Tryd.prog 15 #[.pointer none, .string s] w fun v w' => v = .tuple #[.string ⟨#[]⟩, .int .i64 1] ∧ St w0 F w' L := by
  refine s15 _ _ ?_
  unfold m15
  unfold m15_0
  unfold m15_1
  refine newslice_ok (bs22_1 rfl _) hS ?_
  intro b10 w hS
  refine callR (by kernel_rfl) (ready_nil (xs := [s]) (by simp) (by simp) (Bes.of_cells 0 rfl rfl) hS) ?_
  rintro _ w ⟨rfl, hS⟩
  have hS := hS.tail
  unfold m15_8
  refine valP_ok (ne24 _ _ _ _ _) ?_
  unfold m15_9
  refine cond_dt (by decide) ?_
  unfold m15_10
  exact ⟨rfl, hS⟩
theorem append_nil_ (hS : St w0 F w L) : Ret Tryd.prog 12 #[.pointer none, .string s, .string t] w fun v w' => v = .int .i64 1 ∧ St w0 F w' L := by
  refine s12 _ _ _ ?_
  unfold m12
  unfold m12_0
  unfold m12_1
  refine newslice_ok (bs22_1 rfl _) hS ?_
  intro b12 w hS
  refine callR (by kernel_rfl) (ready_nil (xs := [s]) (by simp) (by simp) (Bes.of_cells 0 rfl rfl) hS) ?_
  rintro _ w ⟨rfl, hS⟩
  have hS := hS.tail
  unfold m12_19
  refine valP_ok (ne24 _ _ _ _ _) ?_
  unfold m12_20
  refine cond_dt (by decide) ?_
  unfold m12_21
  exact ⟨rfl, hS⟩
theorem work_nil {x : Value} (hS : St w0 F w L) : Ret Tryd.prog 37 #[.pointer none, .string s, x] w fun v w' => v = .int .i64 1 ∧ St w0 F w' L := by
  refine s37 _ _ _ ?_
  unfold m37
  unfold m37_0
  unfold m37_1
  refine newslice_ok (bs22_1 rfl _) hS ?_
  intro b11 w hS
  refine callR (by kernel_rfl) (ready_nil (xs := [s]) (by simp) (by simp) (Bes.of_cells 0 rfl rfl) hS) ?_
  rintro _ w ⟨rfl, hS⟩
  have hS := hS.tail
  unfold m37_10
  refine valP_ok (ne24 _ _ _ _ _) ?_
  unfold m37_11
  refine cond_dt (by decide) ?_
  unfold m37_12
  exact ⟨rfl, hS⟩
theorem sync_nil (hS : St w0 F w L) : Ret Tryd.prog 28 #[.pointer none, .string s] w fun v w' => v = .int .i64 1 ∧ St w0 F w' L := by
  refine s28 _ _ ?_
  unfold m28 m28_0 m28_1
  refine callR (by kernel_rfl) (work_nil hS) ?_
  rintro _ w ⟨rfl, hS⟩
  unfold m28_2
  exact ⟨rfl, hS⟩
theorem trunc_nil (hS : St w0 F w L) : Ret Tryd.prog 29 #[.pointer none, .string s, .int .i64 n] w fun v w' => v = .int .i64 1 ∧ St w0 F w' L := by
  refine s29 _ _ _ ?_
  unfold m29
  unfold m29_0
  refine new_ok (bx23 rfl _) hS ?_
  intro b3 w hS
  refine new_ok (bx3 rfl _) hS ?_
  intro b5 w hS
  unfold m29_1
  first | refine valP_ok (ld23 (hS.cell 0 rfl rfl)) ?_ | refine valP_ok (ld23 (hS.cell 1 rfl rfl)) ?_ | refine valP_ok (ld23 (hS.cell 2 rfl rfl)) ?_ | refine valP_ok (ld23 (hS.cell 3 rfl rfl)) ?_ | refine valP_ok (ld23 (hS.cell 4 rfl rfl)) ?_ | refine valP_ok (ld23 (hS.cell 5 rfl rfl)) ?_ | refine valP_ok (ld23 (hS.cell 6 rfl rfl)) ?_ | refine valP_ok (ld23 (hS.cell 7 rfl rfl)) ?_ | refine valP_ok (ld23 (by assumption)) ?_
  refine newslice_ok (bs22_1 rfl _) hS ?_
  intro b11 w hS
  refine callR (by kernel_rfl) (ready_nil (xs := [s]) (by simp) (by simp) (Bes.of_cells 0 rfl rfl) hS) ?_
  rintro _ w ⟨rfl, hS⟩
  have hS := hS.tail
  unfold m29_8
  refine valP_ok (ne24 _ _ _ _ _) ?_
  unfold m29_9
  refine cond_dt (by decide) ?_
  unfold m29_10
  exact ⟨rfl, hS.tail.tail⟩
theorem rename_nil (hS : St w0 F w L) : Ret Tryd.prog 22 #[.pointer none, .string s, .string t] w fun v w' => v = .int .i64 1 ∧ St w0 F w' L := by
  refine s22 _ _ _ ?_
  unfold m22
  unfold m22_0
  refine new_ok (bx23 rfl _) hS ?_
  intro b3 w hS
  refine new_ok (bx9 rfl _) hS ?_
  intro b4 w hS
  refine new_ok (bx9 rfl _) hS ?_
  intro b5 w hS
  unfold m22_1
  first | refine valP_ok (ld23 (hS.cell 0 rfl rfl)) ?_ | refine valP_ok (ld23 (hS.cell 1 rfl rfl)) ?_ | refine valP_ok (ld23 (hS.cell 2 rfl rfl)) ?_ | refine valP_ok (ld23 (hS.cell 3 rfl rfl)) ?_ | refine valP_ok (ld23 (hS.cell 4 rfl rfl)) ?_ | refine valP_ok (ld23 (hS.cell 5 rfl rfl)) ?_ | refine valP_ok (ld23 (hS.cell 6 rfl rfl)) ?_ | refine valP_ok (ld23 (hS.cell 7 rfl rfl)) ?_ | refine valP_ok (ld23 (by assumption)) ?_
  first | refine valP_ok (ld9 (hS.cell 0 rfl rfl)) ?_ | refine valP_ok (ld9 (hS.cell 1 rfl rfl)) ?_ | refine valP_ok (ld9 (hS.cell 2 rfl rfl)) ?_ | refine valP_ok (ld9 (hS.cell 3 rfl rfl)) ?_ | refine valP_ok (ld9 (hS.cell 4 rfl rfl)) ?_ | refine valP_ok (ld9 (hS.cell 5 rfl rfl)) ?_ | refine valP_ok (ld9 (hS.cell 6 rfl rfl)) ?_ | refine valP_ok (ld9 (hS.cell 7 rfl rfl)) ?_ | refine valP_ok (ld9 (by assumption)) ?_
  first | refine valP_ok (ld9 (hS.cell 0 rfl rfl)) ?_ | refine valP_ok (ld9 (hS.cell 1 rfl rfl)) ?_ | refine valP_ok (ld9 (hS.cell 2 rfl rfl)) ?_ | refine valP_ok (ld9 (hS.cell 3 rfl rfl)) ?_ | refine valP_ok (ld9 (hS.cell 4 rfl rfl)) ?_ | refine valP_ok (ld9 (hS.cell 5 rfl rfl)) ?_ | refine valP_ok (ld9 (hS.cell 6 rfl rfl)) ?_ | refine valP_ok (ld9 (hS.cell 7 rfl rfl)) ?_ | refine valP_ok (ld9 (by assumption)) ?_
  refine newslice_ok (bs22_2 rfl rfl _) hS ?_
  intro b11 w hS
  refine callR (by kernel_rfl) (ready_nil (xs := [s, t]) (by simp) (by simp) (Bes.of_cells 0 rfl rfl) hS) ?_
  rintro _ w ⟨rfl, hS⟩
  have hS := hS.tail
  unfold m22_4
  refine valP_ok (ne24 _ _ _ _ _) ?_
  unfold m22_5
  refine cond_dt (by decide) ?_
  unfold m22_6
  exact ⟨rfl, hS.tail.tail.tail⟩
theorem remove_nil (hS : St w0 F w L) : Ret Tryd.prog 30 #[.pointer none, .string s] w fun v w' => v = .int .i64 1 ∧ St w0 F w' L := by
  refine s30 _ _ ?_
  unfold m30
  unfold m30_0
  refine new_ok (bx23 rfl _) hS ?_
  intro b2 w hS
  refine new_ok (bx9 rfl _) hS ?_
  intro b3 w hS
  unfold m30_1
  first | refine valP_ok (ld23 (hS.cell 0 rfl rfl)) ?_ | refine valP_ok (ld23 (hS.cell 1 rfl rfl)) ?_ | refine valP_ok (ld23 (hS.cell 2 rfl rfl)) ?_ | refine valP_ok (ld23 (hS.cell 3 rfl rfl)) ?_ | refine valP_ok (ld23 (hS.cell 4 rfl rfl)) ?_ | refine valP_ok (ld23 (hS.cell 5 rfl rfl)) ?_ | refine valP_ok (ld23 (hS.cell 6 rfl rfl)) ?_ | refine valP_ok (ld23 (hS.cell 7 rfl rfl)) ?_ | refine valP_ok (ld23 (by assumption)) ?_
  first | refine valP_ok (ld9 (hS.cell 0 rfl rfl)) ?_ | refine valP_ok (ld9 (hS.cell 1 rfl rfl)) ?_ | refine valP_ok (ld9 (hS.cell 2 rfl rfl)) ?_ | refine valP_ok (ld9 (hS.cell 3 rfl rfl)) ?_ | refine valP_ok (ld9 (hS.cell 4 rfl rfl)) ?_ | refine valP_ok (ld9 (hS.cell 5 rfl rfl)) ?_ | refine valP_ok (ld9 (hS.cell 6 rfl rfl)) ?_ | refine valP_ok (ld9 (hS.cell 7 rfl rfl)) ?_ | refine valP_ok (ld9 (by assumption)) ?_
  refine valP_ok (mf41 _ _ _) ?_
  refine callR (by kernel_rfl) (work_nil hS) ?_
  rintro _ w ⟨rfl, hS⟩
  unfold m30_2
  exact ⟨rfl, hS.tail.tail⟩
theorem files_nil (hS : St w0 F w L) : Ret Tryd.prog 20 #[.pointer none] w fun v w' => v = .slice none 0 0 ∧ St w0 F w' L := by
  refine s20 _ ?_
  unfold m20 m20_0 m20_1
  unfold m20_2
  first | refine valP_ok (eq23n _ _ _) ?_ | refine valP_ok (eq23s _ _ _ _) ?_
  unfold m20_13
  refine cond_t rfl ?_
  unfold m20_14
  exact ⟨rfl, hS⟩
theorem free_nil (hS : St w0 F w L) : Ret Tryd.prog 19 #[.pointer none] w fun v w' => v = .int .i64 0 ∧ St w0 F w' L := by
  refine s19 _ ?_
  unfold m19
  unfold m19_0
  unfold m19_1
  first | refine valP_ok (eq23n _ _ _) ?_ | refine valP_ok (eq23s _ _ _ _) ?_
  unfold m19_4
  refine cond_t rfl ?_
  unfold m19_5
  exact ⟨rfl, hS⟩
theorem off_nil (hS : St w0 F w L) : Ret Tryd.prog 13 #[.pointer none] w fun v w' => v = .bool true ∧ St w0 F w' L := by
  refine s13 _ ?_
  unfold m13
  unfold m13_0
  unfold m13_1
  first | refine valP_ok (eq23n _ _ _) ?_ | refine valP_ok (eq23s _ _ _ _) ?_
  refine cond_t rfl ?_
  first | refine pick_dt (by first | assumption | omega) ?_ | refine pick_df (by first | assumption | omega) ?_ | refine pick_t (by first | rfl | assumption) ?_ | refine pick_f (by first | rfl | assumption) ?_ | refine pick_dt rfl ?_ | refine pick_df (not_not_intro rfl) ?_
  unfold m13_2
  exact ⟨rfl, hS⟩
theorem copy_nil (hS : St w0 F w L) : Ret Tryd.prog 25 #[.pointer none] w fun v w' => v = .pointer none ∧ St w0 F w' L := by
  refine s25 _ ?_
  unfold m25
  unfold m25_0
  unfold m25_1
  first | refine valP_ok (eq23n _ _ _) ?_ | refine valP_ok (eq23s _ _ _ _) ?_
  unfold m25_12
  refine cond_t rfl ?_
  unfold m25_13
  exact ⟨rfl, hS⟩
theorem dnone_ret : Ret Tryd.prog 9 #[.string s, .string t, .int .i64 n] w0 fun v w' => v = .bool true ∧ Below w0.heap.size w0 w' := by
  have hS := St.start w0
  refine s9 _ _ _ ?_
  unfold m9 m9_0 m9_1
  unfold m9_2
  refine newslice_ok (bs46_1 rfl _) hS ?_
  intro b12 w hS
  refine callR (by kernel_rfl) (crash_nil hS) ?_
  intro _ w hS
  unfold m9_3
  refine callR (by kernel_rfl) (fuse_nil hS) ?_
  intro _ w hS
  unfold m9_4
  refine callR (by kernel_rfl) (read_nil hS) ?_
  rintro _ w ⟨rfl, hS⟩
  refine valP_ok (extract_ok _ 0 rfl _) ?_
  refine valP_ok (extract_ok _ 1 rfl _) ?_
  show m9_5 _ (.string s) (.string t) (.int .i64 n) (.pointer none) (.string ⟨#[]⟩) (.int .i64 1) w
  unfold m9_5
  refine callR (by kernel_rfl) (append_nil_ hS) ?_
  rintro _ w ⟨rfl, hS⟩
  refine valP_ok (eq24 _ _ _ _ _) ?_
  refine cond_dt rfl ?_
  refine callR (by kernel_rfl) (sync_nil hS) ?_
  rintro _ w ⟨rfl, hS⟩
  refine valP_ok (eq24 _ _ _ _ _) ?_
  first | refine pick_dt (by first | assumption | omega) ?_ | refine pick_df (by first | assumption | omega) ?_ | refine pick_t (by first | rfl | assumption) ?_ | refine pick_f (by first | rfl | assumption) ?_ | refine pick_dt rfl ?_ | refine pick_df (not_not_intro rfl) ?_
  refine cond_dt rfl ?_
  refine callR (by kernel_rfl) (trunc_nil hS) ?_
  rintro _ w ⟨rfl, hS⟩
  refine valP_ok (eq24 _ _ _ _ _) ?_
  first | refine pick_dt (by first | assumption | omega) ?_ | refine pick_df (by first | assumption | omega) ?_ | refine pick_t (by first | rfl | assumption) ?_ | refine pick_f (by first | rfl | assumption) ?_ | refine pick_dt rfl ?_ | refine pick_df (not_not_intro rfl) ?_
  refine cond_dt rfl ?_
  refine callR (by kernel_rfl) (rename_nil hS) ?_
  rintro _ w ⟨rfl, hS⟩
  refine valP_ok (eq24 _ _ _ _ _) ?_
  first | refine pick_dt (by first | assumption | omega) ?_ | refine pick_df (by first | assumption | omega) ?_ | refine pick_t (by first | rfl | assumption) ?_ | refine pick_f (by first | rfl | assumption) ?_ | refine pick_dt rfl ?_ | refine pick_df (not_not_intro rfl) ?_
  refine cond_dt rfl ?_
  refine callR (by kernel_rfl) (remove_nil hS) ?_
  rintro _ w ⟨rfl, hS⟩
  refine valP_ok (eq24 _ _ _ _ _) ?_
  first | refine pick_dt (by first | assumption | omega) ?_ | refine pick_df (by first | assumption | omega) ?_ | refine pick_t (by first | rfl | assumption) ?_ | refine pick_f (by first | rfl | assumption) ?_ | refine pick_dt rfl ?_ | refine pick_df (not_not_intro rfl) ?_
  refine cond_dt rfl ?_
  refine valP_ok (eq9 _ _ _ _ _) ?_
  first | refine pick_dt (by first | assumption | omega) ?_ | refine pick_df (by first | assumption | omega) ?_ | refine pick_t (by first | rfl | assumption) ?_ | refine pick_f (by first | rfl | assumption) ?_ | refine pick_dt rfl ?_ | refine pick_df (not_not_intro rfl) ?_
  refine cond_dt rfl ?_
  refine valP_ok (eq24 _ _ _ _ _) ?_
  first | refine pick_dt (by first | assumption | omega) ?_ | refine pick_df (by first | assumption | omega) ?_ | refine pick_t (by first | rfl | assumption) ?_ | refine pick_f (by first | rfl | assumption) ?_ | refine pick_dt rfl ?_ | refine pick_df (not_not_intro rfl) ?_
  refine cond_dt rfl ?_
  refine callR (by kernel_rfl) (files_nil hS) ?_
  rintro _ w ⟨rfl, hS⟩
  refine builtin_ok (len38 _) ?_
  refine valP_ok (eq3 _ _ _ _ _) ?_
  first | refine pick_dt (by first | assumption | omega) ?_ | refine pick_df (by first | assumption | omega) ?_ | refine pick_t (by first | rfl | assumption) ?_ | refine pick_f (by first | rfl | assumption) ?_ | refine pick_dt rfl ?_ | refine pick_df (not_not_intro rfl) ?_
  refine cond_dt rfl ?_
  refine callR (by kernel_rfl) (free_nil hS) ?_
  rintro _ w ⟨rfl, hS⟩
  refine valP_ok (eq3 _ _ _ _ _) ?_
  first | refine pick_dt (by first | assumption | omega) ?_ | refine pick_df (by first | assumption | omega) ?_ | refine pick_t (by first | rfl | assumption) ?_ | refine pick_f (by first | rfl | assumption) ?_ | refine pick_dt rfl ?_ | refine pick_df (not_not_intro rfl) ?_
  refine cond_dt rfl ?_
  refine callR (by kernel_rfl) (off_nil hS) ?_
  rintro _ w ⟨rfl, hS⟩
  first | refine pick_dt (by first | assumption | omega) ?_ | refine pick_df (by first | assumption | omega) ?_ | refine pick_t (by first | rfl | assumption) ?_ | refine pick_f (by first | rfl | assumption) ?_ | refine pick_dt rfl ?_ | refine pick_df (not_not_intro rfl) ?_
  refine cond_t rfl ?_
  refine callR (by kernel_rfl) (copy_nil hS) ?_
  rintro _ w ⟨rfl, hS⟩
  first | refine valP_ok (eq23n _ _ _) ?_ | refine valP_ok (eq23s _ _ _ _) ?_
  first | refine pick_dt (by first | assumption | omega) ?_ | refine pick_df (by first | assumption | omega) ?_ | refine pick_t (by first | rfl | assumption) ?_ | refine pick_f (by first | rfl | assumption) ?_ | refine pick_dt rfl ?_ | refine pick_df (not_not_intro rfl) ?_
  refine cond_t rfl ?_
  refine callR (by kernel_rfl) (awake_ret hS) ?_
  rintro _ w ⟨rfl, hS⟩
  first | refine pick_dt (by first | assumption | omega) ?_ | refine pick_df (by first | assumption | omega) ?_ | refine pick_t (by first | rfl | assumption) ?_ | refine pick_f (by first | rfl | assumption) ?_ | refine pick_dt rfl ?_ | refine pick_df (not_not_intro rfl) ?_
  unfold m9_6
  exact ⟨rfl, hS.below⟩
end

end Go.Proofs.YtcldjjmfpmkldaaDoor.M
