/- A group that is none has nobody. -/
import Derived.Test.YtjjmlopmemmobaaG12
import Derived.Test.YtjjmlopmemmobaaMgf0
namespace Go.Proofs.Ytjjmlopmemmobaa.M
open Go.Proofs.Ytjjmlopmemmobaa.F Go.RowKit
set_option linter.unusedVariables false
set_option linter.unusedSimpArgs false
set_option maxRecDepth 100000
set_option maxHeartbeats 2000000
attribute [local irreducible] Res.cells Res.row Res.map Res.any World.cell? World.frozen? Instr.fieldAt Instr.loadAt Instr.storeAt Instr.indexAt Instr.lookup Instr.mapUpdate Instr.box Instr.build Instr.buildSlice Instr.extract Instr.alloc Instr.field Instr.index Instr.sliceAt Instr.makeSlice Instr.makeMap Instr.makeFunc binS Op.unary Sem.run
open Go.Proofs.Ytjjmlopmemmobaa.L Go.Shelf
theorem nfind_ret (id : Int) (w : World) : Ret Try.prog 70 #[.pointer none, .int .i64 id] w fun v w' => v = .pointer none ∧ w' = w := by
  refine s70 _ _ ?_
  unfold m70
  unfold m70_0
  unfold m70_1
  first | refine valP_ok (ne59n _ _ _) ?_ | refine valP_ok (ne59s _ _ _ _) ?_
  unfold m70_4
  refine cond_f rfl ?_
  unfold m70_2 m70_3
  exact ⟨rfl, rfl⟩
theorem njoin_ret {w0 w : World} {F : List Nat} {L : List Res} (hS : St w0 F w L) (a : Int) : Ret Try.prog 54 #[.pointer none, .int .i64 a] w fun v w' => v = .tuple #[.int .i64 0, .int .i64 0, .int .i64 1] ∧ St w0 F w' L := by
  refine s54 _ _ ?_
  unfold m54
  unfold m54_0
  refine new_ok (bx3 rfl _) hS ?_
  intro b3 w hS
  unfold m54_1
  first | refine valP_ok (eq59n _ _ _) ?_ | refine valP_ok (eq59s _ _ _ _) ?_
  refine cond_t rfl ?_
  first | refine pick_dt (by first | assumption | omega) ?_ | refine pick_df (by first | assumption | omega) ?_ | refine pick_t (by first | rfl | assumption) ?_ | refine pick_f (by first | rfl | assumption) ?_ | refine pick_dt rfl ?_ | refine pick_df (not_not_intro rfl) ?_
  refine cond_t rfl ?_
  first | refine pick_dt (by first | assumption | omega) ?_ | refine pick_df (by first | assumption | omega) ?_ | refine pick_t (by first | rfl | assumption) ?_ | refine pick_f (by first | rfl | assumption) ?_ | refine pick_dt rfl ?_ | refine pick_df (not_not_intro rfl) ?_
  unfold m54_9
  refine cond_t rfl ?_
  unfold m54_10
  exact ⟨rfl, hS.tail⟩
theorem nsync_ret (id : Int) (w : World) : Ret Try.prog 41 #[.pointer none, .int .i64 id] w fun v w' => v = .tuple #[.int .i64 0, .slice none 0 0, .int .i64 11] ∧ w' = w := by
  refine s41 _ _ ?_
  unfold m41
  unfold m41_0
  unfold m41_1
  refine callR (by kernel_rfl) (nfind_ret id w) ?_
  rintro v w ⟨rfl, rfl⟩
  unfold m41_2
  first | refine valP_ok (eq105n _ _ _) ?_ | refine valP_ok (eq105s _ _ _ _) ?_
  unfold m41_15
  refine cond_t rfl ?_
  unfold m41_16
  exact ⟨rfl, rfl⟩
theorem nbeat_ret (id gen : Int) (w : World) : Ret Try.prog 48 #[.pointer none, .int .i64 id, .int .i64 gen] w fun v w' => v = .int .i64 11 ∧ w' = w := by
  refine s48 _ _ _ ?_
  unfold m48
  unfold m48_0
  unfold m48_1
  refine callR (by kernel_rfl) (nfind_ret id w) ?_
  rintro v w ⟨rfl, rfl⟩
  unfold m48_2
  first | refine valP_ok (eq105n _ _ _) ?_ | refine valP_ok (eq105s _ _ _ _) ?_
  unfold m48_6
  refine cond_t rfl ?_
  unfold m48_7
  exact ⟨rfl, rfl⟩
theorem nleave_ret {w0 w : World} {F : List Nat} {L : List Res} (hS : St w0 F w L) (id : Int) : Ret Try.prog 49 #[.pointer none, .int .i64 id] w fun v w' => v = .int .i64 11 ∧ St w0 F w' L := by
  refine s49 _ _ ?_
  unfold m49
  unfold m49_0
  refine new_ok (bx3 rfl _) hS ?_
  intro b3 w hS
  unfold m49_1
  first | refine valP_ok (ld3 (hS.cell 0 rfl rfl)) ?_ | refine valP_ok (ld3 (hS.cell 1 rfl rfl)) ?_ | refine valP_ok (ld3 (hS.cell 2 rfl rfl)) ?_ | refine valP_ok (ld3 (hS.cell 3 rfl rfl)) ?_ | refine valP_ok (ld3 (hS.cell 4 rfl rfl)) ?_ | refine valP_ok (ld3 (by assumption)) ?_
  refine callR (by kernel_rfl) (nfind_ret id _) ?_
  rintro v w ⟨rfl, rfl⟩
  first | refine valP_ok (eq105n _ _ _) ?_ | refine valP_ok (eq105s _ _ _ _) ?_
  unfold m49_6
  refine cond_t rfl ?_
  unfold m49_7
  exact ⟨rfl, hS.tail⟩
theorem ntick_ret {w0 w : World} {F : List Nat} {L : List Res} (hS : St w0 F w L) : Ret Try.prog 42 #[.pointer none] w fun v w' => v = .bool false ∧ St w0 F w' L := by
  refine s42 _ ?_
  unfold m42
  unfold m42_0
  refine new_ok (bx59 rfl _) hS ?_
  intro b1 w hS
  unfold m42_1
  first | refine valP_ok (ld59 (hS.cell 0 rfl rfl)) ?_ | refine valP_ok (ld59 (hS.cell 1 rfl rfl)) ?_ | refine valP_ok (ld59 (hS.cell 2 rfl rfl)) ?_ | refine valP_ok (ld59 (hS.cell 3 rfl rfl)) ?_ | refine valP_ok (ld59 (hS.cell 4 rfl rfl)) ?_ | refine valP_ok (ld59 (by assumption)) ?_
  first | refine valP_ok (eq59n _ _ _) ?_ | refine valP_ok (eq59s _ _ _ _) ?_
  unfold m42_9
  refine cond_t rfl ?_
  unfold m42_10
  exact ⟨rfl, hS.tail⟩
theorem nmay_ret (id gen part : Int) (w : World) : Ret Try.prog 47 #[.pointer none, .int .i64 id, .int .i64 gen, .int .i64 part] w fun v w' => v = .int .i64 11 ∧ w' = w := by
  refine s47 _ _ _ _ ?_
  unfold m47
  unfold m47_0
  unfold m47_1
  refine callR (by kernel_rfl) (nfind_ret id w) ?_
  rintro v w ⟨rfl, rfl⟩
  first | refine valP_ok (eq105n _ _ _) ?_ | refine valP_ok (eq105s _ _ _ _) ?_
  unfold m47_4
  refine cond_t rfl ?_
  unfold m47_5
  exact ⟨rfl, rfl⟩
theorem ngen_ret (w : World) : Ret Try.prog 44 #[.pointer none] w fun v w' => v = .int .i64 0 ∧ w' = w := by
  refine s44 _ ?_
  unfold m44
  unfold m44_0
  unfold m44_1
  first | refine valP_ok (eq59n _ _ _) ?_ | refine valP_ok (eq59s _ _ _ _) ?_
  unfold m44_4
  refine cond_t rfl ?_
  unfold m44_5
  exact ⟨rfl, rfl⟩
theorem nnext_ret (w : World) : Ret Try.prog 45 #[.pointer none] w fun v w' => v = .int .i64 0 ∧ w' = w := by
  refine s45 _ ?_
  unfold m45
  unfold m45_0
  unfold m45_1
  first | refine valP_ok (eq59n _ _ _) ?_ | refine valP_ok (eq59s _ _ _ _) ?_
  unfold m45_4
  refine cond_t rfl ?_
  unfold m45_5
  exact ⟨rfl, rfl⟩
theorem nmembers_ret (w : World) : Ret Try.prog 39 #[.pointer none] w fun v w' => v = .slice none 0 0 ∧ w' = w := by
  refine s39 _ ?_
  unfold m39
  unfold m39_0
  unfold m39_1
  first | refine valP_ok (eq59n _ _ _) ?_ | refine valP_ok (eq59s _ _ _ _) ?_
  unfold m39_4
  refine cond_t rfl ?_
  unfold m39_5
  exact ⟨rfl, rfl⟩
theorem nowners_ret (w : World) : Ret Try.prog 46 #[.pointer none] w fun v w' => v = .slice none 0 0 ∧ w' = w := by
  refine s46 _ ?_
  unfold m46
  unfold m46_0
  unfold m46_1
  first | refine valP_ok (eq59n _ _ _) ?_ | refine valP_ok (eq59s _ _ _ _) ?_
  unfold m46_4
  refine cond_t rfl ?_
  unfold m46_5
  exact ⟨rfl, rfl⟩
theorem gnone_ret {w0 : World} (a b c : Int) : Ret Try.prog 13 #[.int .i64 a, .int .i64 b, .int .i64 c] w0 fun v w' => v = .bool true ∧ Below w0.heap.size w0 w' := by
  have hS := St.start w0
  refine s13 _ _ _ ?_
  unfold m13 m13_0
  unfold m13_1
  unfold m13_2
  refine callR (by kernel_rfl) (njoin_ret hS a) ?_
  clear hS
  rintro v w ⟨rfl, hS⟩
  refine valP_ok (extract_ok _ 0 rfl _) ?_
  refine valP_ok (extract_ok _ 1 rfl _) ?_
  refine valP_ok (extract_ok _ 2 rfl _) ?_
  unfold m13_3
  refine callR (by kernel_rfl) (nsync_ret a w) ?_
  rintro v w ⟨rfl, rfl⟩
  refine valP_ok (extract_ok _ 0 rfl _) ?_
  refine valP_ok (extract_ok _ 1 rfl _) ?_
  refine valP_ok (extract_ok _ 2 rfl _) ?_
  unfold m13_4
  refine valP_ok (eq3 _ _ _ _ _) ?_
  refine cond_dt rfl ?_
  refine valP_ok (eq3 _ _ _ _ _) ?_
  first | refine pick_dt (by first | assumption | omega) ?_ | refine pick_df (by first | assumption | omega) ?_ | refine pick_t (by first | rfl | assumption) ?_ | refine pick_f (by first | rfl | assumption) ?_ | refine pick_dt rfl ?_ | refine pick_df (not_not_intro rfl) ?_
  refine cond_dt rfl ?_
  refine valP_ok (eq26 _ _ _ _ _) ?_
  first | refine pick_dt (by first | assumption | omega) ?_ | refine pick_df (by first | assumption | omega) ?_ | refine pick_t (by first | rfl | assumption) ?_ | refine pick_f (by first | rfl | assumption) ?_ | refine pick_dt rfl ?_ | refine pick_df (not_not_intro rfl) ?_
  refine cond_dt rfl ?_
  refine valP_ok (eq3 _ _ _ _ _) ?_
  first | refine pick_dt (by first | assumption | omega) ?_ | refine pick_df (by first | assumption | omega) ?_ | refine pick_t (by first | rfl | assumption) ?_ | refine pick_f (by first | rfl | assumption) ?_ | refine pick_dt rfl ?_ | refine pick_df (not_not_intro rfl) ?_
  refine cond_dt rfl ?_
  refine builtin_ok (len28 _) ?_
  refine valP_ok (eq3 _ _ _ _ _) ?_
  first | refine pick_dt (by first | assumption | omega) ?_ | refine pick_df (by first | assumption | omega) ?_ | refine pick_t (by first | rfl | assumption) ?_ | refine pick_f (by first | rfl | assumption) ?_ | refine pick_dt rfl ?_ | refine pick_df (not_not_intro rfl) ?_
  refine cond_dt rfl ?_
  refine valP_ok (eq26 _ _ _ _ _) ?_
  first | refine pick_dt (by first | assumption | omega) ?_ | refine pick_df (by first | assumption | omega) ?_ | refine pick_t (by first | rfl | assumption) ?_ | refine pick_f (by first | rfl | assumption) ?_ | refine pick_dt rfl ?_ | refine pick_df (not_not_intro rfl) ?_
  refine cond_dt rfl ?_
  refine callR (by kernel_rfl) (nbeat_ret a b w) ?_
  rintro v w ⟨rfl, rfl⟩
  refine valP_ok (eq26 _ _ _ _ _) ?_
  first | refine pick_dt (by first | assumption | omega) ?_ | refine pick_df (by first | assumption | omega) ?_ | refine pick_t (by first | rfl | assumption) ?_ | refine pick_f (by first | rfl | assumption) ?_ | refine pick_dt rfl ?_ | refine pick_df (not_not_intro rfl) ?_
  refine cond_dt rfl ?_
  refine callR (by kernel_rfl) (nleave_ret hS a) ?_
  clear hS
  rintro v w ⟨rfl, hS⟩
  refine valP_ok (eq26 _ _ _ _ _) ?_
  first | refine pick_dt (by first | assumption | omega) ?_ | refine pick_df (by first | assumption | omega) ?_ | refine pick_t (by first | rfl | assumption) ?_ | refine pick_f (by first | rfl | assumption) ?_ | refine pick_dt rfl ?_ | refine pick_df (not_not_intro rfl) ?_
  refine cond_dt rfl ?_
  refine callR (by kernel_rfl) (ntick_ret hS) ?_
  clear hS
  rintro v w ⟨rfl, hS⟩
  first | refine valP_ok (not_ok _ _) ?_ | refine valP_ok (notb_ok _ _) ?_
  first | refine pick_dt (by first | assumption | omega) ?_ | refine pick_df (by first | assumption | omega) ?_ | refine pick_t (by first | rfl | assumption) ?_ | refine pick_f (by first | rfl | assumption) ?_ | refine pick_dt rfl ?_ | refine pick_df (not_not_intro rfl) ?_
  refine cond_t rfl ?_
  refine callR (by kernel_rfl) (nmay_ret a b c w) ?_
  rintro v w ⟨rfl, rfl⟩
  refine valP_ok (eq26 _ _ _ _ _) ?_
  first | refine pick_dt (by first | assumption | omega) ?_ | refine pick_df (by first | assumption | omega) ?_ | refine pick_t (by first | rfl | assumption) ?_ | refine pick_f (by first | rfl | assumption) ?_ | refine pick_dt rfl ?_ | refine pick_df (not_not_intro rfl) ?_
  refine cond_dt rfl ?_
  refine callR (by kernel_rfl) (ngen_ret w) ?_
  rintro v w ⟨rfl, rfl⟩
  refine valP_ok (eq3 _ _ _ _ _) ?_
  first | refine pick_dt (by first | assumption | omega) ?_ | refine pick_df (by first | assumption | omega) ?_ | refine pick_t (by first | rfl | assumption) ?_ | refine pick_f (by first | rfl | assumption) ?_ | refine pick_dt rfl ?_ | refine pick_df (not_not_intro rfl) ?_
  refine cond_dt rfl ?_
  refine callR (by kernel_rfl) (nnext_ret w) ?_
  rintro v w ⟨rfl, rfl⟩
  refine valP_ok (eq3 _ _ _ _ _) ?_
  first | refine pick_dt (by first | assumption | omega) ?_ | refine pick_df (by first | assumption | omega) ?_ | refine pick_t (by first | rfl | assumption) ?_ | refine pick_f (by first | rfl | assumption) ?_ | refine pick_dt rfl ?_ | refine pick_df (not_not_intro rfl) ?_
  refine cond_dt rfl ?_
  refine callR (by kernel_rfl) (nmembers_ret w) ?_
  rintro v w ⟨rfl, rfl⟩
  refine builtin_ok (len66 _) ?_
  refine valP_ok (eq3 _ _ _ _ _) ?_
  first | refine pick_dt (by first | assumption | omega) ?_ | refine pick_df (by first | assumption | omega) ?_ | refine pick_t (by first | rfl | assumption) ?_ | refine pick_f (by first | rfl | assumption) ?_ | refine pick_dt rfl ?_ | refine pick_df (not_not_intro rfl) ?_
  refine cond_dt rfl ?_
  refine callR (by kernel_rfl) (nowners_ret w) ?_
  rintro v w ⟨rfl, rfl⟩
  refine builtin_ok (len28 _) ?_
  refine valP_ok (eq3 _ _ _ _ _) ?_
  first | refine pick_dt (by first | assumption | omega) ?_ | refine pick_df (by first | assumption | omega) ?_ | refine pick_t (by first | rfl | assumption) ?_ | refine pick_f (by first | rfl | assumption) ?_ | refine pick_dt rfl ?_ | refine pick_df (not_not_intro rfl) ?_
  refine cond_dt rfl ?_
  refine callR (by kernel_rfl) (gawake_ret hS) ?_
  clear hS
  rintro v w ⟨rfl, hS⟩
  refine pick_dt rfl ?_
  unfold m13_5
  exact ⟨rfl, hS.below⟩

end Go.Proofs.Ytjjmlopmemmobaa.M
