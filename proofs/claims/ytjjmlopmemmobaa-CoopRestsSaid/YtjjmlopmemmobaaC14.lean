/- One that is none has nobody. -/
import Derived.Test.YtjjmlopmemmobaaC13
import Derived.Test.YtjjmlopmemmobaaMle0
namespace Go.Proofs.Ytjjmlopmemmobaa.M
open Go.Proofs.Ytjjmlopmemmobaa.F Go.RowKit
set_option linter.unusedVariables false
set_option linter.unusedSimpArgs false
set_option maxRecDepth 100000
set_option maxHeartbeats 2000000
attribute [local irreducible] Res.cells Res.row Res.map Res.any World.cell? World.frozen? Instr.fieldAt Instr.loadAt Instr.storeAt Instr.indexAt Instr.lookup Instr.mapUpdate Instr.box Instr.build Instr.buildSlice Instr.extract Instr.alloc Instr.field Instr.index Instr.sliceAt Instr.makeSlice Instr.makeMap Instr.makeFunc binS Op.unary Sem.run
open Go.Proofs.Ytjjmlopmemmobaa.L Go.Shelf
theorem rev_none (m : Int) (w : World) : Ret Try.prog 25 #[.pointer none, .int .i64 m] w fun v w' => v = .tuple #[.slice none 0 0, .int .i64 11] ∧ w' = w := by
  refine s25 _ _ ?_
  unfold m25
  unfold m25_0
  unfold m25_1
  first | refine valP_ok (eq23n _ _ _) ?_ | refine valP_ok (eq23s _ _ _ _) ?_
  refine cond_t rfl ?_
  first | refine pick_dt (by first | assumption | omega) ?_ | refine pick_df (by first | assumption | omega) ?_ | refine pick_t (by first | rfl | assumption) ?_ | refine pick_f (by first | rfl | assumption) ?_ | refine pick_dt rfl ?_ | refine pick_df (not_not_intro rfl) ?_
  unfold m25_13
  refine cond_t rfl ?_
  unfold m25_14
  exact ⟨rfl, rfl⟩
theorem join_none (A : Option Addr) (n c : Nat) (w : World) : Ret Try.prog 24 #[.pointer none, .slice A n c] w fun v w' => v = .int .i64 1 ∧ w' = w := by
  refine s24 _ _ ?_
  unfold m24
  unfold m24_0
  unfold m24_1
  first | refine valP_ok (eq23n _ _ _) ?_ | refine valP_ok (eq23s _ _ _ _) ?_
  refine cond_t rfl ?_
  first | refine pick_dt (by first | assumption | omega) ?_ | refine pick_df (by first | assumption | omega) ?_ | refine pick_t (by first | rfl | assumption) ?_ | refine pick_f (by first | rfl | assumption) ?_ | refine pick_dt rfl ?_ | refine pick_df (not_not_intro rfl) ?_
  unfold m24_22
  refine cond_t rfl ?_
  unfold m24_23
  exact ⟨rfl, rfl⟩
theorem leave_none {w0 w : World} {F : List Nat} {L : List Res} (m : Int) (hS : St w0 F w L) : Ret Try.prog 29 #[.pointer none, .int .i64 m] w fun v w' => v = .int .i64 11 ∧ St w0 F w' L := by
  refine s29 _ _ ?_
  unfold m29
  unfold m29_0
  refine new_ok (bx3 rfl _) hS ?_
  intro b3 w hS
  unfold m29_1
  first | refine valP_ok (eq23n _ _ _) ?_ | refine valP_ok (eq23s _ _ _ _) ?_
  refine cond_t rfl ?_
  first | refine pick_dt (by first | assumption | omega) ?_ | refine pick_df (by first | assumption | omega) ?_ | refine pick_t (by first | rfl | assumption) ?_ | refine pick_f (by first | rfl | assumption) ?_ | refine pick_dt rfl ?_ | refine pick_df (not_not_intro rfl) ?_
  unfold m29_6
  refine cond_t rfl ?_
  unfold m29_7
  exact ⟨rfl, hS.tail⟩
theorem done_none (m p : Int) (w : World) : Ret Try.prog 33 #[.pointer none, .int .i64 m, .int .i64 p] w fun v w' => v = .int .i64 11 ∧ w' = w := by
  refine s33 _ _ _ ?_
  unfold m33
  unfold m33_0
  unfold m33_1
  first | refine valP_ok (eq23n _ _ _) ?_ | refine valP_ok (eq23s _ _ _ _) ?_
  refine cond_t rfl ?_
  first | refine pick_dt (by first | assumption | omega) ?_ | refine pick_df (by first | assumption | omega) ?_ | refine pick_t (by first | rfl | assumption) ?_ | refine pick_f (by first | rfl | assumption) ?_ | refine pick_dt rfl ?_ | refine pick_df (not_not_intro rfl) ?_
  unfold m33_6
  refine cond_t rfl ?_
  unfold m33_7
  exact ⟨rfl, rfl⟩
theorem rests_none {w0 w : World} {F : List Nat} {L : List Res} (hS : St w0 F w L) : Ret Try.prog 23 #[.pointer none] w fun v w' => v = .bool false ∧ St w0 F w' L := by
  refine s23 _ ?_
  unfold m23
  unfold m23_0
  unfold m23_1
  refine drawn_ok hS ?_
  intro w hS
  first | refine valS_ok (ne23n _ _ _) ?_ | refine valS_ok (ne23s _ _ _ _) ?_
  refine cond_f rfl ?_
  first | refine pick_dt (by first | assumption | omega) ?_ | refine pick_df (by first | assumption | omega) ?_ | refine pick_t (by first | rfl | assumption) ?_ | refine pick_f (by first | rfl | assumption) ?_ | refine pick_dt rfl ?_ | refine pick_df (not_not_intro rfl) ?_
  unfold m23_2
  exact ⟨rfl, hS⟩
theorem gen_none (w : World) : Ret Try.prog 35 #[.pointer none] w fun v w' => v = .int .i64 0 ∧ w' = w := by
  refine s35 _ ?_
  unfold m35
  unfold m35_0
  unfold m35_1
  first | refine valP_ok (eq23n _ _ _) ?_ | refine valP_ok (eq23s _ _ _ _) ?_
  unfold m35_4
  refine cond_t rfl ?_
  unfold m35_5
  exact ⟨rfl, rfl⟩
theorem have_none (w : World) : Ret Try.prog 19 #[.pointer none] w fun v w' => v = .slice none 0 0 ∧ w' = w := by
  refine s19 _ ?_
  unfold m19
  unfold m19_0
  unfold m19_1
  first | refine valP_ok (eq23n _ _ _) ?_ | refine valP_ok (eq23s _ _ _ _) ?_
  unfold m19_4
  refine cond_t rfl ?_
  unfold m19_5
  exact ⟨rfl, rfl⟩
theorem want_none (w : World) : Ret Try.prog 20 #[.pointer none] w fun v w' => v = .slice none 0 0 ∧ w' = w := by
  refine s20 _ ?_
  unfold m20
  unfold m20_0
  unfold m20_1
  first | refine valP_ok (eq23n _ _ _) ?_ | refine valP_ok (eq23s _ _ _ _) ?_
  unfold m20_4
  refine cond_t rfl ?_
  unfold m20_5
  exact ⟨rfl, rfl⟩
theorem members_none (w : World) : Ret Try.prog 18 #[.pointer none] w fun v w' => v = .slice none 0 0 ∧ w' = w := by
  refine s18 _ ?_
  unfold m18
  unfold m18_0
  unfold m18_1
  first | refine valP_ok (eq23n _ _ _) ?_ | refine valP_ok (eq23s _ _ _ _) ?_
  unfold m18_4
  refine cond_t rfl ?_
  unfold m18_5
  exact ⟨rfl, rfl⟩
theorem none_ret {w : World} {m p : Int} : Ret Try.prog 7 #[.int .i64 m, .int .i64 p] w fun v w' => v = .bool true ∧ Below w.heap.size w w' := by
  have hS := St.start w
  refine s7 _ _ ?_
  unfold m7 m7_0
  unfold m7_1 m7_2
  refine callR (by kernel_rfl) (rev_none m w) ?_
  rintro v w ⟨rfl, rfl⟩
  refine valP_ok (extract_ok _ 0 rfl _) ?_
  refine valP_ok (extract_ok _ 1 rfl _) ?_
  unfold m7_3
  refine newslice_ok (bs28_1 rfl _) hS ?_
  intro b16 w hS
  refine callR (by kernel_rfl) (join_none _ _ _ _) ?_
  rintro v w ⟨rfl, rfl⟩
  refine valP_ok (eq26 _ _ _ _ _) ?_
  refine cond_dt rfl ?_
  refine callR (by kernel_rfl) (leave_none m hS) ?_
  rintro v w ⟨rfl, hS⟩
  refine valP_ok (eq26 _ _ _ _ _) ?_
  first | refine pick_dt (by first | assumption | omega) ?_ | refine pick_df (by first | assumption | omega) ?_ | refine pick_t (by first | rfl | assumption) ?_ | refine pick_f (by first | rfl | assumption) ?_ | refine pick_dt rfl ?_ | refine pick_df (not_not_intro rfl) ?_
  refine cond_dt rfl ?_
  refine builtin_ok (len28 _) ?_
  refine valP_ok (eq3 _ _ _ _ _) ?_
  first | refine pick_dt (by first | assumption | omega) ?_ | refine pick_df (by first | assumption | omega) ?_ | refine pick_t (by first | rfl | assumption) ?_ | refine pick_f (by first | rfl | assumption) ?_ | refine pick_dt rfl ?_ | refine pick_df (not_not_intro rfl) ?_
  refine cond_dt rfl ?_
  refine valP_ok (eq26 _ _ _ _ _) ?_
  first | refine pick_dt (by first | assumption | omega) ?_ | refine pick_df (by first | assumption | omega) ?_ | refine pick_t (by first | rfl | assumption) ?_ | refine pick_f (by first | rfl | assumption) ?_ | refine pick_dt rfl ?_ | refine pick_df (not_not_intro rfl) ?_
  refine cond_dt rfl ?_
  refine callR (by kernel_rfl) (done_none m p _) ?_
  rintro v w ⟨rfl, rfl⟩
  refine valP_ok (eq26 _ _ _ _ _) ?_
  first | refine pick_dt (by first | assumption | omega) ?_ | refine pick_df (by first | assumption | omega) ?_ | refine pick_t (by first | rfl | assumption) ?_ | refine pick_f (by first | rfl | assumption) ?_ | refine pick_dt rfl ?_ | refine pick_df (not_not_intro rfl) ?_
  refine cond_dt rfl ?_
  refine callR (by kernel_rfl) (rests_none hS) ?_
  rintro v w ⟨rfl, hS⟩
  first | refine valP_ok (not_ok _ _) ?_ | refine valP_ok (notb_ok _ _) ?_
  first | refine pick_dt (by first | assumption | omega) ?_ | refine pick_df (by first | assumption | omega) ?_ | refine pick_t (by first | rfl | assumption) ?_ | refine pick_f (by first | rfl | assumption) ?_ | refine pick_dt rfl ?_ | refine pick_df (not_not_intro rfl) ?_
  refine cond_t rfl ?_
  refine callR (by kernel_rfl) (gen_none _) ?_
  rintro v w ⟨rfl, rfl⟩
  refine valP_ok (eq3 _ _ _ _ _) ?_
  first | refine pick_dt (by first | assumption | omega) ?_ | refine pick_df (by first | assumption | omega) ?_ | refine pick_t (by first | rfl | assumption) ?_ | refine pick_f (by first | rfl | assumption) ?_ | refine pick_dt rfl ?_ | refine pick_df (not_not_intro rfl) ?_
  refine cond_dt rfl ?_
  refine callR (by kernel_rfl) (have_none _) ?_
  rintro v w ⟨rfl, rfl⟩
  refine builtin_ok (len28 _) ?_
  refine valP_ok (eq3 _ _ _ _ _) ?_
  first | refine pick_dt (by first | assumption | omega) ?_ | refine pick_df (by first | assumption | omega) ?_ | refine pick_t (by first | rfl | assumption) ?_ | refine pick_f (by first | rfl | assumption) ?_ | refine pick_dt rfl ?_ | refine pick_df (not_not_intro rfl) ?_
  refine cond_dt rfl ?_
  refine callR (by kernel_rfl) (want_none _) ?_
  rintro v w ⟨rfl, rfl⟩
  refine builtin_ok (len28 _) ?_
  refine valP_ok (eq3 _ _ _ _ _) ?_
  first | refine pick_dt (by first | assumption | omega) ?_ | refine pick_df (by first | assumption | omega) ?_ | refine pick_t (by first | rfl | assumption) ?_ | refine pick_f (by first | rfl | assumption) ?_ | refine pick_dt rfl ?_ | refine pick_df (not_not_intro rfl) ?_
  refine cond_dt rfl ?_
  refine callR (by kernel_rfl) (members_none _) ?_
  rintro v w ⟨rfl, rfl⟩
  refine builtin_ok (len28 _) ?_
  refine valP_ok (eq3 _ _ _ _ _) ?_
  first | refine pick_dt (by first | assumption | omega) ?_ | refine pick_df (by first | assumption | omega) ?_ | refine pick_t (by first | rfl | assumption) ?_ | refine pick_f (by first | rfl | assumption) ?_ | refine pick_dt rfl ?_ | refine pick_df (not_not_intro rfl) ?_
  refine cond_dt rfl ?_
  refine callR (by kernel_rfl) (cawake_ret hS) ?_
  rintro v w ⟨rfl, hS⟩
  first | refine pick_dt (by first | assumption | omega) ?_ | refine pick_df (by first | assumption | omega) ?_ | refine pick_t (by first | rfl | assumption) ?_ | refine pick_f (by first | rfl | assumption) ?_ | refine pick_dt rfl ?_ | refine pick_df (not_not_intro rfl) ?_
  unfold m7_4
  exact ⟨rfl, hS.below⟩

end Go.Proofs.Ytjjmlopmemmobaa.M
