/- Chapter 28's example; what is not too much. -/
import Derived.Test.YtojgdmcojmllkaaS20
namespace Go.Proofs.Ytojgdmcojmllkaa.M
open Go.Proofs.Ytojgdmcojmllkaa.F Go.RowKit
set_option linter.unusedVariables false
set_option linter.unusedSimpArgs false
set_option maxRecDepth 100000
set_option maxHeartbeats 2000000
attribute [local irreducible] Res.cells Res.row Res.map Res.any World.cell? World.frozen? Instr.fieldAt Instr.loadAt Instr.storeAt Instr.indexAt Instr.lookup Instr.mapUpdate Instr.box Instr.build Instr.buildSlice Instr.extract Instr.alloc Instr.field Instr.index Instr.sliceAt Instr.makeSlice Instr.makeMap Instr.makeFunc binS Op.unary Sem.run
def g5 : Gp := ⟨5, 5⟩
def ins4 : List In := [⟨1, ⟨10, 0⟩⟩, ⟨1, ⟨20, 0⟩⟩, ⟨1, ⟨15, 0⟩⟩, ⟨1, ⟨31, 0⟩⟩]
def exs1 : Fl := ⟨10, 0, [⟨1, [⟨10, 0⟩]⟩]⟩
def exs2 : Fl := ⟨20, 0, [⟨1, [⟨10, 0⟩]⟩, ⟨1, [⟨20, 0⟩]⟩]⟩
def exs3 : Fl := ⟨20, 0, [⟨1, [⟨10, 0⟩, ⟨15, 0⟩, ⟨20, 0⟩]⟩]⟩
def exs4 : Fl := ⟨31, 0, [⟨1, [⟨31, 0⟩]⟩]⟩
def told : List Se := [⟨1, [⟨10, 0⟩, ⟨15, 0⟩, ⟨20, 0⟩]⟩]
theorem g5_ok : GapOk g5 := ⟨by simp [g5], by simp [g5]⟩
theorem can5 {l : List In} {f : Fl} {all : List Se} {x : In} (h : Runs g5 l f all) (hk : 0 ≤ x.key ∧ x.key ≤ 1048576) (ht : 0 ≤ x.e.t ∧ x.e.t ≤ 1099511627776) (hl : f.late ≠ 1099511627776) : Can g5 f x := ⟨⟨(h.flow g5_ok).1, hk, ht⟩, hl⟩
theorem ex_runs : Runs g5 ins4 exs4 told := by
  have h1 : Runs g5 [⟨1, ⟨10, 0⟩⟩] exs1 [] := Runs.snoc (x := ⟨1, ⟨10, 0⟩⟩) .nil (can5 .nil (by simp) (by simp) (by simp [zeroF]))
  have h2 : Runs g5 [⟨1, ⟨10, 0⟩⟩, ⟨1, ⟨20, 0⟩⟩] exs2 [] := Runs.snoc (x := ⟨1, ⟨20, 0⟩⟩) h1 (can5 h1 (by simp) (by simp) (by simp [exs1]))
  have h3 : Runs g5 [⟨1, ⟨10, 0⟩⟩, ⟨1, ⟨20, 0⟩⟩, ⟨1, ⟨15, 0⟩⟩] exs3 [] := Runs.snoc (x := ⟨1, ⟨15, 0⟩⟩) h2 (can5 h2 (by simp) (by simp) (by simp [exs2]))
  exact Runs.snoc (x := ⟨1, ⟨31, 0⟩⟩) h3 (can5 h3 (by simp) (by simp) (by simp [exs3]))
section
variable {w0 w : World} {F : List Nat} {L : List Res} {g : Gp}
theorem light_ret {f : Fq} (hB : BesS w0 F L f.A f.l) (hS : St w0 F w L) : Ret Try.prog 9 #[fv f] w fun v w' => (∃ b, v = .bool b ∧ (b = true → f.l.length ≤ 70)) ∧ St w0 F w' L := by
  have hmax := hB.max
  obtain ⟨fm, fl, fA, fc, fL⟩ := f
  simp only at hB hmax ⊢
  refine s9 _ ?_
  show m9 _ (.agg #[.int .i64 fm, .int .i64 fl, .slice fA fL.length fc]) w
  unfold m9
  unfold m9_0
  refine new_ok (bx26 _ _ _ _) hS ?_
  intro b1 w hS
  unfold m9_1 m9_2 m9_5
  refine loop_in (fun u w' => ∃ (i : Nat) (n : Int), u = (.int .i64 n, .int .i64 (i : Int)) ∧ i ≤ fL.length ∧ i ≤ 80 ∧ 0 ≤ n ∧ n ≤ 1000 * i ∧ St w0 F w' (Res.cells b1 26 [.int .i64 fm, .int .i64 fl, .slice fA fL.length fc] :: L)) (fun u _ => 100 - (intOf u.2).toNat) ⟨0, 0, rfl, by omega, by omega, by omega, by omega, hS⟩ ?_
  clear hS
  rintro u w ⟨i, n, rfl, hi, hi8, hn0, hn, hS⟩
  simp only
  have fin : ∀ w, St w0 F w (Res.cells b1 26 [.int .i64 fm, .int .i64 fl, .slice fA fL.length fc] :: L) → m9_3 (fun v w' => (∃ b, v = .bool b ∧ (b = true → fL.length ≤ 70)) ∧ St w0 F w' L) (.pointer (some ⟨b1, 0, none⟩)) (.int .i64 n) w := by
    clear hS
    intro w hS
    unfold m9_3
    first | refine valP_ok (fa26_2 _ _) ?_ | refine valP_ok (fao26_2 _ _ _) ?_
    first | refine valP_ok (ld24 (hS.cell 0 rfl rfl)) ?_ | refine valP_ok (ld24 (hS.cell 1 rfl rfl)) ?_ | refine valP_ok (ld24 (hS.cell 2 rfl rfl)) ?_ | refine valP_ok (ld24 (hS.cell 3 rfl rfl)) ?_ | refine valP_ok (ld24 (hS.cell 4 rfl rfl)) ?_ | refine valP_ok (ld24 (hS.cell 5 rfl rfl)) ?_ | refine valP_ok (ld24 (hS.cell 6 rfl rfl)) ?_ | refine valP_ok (ld24 (hS.cell 7 rfl rfl)) ?_ | refine valP_ok (ld24 (by assumption)) ?_
    refine builtin_ok (len24 _) ?_
    refine valP_ok (leq_ok _ _ _ _ _ _ _) ?_
    refine cond_split (fun h1 => ?_) (fun h1 => ?_)
    · refine valP_ok (leq_ok _ _ _ _ _ _ _) ?_
      first | refine pick_dt (by first | assumption | omega) ?_ | refine pick_df (by first | assumption | omega) ?_ | refine pick_t (by first | rfl | assumption) ?_ | refine pick_f (by first | rfl | assumption) ?_ | refine pick_dt rfl ?_ | refine pick_df (not_not_intro rfl) ?_
      unfold m9_4
      exact ⟨⟨_, rfl, fun _ => by omega⟩, hS.tail⟩
    · first | refine pick_dt (by first | assumption | omega) ?_ | refine pick_df (by first | assumption | omega) ?_ | refine pick_t (by first | rfl | assumption) ?_ | refine pick_f (by first | rfl | assumption) ?_ | refine pick_dt rfl ?_ | refine pick_df (not_not_intro rfl) ?_
      unfold m9_4
      exact ⟨⟨_, rfl, fun h => by cases h⟩, hS.tail⟩
  unfold m9_6
  first | refine valP_ok (fa26_2 _ _) ?_ | refine valP_ok (fao26_2 _ _ _) ?_
  first | refine valP_ok (ld24 (hS.cell 0 rfl rfl)) ?_ | refine valP_ok (ld24 (hS.cell 1 rfl rfl)) ?_ | refine valP_ok (ld24 (hS.cell 2 rfl rfl)) ?_ | refine valP_ok (ld24 (hS.cell 3 rfl rfl)) ?_ | refine valP_ok (ld24 (hS.cell 4 rfl rfl)) ?_ | refine valP_ok (ld24 (hS.cell 5 rfl rfl)) ?_ | refine valP_ok (ld24 (hS.cell 6 rfl rfl)) ?_ | refine valP_ok (ld24 (hS.cell 7 rfl rfl)) ?_ | refine valP_ok (ld24 (by assumption)) ?_
  refine builtin_ok (len24 _) ?_
  refine valP_ok (lss_ok _ _ _ _ _ _ _) ?_
  refine cond_split (fun h1 => ?_) (fun h1 => ?_)
  · refine valP_ok (lss_ok _ _ _ _ _ _ _) ?_
    first | refine pick_dt (by first | assumption | omega) ?_ | refine pick_df (by first | assumption | omega) ?_ | refine pick_t (by first | rfl | assumption) ?_ | refine pick_f (by first | rfl | assumption) ?_ | refine pick_dt rfl ?_ | refine pick_df (not_not_intro rfl) ?_
    unfold m9_9
    refine cond_split (fun h2 => ?_) (fun h2 => ?_)
    · have hlt : i < fL.length := by omega
      obtain ⟨b, o, rfl⟩ := (hB.row.rd hS.tail).some_ (by omega) (by omega)
      have p := sp_at (hB.row.rd hS.tail) hlt
      unfold m9_7
      first | refine valP_ok (fa26_2 _ _) ?_ | refine valP_ok (fao26_2 _ _ _) ?_
      first | refine valP_ok (ld24 (hS.cell 0 rfl rfl)) ?_ | refine valP_ok (ld24 (hS.cell 1 rfl rfl)) ?_ | refine valP_ok (ld24 (hS.cell 2 rfl rfl)) ?_ | refine valP_ok (ld24 (hS.cell 3 rfl rfl)) ?_ | refine valP_ok (ld24 (hS.cell 4 rfl rfl)) ?_ | refine valP_ok (ld24 (hS.cell 5 rfl rfl)) ?_ | refine valP_ok (ld24 (hS.cell 6 rfl rfl)) ?_ | refine valP_ok (ld24 (hS.cell 7 rfl rfl)) ?_ | refine valP_ok (ld24 (by assumption)) ?_
      refine valP_ok (ix24 hlt _) ?_
      refine valP_ok (fao33_1 _ _ _) ?_
      refine valP_ok (ld31 p.2) ?_
      refine builtin_ok (len31 _) ?_
      refine builtin_ok (min_run _ _ _) ?_
      refine valP_ok (add_ok _ _ _ (by omega) (by omega) _) ?_
      unfold m9_8
      refine valP_ok (add_ok _ _ _ (by omega) (by omega) _) ?_
      exact ⟨⟨i + 1, _, rfl, by omega, by omega, by omega, by omega, hS⟩, by simp [intOf]; omega⟩
    · exact fin w hS
  · first | refine pick_dt (by first | assumption | omega) ?_ | refine pick_df (by first | assumption | omega) ?_ | refine pick_t (by first | rfl | assumption) ?_ | refine pick_f (by first | rfl | assumption) ?_ | refine pick_dt rfl ?_ | refine pick_df (not_not_intro rfl) ?_
    unfold m9_9
    refine cond_f rfl ?_
    exact fin w hS
theorem awake_ret (hS : St w0 F w L) : Ret Try.prog 10 #[] w fun v w' => v = .bool true ∧ St w0 F w' L := by
  refine s10 ?_
  unfold m10
  unfold m10_0
  unfold m10_1
  refine valP_ok (bd23_0_1 rfl rfl _) ?_
  refine new_ok (al23 _) hS ?_
  intro b1 w hS
  first | refine ss23 0 hS rfl rfl rfl ?_ | refine ss23 1 hS rfl rfl rfl ?_ | refine ss23 2 hS rfl rfl rfl ?_ | refine ss23 3 hS rfl rfl rfl ?_ | refine ss23 4 hS rfl rfl rfl ?_ | refine ss23 5 hS rfl rfl rfl ?_ | refine ss23 6 hS rfl rfl rfl ?_ | refine ss23 7 hS rfl rfl rfl ?_
  intro w hS
  simp only [List.set_cons_zero, List.set_cons_succ] at hS
  unfold m10_2
  first | refine ls23 0 hS rfl ?_ | refine ls23 1 hS rfl ?_ | refine ls23 2 hS rfl ?_ | refine ls23 3 hS rfl ?_ | refine ls23 4 hS rfl ?_ | refine ls23 5 hS rfl ?_ | refine ls23 6 hS rfl ?_ | refine ls23 7 hS rfl ?_ | refine valP_ok (ld23 (by assumption) (by assumption)) ?_
  refine valP_ok (bd28_0 rfl _) ?_
  refine valP_ok (bd54_0_1 rfl _) ?_
  refine valP_ok (bd28_0 rfl _) ?_
  refine valP_ok (bd54_0_1 rfl _) ?_
  refine valP_ok (bd28_0 rfl _) ?_
  refine valP_ok (bd54_0_1 rfl _) ?_
  refine valP_ok (bd28_0 rfl _) ?_
  refine valP_ok (bd54_0_1 rfl _) ?_
  refine newslice_ok (bs44_4 _) hS ?_
  intro b16 w hS
  refine callR (by kernel_rfl) (run_ret (g := g5) (l := ins4) (by simp [ins4]) hS (Bes.of_cells 0 rfl rfl)) ?_
  rintro v w (⟨f, all, A1, c1, l1, A2, c2, l2, N, hr, rfl, e1, e2, hn, hS, ho, hE⟩ | ⟨er, _, hno, _⟩)
  rotate_left
  · exact absurd ⟨_, _, ex_runs⟩ hno
  obtain ⟨rfl, rfl⟩ := hr.det ex_runs
  refine valP_ok (extract_ok _ 0 rfl _) ?_
  refine valP_ok (extract_ok _ 1 rfl _) ?_
  refine valP_ok (extract_ok _ 2 rfl _) ?_
  refine new_ok (al26 _) hS ?_
  intro b2 w hS
  first | refine ss26 0 hS rfl rfl rfl rfl ?_ | refine ss26 1 hS rfl rfl rfl rfl ?_ | refine ss26 2 hS rfl rfl rfl rfl ?_ | refine ss26 3 hS rfl rfl rfl rfl ?_ | refine ss26 4 hS rfl rfl rfl rfl ?_ | refine ss26 5 hS rfl rfl rfl rfl ?_ | refine ss26 6 hS rfl rfl rfl rfl ?_ | refine ss26 7 hS rfl rfl rfl rfl ?_
  intro w hS
  simp only [List.set_cons_zero, List.set_cons_succ] at hS
  unfold m10_3
  refine valP_ok (eq34 _ _ _ _ _) ?_
  refine cond_dt rfl ?_
  have hl1 : l1.length = 1 := by
    have := congrArg List.length e1
    simpa [exs4] using this
  have hn4 : l2.length ≤ 256 := hn
  refine valP_ok (bd28_0 rfl _) ?_
  refine valP_ok (bd28_0 rfl _) ?_
  refine valP_ok (bd28_0 rfl _) ?_
  refine newslice_ok (bs31_3 _) hS ?_
  intro b28 w hS
  refine valP_ok (bd33_0_1 rfl rfl _) ?_
  refine newslice_ok (bs24_1 _) hS ?_
  intro b30 w hS
  have hB : BesS w0 F (srow (.slice A2 l2.length c2) l2 :: N) A2 l2 := ⟨Bes.of_row 0 rfl, fun s hs => (hE s hs).1.cons _, by omega, fun s hs => (hE s hs).2⟩
  refine callR (by kernel_rfl) (samespans_ret (l := l2) (l2 := [⟨⟨1, [⟨10, 0⟩, ⟨15, 0⟩, ⟨20, 0⟩]⟩, some ⟨b28, 0, none⟩, 3⟩]) hS (hB.mono fun r hr => ?_) ⟨Bes.of_cells 0 rfl rfl, fun s hs => ?_, by simp, fun s hs => ?_⟩) ?_
  · rcases List.mem_cons.1 hr with rfl | hr
    · exact .tail _ (.tail _ (.tail _ (.head _)))
    · exact .tail _ (.tail _ (.tail _ (.tail _ (List.mem_append_left _ hr))))
  · obtain rfl := List.mem_singleton.1 hs
    exact Bes.of_cells 1 rfl rfl
  · obtain rfl := List.mem_singleton.1 hs
    simp
  rintro v w ⟨⟨t, rfl, ht⟩, hS⟩
  have ht : t = true := ht.2 (by rw [e2]; rfl)
  subst ht
  first | refine pick_dt (by first | assumption | omega) ?_ | refine pick_df (by first | assumption | omega) ?_ | refine pick_t (by first | rfl | assumption) ?_ | refine pick_f (by first | rfl | assumption) ?_ | refine pick_dt rfl ?_ | refine pick_df (not_not_intro rfl) ?_
  refine cond_t rfl ?_
  first | refine valP_ok (fa26_2 _ _) ?_ | refine valP_ok (fao26_2 _ _ _) ?_
  first | refine valP_ok (ld24 (hS.cell 0 rfl rfl)) ?_ | refine valP_ok (ld24 (hS.cell 1 rfl rfl)) ?_ | refine valP_ok (ld24 (hS.cell 2 rfl rfl)) ?_ | refine valP_ok (ld24 (hS.cell 3 rfl rfl)) ?_ | refine valP_ok (ld24 (hS.cell 4 rfl rfl)) ?_ | refine valP_ok (ld24 (hS.cell 5 rfl rfl)) ?_ | refine valP_ok (ld24 (hS.cell 6 rfl rfl)) ?_ | refine valP_ok (ld24 (hS.cell 7 rfl rfl)) ?_ | refine valP_ok (ld24 (by assumption)) ?_
  refine builtin_ok (len24 _) ?_
  refine valP_ok (eq3 _ _ _ _ _) ?_
  first | refine pick_dt (by first | assumption | omega) ?_ | refine pick_df (by first | assumption | omega) ?_ | refine pick_t (by first | rfl | assumption) ?_ | refine pick_f (by first | rfl | assumption) ?_ | refine pick_dt rfl ?_ | refine pick_df (not_not_intro rfl) ?_
  refine cond_dt (by omega) ?_
  first | refine valP_ok (fa26_0 _ _) ?_ | refine valP_ok (fao26_0 _ _ _) ?_
  first | refine valP_ok (ld3 (hS.cell 0 rfl rfl)) ?_ | refine valP_ok (ld3 (hS.cell 1 rfl rfl)) ?_ | refine valP_ok (ld3 (hS.cell 2 rfl rfl)) ?_ | refine valP_ok (ld3 (hS.cell 3 rfl rfl)) ?_ | refine valP_ok (ld3 (hS.cell 4 rfl rfl)) ?_ | refine valP_ok (ld3 (hS.cell 5 rfl rfl)) ?_ | refine valP_ok (ld3 (hS.cell 6 rfl rfl)) ?_ | refine valP_ok (ld3 (hS.cell 7 rfl rfl)) ?_ | refine valP_ok (ld3 (by assumption)) ?_
  refine valP_ok (eq3 _ _ _ _ _) ?_
  first | refine pick_dt (by first | assumption | omega) ?_ | refine pick_df (by first | assumption | omega) ?_ | refine pick_t (by first | rfl | assumption) ?_ | refine pick_f (by first | rfl | assumption) ?_ | refine pick_dt rfl ?_ | refine pick_df (not_not_intro rfl) ?_
  refine cond_dt rfl ?_
  first | refine valP_ok (fa26_1 _ _) ?_ | refine valP_ok (fao26_1 _ _ _) ?_
  first | refine valP_ok (ld3 (hS.cell 0 rfl rfl)) ?_ | refine valP_ok (ld3 (hS.cell 1 rfl rfl)) ?_ | refine valP_ok (ld3 (hS.cell 2 rfl rfl)) ?_ | refine valP_ok (ld3 (hS.cell 3 rfl rfl)) ?_ | refine valP_ok (ld3 (hS.cell 4 rfl rfl)) ?_ | refine valP_ok (ld3 (hS.cell 5 rfl rfl)) ?_ | refine valP_ok (ld3 (hS.cell 6 rfl rfl)) ?_ | refine valP_ok (ld3 (hS.cell 7 rfl rfl)) ?_ | refine valP_ok (ld3 (by assumption)) ?_
  refine valP_ok (eq3 _ _ _ _ _) ?_
  first | refine pick_dt (by first | assumption | omega) ?_ | refine pick_df (by first | assumption | omega) ?_ | refine pick_t (by first | rfl | assumption) ?_ | refine pick_f (by first | rfl | assumption) ?_ | refine pick_dt rfl ?_ | refine pick_df (not_not_intro rfl) ?_
  unfold m10_4
  refine ⟨by simp [exs4], ?_⟩
  have h5 := hS.tail.tail.tail.tail
  exact (h5.sub (List.sublist_append_right N _)).tail.tail
end

end Go.Proofs.Ytojgdmcojmllkaa.M
