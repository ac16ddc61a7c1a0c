/- Each has a share, whoever the members are, and whatever they had. -/
import Derived.Test.YtlgafiekogajfaaA15
namespace Go.Proofs.Ytlgafiekogajfaa.M
open Go.Proofs.Ytlgafiekogajfaa.F Go.RowKit
set_option linter.unusedVariables false
set_option linter.unusedSimpArgs false
set_option maxRecDepth 100000
set_option maxHeartbeats 2000000
attribute [local irreducible] Res.cells Res.row Res.map Res.any World.cell? World.frozen? Instr.fieldAt Instr.loadAt Instr.storeAt Instr.indexAt Instr.lookup Instr.mapUpdate Instr.box Instr.build Instr.buildSlice Instr.extract Instr.alloc Instr.field Instr.index Instr.sliceAt Instr.makeSlice Instr.makeMap Instr.makeFunc binS Op.unary Sem.run
open Go.Proofs.Ytlgafiekogajfaa.L Go.Shelf
theorem fairs_ret {w : World} {A B : Option Addr} {c d : Nat} {l r : List Int} {parts : Int} (hp : -9223372036854775808 ≤ parts) (hp' : parts ≤ 9223372036854775807) (hc : l.length ≤ c) (hd : r.length ≤ d) (hr : Rd w 1 A l.length (ints l)) (hrr : Rd w 1 B r.length (ints r))
    (hb : ∀ x ∈ l, -9223372036854775808 ≤ x ∧ x ≤ 9223372036854775807) (hbr : ∀ x ∈ r, -9223372036854775808 ≤ x ∧ x ≤ 9223372036854775807) :
    Ret Try.prog 5 #[.int .i64 parts, .slice A l.length c, .slice B r.length d] w fun v w' => v = .bool true ∧ Below w.heap.size w w' := by
  refine s5 _ _ _ ?_
  unfold m5 m5_0
  unfold m5_1
  refine callR (by kernel_rfl) (some_ret A c l w hc) ?_
  rintro v w ⟨rfl, rfl⟩
  refine callR (by kernel_rfl) (some_ret B d r w hd) ?_
  rintro v w ⟨rfl, rfl⟩
  have hS := St.start w
  have hr := Rd.take_ints hr 70
  have hrr := Rd.take_ints hrr 70
  have hb : ∀ x ∈ l.take 70, -9223372036854775808 ≤ x ∧ x ≤ 9223372036854775807 := fun x hx => hb x (List.mem_of_mem_take hx)
  have hbr : ∀ x ∈ r.take 70, -9223372036854775808 ≤ x ∧ x ≤ 9223372036854775807 := fun x hx => hbr x (List.mem_of_mem_take hx)
  have hl : (l.take 70).length ≤ 70 := by rw [List.length_take]; omega
  have hl2 : (r.take 70).length ≤ 70 := by rw [List.length_take]; omega
  generalize l.take 70 = l at hr hl hb ⊢
  generalize r.take 70 = r at hrr hl2 hbr ⊢
  have hspec := membersL_spec l
  have hMl : (membersL l).length ≤ 1000 := by have := membersL_len l; omega
  have hMb : ∀ x ∈ membersL l, -9223372036854775808 ≤ x ∧ x ≤ 9223372036854775807 := fun x hx => hb x ((hspec.2 x).1 hx).1
  have hM1 : ∀ x ∈ membersL l, 0 < x := fun x hx => ((hspec.2 x).1 hx).2
  unfold m5_2
  refine callR (by kernel_rfl) (range_ret hp hp' hS (Bes.of_old0 hr) (by omega) hb) ?_
  intro v w2 hv
  by_cases hbad : badParts parts
  · rw [if_pos hbad] at hv
    obtain ⟨rfl, hS⟩ := hv
    refine valP_ok (extract_ok _ 0 rfl _) ?_
    refine valP_ok (extract_ok _ 1 rfl _) ?_
    unfold m5_3
    refine callR (by kernel_rfl) (sticky_ret hp hp' hS (Bes.of_old0 hr) (Bes.of_old0 hrr) (by omega) hb hbr) ?_
    intro v w3 hv
    rw [if_pos hbad] at hv
    obtain ⟨rfl, hS⟩ := hv
    refine valP_ok (extract_ok _ 0 rfl _) ?_
    refine valP_ok (extract_ok _ 1 rfl _) ?_
    have fin : ∀ w', St w [] w' [] → m5_7 (fun v w' => v = .bool true ∧ Below w.heap.size w w') (.int .i64 parts) (.slice A l.length c) (.slice none 0 0) (.int .i64 1) (.slice none 0 0) (.int .i64 1) (.bool true) w' := fun w' hS => by
      unfold m5_7
      refine cond_t rfl ?_
      refine valP_ok (eq24 _ _ _ _ _) ?_
      refine cond_dt rfl ?_
      refine valP_ok (eq24 _ _ _ _ _) ?_
      refine pick_dt rfl ?_
      refine cond_dt rfl ?_
      refine builtin_ok (len22 _) ?_
      refine builtin_ok (len22 _) ?_
      refine valP_ok (add_ok _ _ _ (by omega) (by omega) _) ?_
      refine valP_ok (eq3 _ _ _ _ _) ?_
      refine pick_dt rfl ?_
      refine cond_dt (by omega) ?_
      refine callR (by kernel_rfl) (awake_ret hS) ?_
      rintro v w4 ⟨rfl, hS⟩
      refine pick_dt (by omega) ?_
      unfold m5_8
      exact ⟨rfl, hS.below⟩
    unfold m5_4
    refine valP_ok (lss_ok _ _ _ _ _ _ _) ?_
    by_cases h1 : parts < 1
    · refine cond_dt h1 ?_
      first | refine pick_dt (by first | assumption | omega) ?_ | refine pick_df (by first | assumption | omega) ?_ | refine pick_t (by first | rfl | assumption) ?_ | refine pick_f (by first | rfl | assumption) ?_
      exact fin _ hS
    · have h2 : 64 < parts := by unfold badParts at hbad; omega
      refine cond_df h1 ?_
      refine valP_ok (gtr_ok _ _ _ _ _ _ _) ?_
      first | refine pick_dt (by first | assumption | omega) ?_ | refine pick_df (by first | assumption | omega) ?_ | refine pick_t (by first | rfl | assumption) ?_ | refine pick_f (by first | rfl | assumption) ?_
      rw [decide_eq_true h2]
      exact fin _ hS
  · have hlen := stickyL_len (old := r) hbad hspec.1 hMl hMb
    have hlen2 := rangeL_len hbad hMl
    rw [if_neg hbad] at hv
    obtain ⟨B1, d1, rfl, hS⟩ := hv
    refine valP_ok (extract_ok _ 0 rfl _) ?_
    refine valP_ok (extract_ok _ 1 rfl _) ?_
    unfold m5_3
    refine callR (by kernel_rfl) (sticky_ret hp hp' hS (Bes.of_old0 hr) (Bes.of_old0 hrr) (by omega) hb hbr) ?_
    intro v w3 hv
    rw [if_neg hbad] at hv
    obtain ⟨B2, d2, rfl, hS⟩ := hv
    refine valP_ok (extract_ok _ 0 rfl _) ?_
    refine valP_ok (extract_ok _ 1 rfl _) ?_
    have f1 : ((membersL l).length = 0 ∧ rangeL parts (membersL l) = List.replicate parts.toNat 0) ∨ (0 < (membersL l).length ∧ Fair parts (membersL l) (rangeL parts (membersL l))) := by
      by_cases h : (membersL l).length = 0
      · exact .inl ⟨h, by unfold rangeL; rw [h]; rfl⟩
      · exact .inr ⟨by omega, range_fair (by omega) hbad hspec.1 hM1⟩
    have f2 : ((membersL l).length = 0 ∧ stickyL parts (membersL l) r = List.replicate parts.toNat 0) ∨ (0 < (membersL l).length ∧ Fair parts (membersL l) (stickyL parts (membersL l) r)) := by
      by_cases h : (membersL l).length = 0
      · exact .inl ⟨h, by unfold stickyL; rw [if_pos h]⟩
      · exact .inr ⟨by omega, sticky_fair (by omega) hbad hspec.1 hMl hMb hM1⟩
    have hb2 := hbad
    unfold badParts at hb2
    unfold m5_4
    refine valP_ok (lss_ok _ _ _ _ _ _ _) ?_
    refine cond_df (by omega) ?_
    refine valP_ok (gtr_ok _ _ _ _ _ _ _) ?_
    refine pick_df (by omega) ?_
    unfold m5_7
    refine cond_df (by omega) ?_
    unfold m5_5
    refine valP_ok (eq24 _ _ _ _ _) ?_
    refine cond_dt rfl ?_
    refine valP_ok (eq24 _ _ _ _ _) ?_
    refine pick_dt rfl ?_
    refine cond_dt rfl ?_
    refine callR (by kernel_rfl) (fair_ret hbad hS (Bes.of_row 1 rfl) (Bes.of_old0 hr) (by omega) f1) ?_
    rintro v w4 ⟨rfl, hS⟩
    refine pick_dt rfl ?_
    refine cond_t rfl ?_
    refine callR (by kernel_rfl) (fair_ret hbad hS (Bes.of_row 0 rfl) (Bes.of_old0 hr) (by omega) f2) ?_
    rintro v w5 ⟨rfl, hS⟩
    refine pick_t rfl ?_
    refine cond_t rfl ?_
    refine callR (by kernel_rfl) (awake_ret hS) ?_
    rintro v w6 ⟨rfl, hS⟩
    refine pick_t rfl ?_
    unfold m5_6
    exact ⟨rfl, hS.below⟩

end Go.Proofs.Ytlgafiekogajfaa.M
