/- With the same members again all stays as it is. -/
import Derived.Test.YtlgafiekogajfaaA13
namespace Go.Proofs.Ytlgafiekogajfaa.M
open Go.Proofs.Ytlgafiekogajfaa.F Go.RowKit
set_option linter.unusedVariables false
set_option linter.unusedSimpArgs false
set_option maxRecDepth 100000
set_option maxHeartbeats 2000000
attribute [local irreducible] Res.cells Res.row Res.map Res.any World.cell? World.frozen? Instr.fieldAt Instr.loadAt Instr.storeAt Instr.indexAt Instr.lookup Instr.mapUpdate Instr.box Instr.build Instr.buildSlice Instr.extract Instr.alloc Instr.field Instr.index Instr.sliceAt Instr.makeSlice Instr.makeMap Instr.makeFunc binS Op.unary Sem.run
open Go.Proofs.Ytlgafiekogajfaa.L Go.Shelf
theorem sticky_again {parts : Int} {M old : List Int} (hp : ¬ badParts parts) (hr : M.Pairwise (· < ·)) (hl : M.length ≤ 1000) (hM : ∀ x ∈ M, -9223372036854775808 ≤ x ∧ x ≤ 9223372036854775807) (h0 : ∀ x ∈ M, 0 < x) : stickyL parts M (stickyL parts M old) = stickyL parts M old := by
  by_cases h : M.length = 0
  · unfold stickyL
    rw [if_pos h, if_pos h]
  · exact sticky_id (by omega) hp hr hl hM h0 (sticky_fair (by omega) hp hr hl hM h0)
theorem sticky_range {parts : Int} {M : List Int} (hp : ¬ badParts parts) (hr : M.Pairwise (· < ·)) (hl : M.length ≤ 1000) (hM : ∀ x ∈ M, -9223372036854775808 ≤ x ∧ x ≤ 9223372036854775807) (h0 : ∀ x ∈ M, 0 < x) : stickyL parts M (rangeL parts M) = rangeL parts M := by
  by_cases h : M.length = 0
  · unfold stickyL rangeL
    rw [if_pos h, h]
    rfl
  · exact sticky_id (by omega) hp hr hl hM h0 (range_fair (by omega) hp hr h0)
theorem stays_ret {w : World} {A B : Option Addr} {c d : Nat} {l r : List Int} {parts : Int} (hp : -9223372036854775808 ≤ parts) (hp' : parts ≤ 9223372036854775807) (hc : l.length ≤ c) (hd : r.length ≤ d) (hr : Rd w 1 A l.length (ints l)) (hrr : Rd w 1 B r.length (ints r))
    (hb : ∀ x ∈ l, -9223372036854775808 ≤ x ∧ x ≤ 9223372036854775807) (hbr : ∀ x ∈ r, -9223372036854775808 ≤ x ∧ x ≤ 9223372036854775807) :
    Ret Try.prog 7 #[.int .i64 parts, .slice A l.length c, .slice B r.length d] w fun v w' => v = .bool true ∧ Below w.heap.size w w' := by
  refine s7 _ _ _ ?_
  unfold m7 m7_0
  unfold m7_1
  refine callR (by kernel_rfl) (some_ret A c l w hc) ?_
  rintro v w ⟨rfl, rfl⟩
  refine callR (by kernel_rfl) (some_ret B d r w hd) ?_
  rintro v w ⟨rfl, rfl⟩
  have hS := St.start w
  have hr := Rd.take_ints hr 70
  have hrr := Rd.take_ints hrr 70
  have hb : ∀ x ∈ l.take 70, -9223372036854775808 ≤ x ∧ x ≤ 9223372036854775807 := fun x hx => hb x (List.mem_of_mem_take hx)
  have hbr : ∀ x ∈ r.take 70, -9223372036854775808 ≤ x ∧ x ≤ 9223372036854775807 := fun x hx => hbr x (List.mem_of_mem_take hx)
  have hl : (l.take 70).length ≤ 70 := by rw [List.length_take]; omega
  have hl2 : (r.take 70).length ≤ 70 := by rw [List.length_take]; omega
  generalize l.take 70 = l at hr hl hb ⊢
  generalize r.take 70 = r at hrr hl2 hbr ⊢
  have hspec := membersL_spec l
  have hMl : (membersL l).length ≤ 1000 := by have := membersL_len l; omega
  have hMb : ∀ x ∈ membersL l, -9223372036854775808 ≤ x ∧ x ≤ 9223372036854775807 := fun x hx => hb x ((hspec.2 x).1 hx).1
  have hM1 : ∀ x ∈ membersL l, 0 < x := fun x hx => ((hspec.2 x).1 hx).2
  have fin : ∀ (a b : List Int) (n : Int) (A3 A4 A5 A6 : Option Addr) (c3 c4 c5 c6 : Nat) (L : List Res) (w1 : World), a.length ≤ 1000000 → b.length ≤ 1000000 → St w [] w1 L → Bes w [] L 1 A3 a.length (ints a) → Bes w [] L 1 A4 a.length (ints a) → Bes w [] L 1 A5 b.length (ints b) → Bes w [] L 1 A6 b.length (ints b) →
      m7_6 (fun v w' => v = .bool true ∧ Below w.heap.size w w') (.slice A3 a.length c3) (.int .i64 n) (.slice A4 a.length c4) (.int .i64 n) (.slice A5 b.length c5) (.slice A6 b.length c6) w1 := fun a b n A3 A4 A5 A6 c3 c4 c5 c6 L w1 ha hb' hS h3 h4 h5 h6 => by
    unfold m7_6
    refine valP_ok (eq24 _ _ _ _ _) ?_
    refine cond_dt rfl ?_
    refine callR (by kernel_rfl) (same_ret (a := a) (b := a) ha hS h3 h4) ?_
    rintro v w2 ⟨rfl, hS⟩
    refine pick_dt rfl ?_
    refine cond_dt rfl ?_
    refine callR (by kernel_rfl) (same_ret (a := b) (b := b) hb' hS h5 h6) ?_
    rintro v w3 ⟨rfl, hS⟩
    refine pick_dt rfl ?_
    refine cond_dt rfl ?_
    refine callR (by kernel_rfl) (awake_ret hS) ?_
    rintro v w4 ⟨rfl, hS⟩
    refine pick_dt rfl ?_
    unfold m7_7
    exact ⟨rfl, hS.below⟩
  unfold m7_2
  refine callR (by kernel_rfl) (sticky_ret hp hp' hS (Bes.of_old0 hr) (Bes.of_old0 hrr) (by omega) hb hbr) ?_
  intro v w2 hv
  by_cases hbad : badParts parts
  · rw [if_pos hbad] at hv
    obtain ⟨rfl, hS⟩ := hv
    refine valP_ok (extract_ok _ 0 rfl _) ?_
    refine valP_ok (extract_ok _ 1 rfl _) ?_
    unfold m7_3
    refine callR (by kernel_rfl) (sticky_ret (old := []) hp hp' hS (Bes.of_old0 hr) (Bes.of_old0 (Rd.nil_ _ _ _)) (by omega) hb (by simp)) ?_
    intro v w3 hv
    rw [if_pos hbad] at hv
    obtain ⟨rfl, hS⟩ := hv
    refine valP_ok (extract_ok _ 0 rfl _) ?_
    refine valP_ok (extract_ok _ 1 rfl _) ?_
    unfold m7_4
    refine callR (by kernel_rfl) (range_ret hp hp' hS (Bes.of_old0 hr) (by omega) hb) ?_
    intro v w4 hv
    rw [if_pos hbad] at hv
    obtain ⟨rfl, hS⟩ := hv
    refine valP_ok (extract_ok _ 0 rfl _) ?_
    refine valP_ok (extract_ok _ 1 rfl _) ?_
    unfold m7_5
    refine callR (by kernel_rfl) (sticky_ret (old := []) hp hp' hS (Bes.of_old0 hr) (Bes.of_old0 (Rd.nil_ _ _ _)) (by omega) hb (by simp)) ?_
    intro v w5 hv
    rw [if_pos hbad] at hv
    obtain ⟨rfl, hS⟩ := hv
    refine valP_ok (extract_ok _ 0 rfl _) ?_
    refine valP_ok (extract_ok _ 1 rfl _) ?_
    exact fin [] [] 1 none none none none 0 0 0 0 _ _ (by simp) (by simp) hS (Bes.of_old0 (Rd.nil_ _ _ _)) (Bes.of_old0 (Rd.nil_ _ _ _)) (Bes.of_old0 (Rd.nil_ _ _ _)) (Bes.of_old0 (Rd.nil_ _ _ _))
  · have hlen := stickyL_len (old := r) hbad hspec.1 hMl hMb
    have hlen2 := rangeL_len hbad hMl
    have hp64 : parts.toNat ≤ 64 := by unfold badParts at hbad; omega
    have hag := sticky_again (old := r) hbad hspec.1 hMl hMb hM1
    have hrg := sticky_range hbad hspec.1 hMl hMb hM1
    have hsb : ∀ x ∈ stickyL parts (membersL l) r, -9223372036854775808 ≤ x ∧ x ≤ 9223372036854775807 := fun x hx => by
      by_cases h : (membersL l).length = 0
      · unfold stickyL at hx
        rw [if_pos h] at hx
        have := List.eq_of_mem_replicate hx
        omega
      · exact hMb x ((sticky_fair (by omega) hbad hspec.1 hMl hMb hM1).inM x hx)
    have hrb : ∀ x ∈ rangeL parts (membersL l), -9223372036854775808 ≤ x ∧ x ≤ 9223372036854775807 := fun x hx => by
      by_cases h : (membersL l).length = 0
      · unfold rangeL at hx
        rw [h] at hx
        have := List.eq_of_mem_replicate hx
        omega
      · exact hMb x ((range_fair (by omega) hbad hspec.1 hM1).inM x hx)
    rw [if_neg hbad] at hv
    obtain ⟨B1, d1, rfl, hS⟩ := hv
    refine valP_ok (extract_ok _ 0 rfl _) ?_
    refine valP_ok (extract_ok _ 1 rfl _) ?_
    unfold m7_3
    refine callR (by kernel_rfl) (sticky_ret hp hp' hS (Bes.of_old0 hr) (Bes.of_row 0 rfl) (by omega) hb hsb) ?_
    intro v w3 hv
    rw [if_neg hbad, hag] at hv
    obtain ⟨B2, d2, rfl, hS⟩ := hv
    refine valP_ok (extract_ok _ 0 rfl _) ?_
    refine valP_ok (extract_ok _ 1 rfl _) ?_
    unfold m7_4
    refine callR (by kernel_rfl) (range_ret hp hp' hS (Bes.of_old0 hr) (by omega) hb) ?_
    intro v w4 hv
    rw [if_neg hbad] at hv
    obtain ⟨B3, d3, rfl, hS⟩ := hv
    refine valP_ok (extract_ok _ 0 rfl _) ?_
    refine valP_ok (extract_ok _ 1 rfl _) ?_
    unfold m7_5
    refine callR (by kernel_rfl) (sticky_ret hp hp' hS (Bes.of_old0 hr) (Bes.of_row 0 rfl) (by omega) hb hrb) ?_
    intro v w5 hv
    rw [if_neg hbad, hrg] at hv
    obtain ⟨B4, d4, rfl, hS⟩ := hv
    refine valP_ok (extract_ok _ 0 rfl _) ?_
    refine valP_ok (extract_ok _ 1 rfl _) ?_
    exact fin (stickyL parts (membersL l) r) (rangeL parts (membersL l)) 0 B1 B2 B3 B4 d1 d2 d3 d4 _ _ (by omega) hlen2 hS (Bes.of_row 3 rfl) (Bes.of_row 2 rfl) (Bes.of_row 1 rfl) (Bes.of_row 0 rfl)

end Go.Proofs.Ytlgafiekogajfaa.M
