/- A clone; the heaviest; a copy. -/
import Derived.Test.YtcfdalmnhgiaeaaX5
namespace Go.Proofs.Ytcfdalmnhgiaeaa.M
open Go.Proofs.Ytcfdalmnhgiaeaa.F Go.RowKit
set_option linter.unusedVariables false
set_option linter.unusedSimpArgs false
set_option maxRecDepth 100000
set_option maxHeartbeats 2000000
attribute [local irreducible] Res.cells Res.row Res.map Res.any World.cell? World.frozen? Instr.fieldAt Instr.loadAt Instr.storeAt Instr.indexAt Instr.lookup Instr.mapUpdate Instr.box Instr.build Instr.buildSlice Instr.extract Instr.alloc Instr.field Instr.index Instr.sliceAt Instr.makeSlice Instr.makeMap Instr.makeFunc binS Op.unary Sem.run
open Go.Sort Go.Shelf
theorem clone_ret {w0 w : World} {F : List Nat} {L : List Res} {A : Option Addr} {c : Nat} {l : List Ta} (hl : l.length ≤ 64) (hS : St w0 F w L) (hR : Bes w0 F L 3 A l.length (l.flatMap encT)) :
    Ret Try.prog 28 #[.slice A l.length c] w fun v w' => ∃ A' c', v = .slice A' l.length c' ∧ St w0 F w' (hrow (.slice A' l.length c') l :: L) := by
  refine s28 _ ?_
  unfold m28
  unfold m28_0
  unfold m28_1
  refine valP_ok (eq28 _ _ _ _ _ _) ?_
  unfold m28_4
  cases A with
  | none =>
    have h0 : l = [] := by
      rcases Nat.eq_zero_or_pos l.length with h | h
      · exact List.eq_nil_of_length_eq_zero h
      · obtain ⟨g, o, hA⟩ := (hR.rd hS).some_ h (by omega); cases hA
    subst h0
    refine cond_t rfl ?_
    unfold m28_5
    exact ⟨_, _, rfl, hS.row_nil 45 3⟩
  | some a =>
    refine cond_f rfl ?_
    unfold m28_2
    refine newslice_ok (bs28_0 _) hS ?_
    intro b5 w hS
    have hS := hS.as_row 0 3 0 rfl rfl (by decide)
    simp only [List.set_cons_zero] at hS
    refine append_rd 0 sl28 hS rfl (hR.rd1 hS) rfl (fun u hu => ?_) (by unfold maxLen; omega) (by omega) ?_
    · obtain ⟨t, _, ht⟩ := List.mem_flatMap.1 hu
      simp [encT] at ht
      rcases ht with rfl | rfl | rfl <;> rfl
    intro A' c' w hS
    simp only [List.set_cons_zero, Nat.zero_add, List.nil_append] at hS ⊢
    unfold m28_3
    exact ⟨_, _, rfl, hS⟩
theorem heaviest_eq {l a b : List Ta} (hk : l.Pairwise fun a b => a.key ≠ b.key) (ha : a.Perm l) (hb : b.Perm l) (sa : Heaviest a) (sb : Heaviest b) : a = b := by
  refine List.Perm.eq_of_pairwise (fun x y hx hy h1 h2 => ?_) sa sb (ha.trans hb.symm)
  rw [topI_lt] at h1 h2
  have e : x.key = y.key := by simp at h1 h2; omega
  obtain ⟨i, hi, rfl⟩ := List.mem_iff_getElem.1 (ha.mem_iff.1 hx)
  obtain ⟨j, hj, rfl⟩ := List.mem_iff_getElem.1 (hb.mem_iff.1 hy)
  rw [List.pairwise_iff_getElem] at hk
  rcases Nat.lt_trichotomy i j with c | c | c
  · exact absurd e (hk i j hi hj c)
  · subst c; rfl
  · exact absurd e.symm (hk j i hj hi c)
/-- The tallies, the heavier ones first. -/
def topL (l : List Ta) : List Ta := l.mergeSort fun a b => !ltOf topI b a
theorem topL_perm (l : List Ta) : (topL l).Perm l := List.mergeSort_perm _ _
theorem topL_sorted (l : List Ta) : Heaviest (topL l) := by
  have := List.pairwise_mergeSort (le := fun a b : Ta => !ltOf topI b a) (fun a b c h1 h2 => by rw [topI_lt] at *; simp at *; omega) (fun a b => by rw [topI_lt, topI_lt]; simp; omega) l
  exact this.imp fun h => by simpa using h
theorem top_ret {w0 w : World} {F : List Nat} {L : List Res} {b : Nat} {most n : Int} {A : Option Addr} {c : Nat} {l : List Ta} (m : Int) (hok : HOk most n l) (hS : St w0 F w (hcl b most n (.slice A l.length c) :: hrow (.slice A l.length c) l :: L)) :
    Ret Try.prog 19 #[.pointer (some ⟨b, 0, none⟩), .int .i64 m] w fun v w' => ∃ A' c', v = .slice A' ((topL l).take m.toNat).length c' ∧
      St w0 F w' (hrow (.slice A' ((topL l).take m.toNat).length c') ((topL l).take m.toNat) :: hcl b most n (.slice A l.length c) :: hrow (.slice A l.length c) l :: L) := by
  obtain ⟨h1, h2, h3, h4, h5, h6, h7⟩ := hok
  refine s19 _ _ ?_
  unfold m19
  unfold m19_0
  unfold m19_1
  first | refine valP_ok (eq24n _ _ _) ?_ | refine valP_ok (eq24s _ _ _ _) ?_
  refine cond_f rfl ?_
  refine valP_ok (leq_ok _ _ _ _ _ _ _) ?_
  first | refine pick_dt (by first | assumption | omega) ?_ | refine pick_df (by first | assumption | omega) ?_ | refine pick_t (by first | rfl | assumption) ?_ | refine pick_f (by first | rfl | assumption) ?_
  unfold m19_6
  by_cases hm : m ≤ 0
  · refine cond_dt hm ?_
    unfold m19_7
    have : m.toNat = 0 := by omega
    rw [this, List.take_zero]
    exact ⟨_, _, rfl, hS.row_nil 45 3⟩
  · refine cond_df hm ?_
    unfold m19_2
    refine nil_ok ?_
    first | refine valP_ok (fa52_2 _ _) ?_ | refine valP_ok (fao52_2 _ _ _) ?_
    first | refine valP_ok (ld28 (hS.cell 0 rfl rfl)) ?_ | refine valP_ok (ld28 (hS.cell 1 rfl rfl)) ?_ | refine valP_ok (ld28 (hS.cell 2 rfl rfl)) ?_ | refine valP_ok (ld28 (hS.cell 3 rfl rfl)) ?_ | refine valP_ok (ld28 (hS.cell 4 rfl rfl)) ?_ | refine valP_ok (ld28 (by assumption)) ?_
    refine callR (by kernel_rfl) (clone_ret (by omega) hS (Bes.of_row 1 rfl)) ?_
    rintro v w ⟨A', c', rfl, hS⟩
    unfold m19_3
    refine callR (by kernel_rfl) (sort_ret 0 (by omega) hS rfl) ?_
    rintro v w ⟨l', hp, hs, hS⟩
    simp only [List.set_cons_zero] at hS
    obtain rfl := heaviest_eq h7 hp (topL_perm l) hs (topL_sorted l)
    have hlen : (topL l).length = l.length := hp.length_eq
    rw [← hlen]
    unfold m19_4
    refine builtin_ok (len28 _) ?_
    refine builtin_ok (min_run _ _ _) ?_
    have e : min m ((topL l).length : Int) = (((topL l).take m.toNat).length : Nat) := by rw [List.length_take]; omega
    have hmx := hS.row_max 0 rfl
    rw [e]
    refine valP_ok (sh28 (by rw [List.length_take]; omega) _) ?_
    unfold m19_5
    have hS' := hS.row_take (k := ((topL l).take m.toNat).length) 0 rfl (by rw [List.length_take]; omega)
    simp only [List.set_cons_zero] at hS'
    rw [flat_take encT 3 encT_len, List.length_take, ← List.take_take, List.take_length] at hS'
    refine ⟨A', c', rfl, ?_⟩
    rw [← hlen] at hS'
    rw [List.length_take]
    unfold hrow at *
    rw [List.length_take]
    exact hS'
theorem copy_ret {w0 w : World} {F : List Nat} {L : List Res} {b : Nat} {most n : Int} {A : Option Addr} {c : Nat} {l : List Ta} (hok : HOk most n l) (hS : St w0 F w (hcl b most n (.slice A l.length c) :: hrow (.slice A l.length c) l :: L)) :
    Ret Try.prog 23 #[.pointer (some ⟨b, 0, none⟩)] w fun v w' => ∃ b' A' c', v = .pointer (some ⟨b', 0, none⟩) ∧
      St w0 F w' (hcl b' most n (.slice A' l.length c') :: hrow (.slice A' l.length c') l :: hcl b most n (.slice A l.length c) :: hrow (.slice A l.length c) l :: L) := by
  obtain ⟨h1, h2, h3, h4, h5, h6, h7⟩ := hok
  refine s23 _ ?_
  unfold m23
  unfold m23_0
  unfold m23_1
  first | refine valP_ok (eq24n _ _ _) ?_ | refine valP_ok (eq24s _ _ _ _) ?_
  unfold m23_6
  refine cond_f rfl ?_
  unfold m23_2
  refine nil_ok ?_
  first | refine ls52 0 hS rfl ?_ | refine ls52 1 hS rfl ?_ | refine ls52 2 hS rfl ?_ | refine ls52 3 hS rfl ?_ | refine ls52 4 hS rfl ?_ | refine valP_ok (ld52 (by assumption) (by assumption) (by assumption)) ?_
  refine new_ok (al52 _) hS ?_
  intro b3 w hS
  first | refine ss52 0 hS rfl rfl rfl rfl ?_ | refine ss52 1 hS rfl rfl rfl rfl ?_ | refine ss52 2 hS rfl rfl rfl rfl ?_ | refine ss52 3 hS rfl rfl rfl rfl ?_ | refine ss52 4 hS rfl rfl rfl rfl ?_
  intro w hS
  simp only [List.set_cons_zero, List.set_cons_succ] at hS
  unfold m23_3
  refine nil_ok ?_
  first | refine valP_ok (fa52_2 _ _) ?_ | refine valP_ok (fao52_2 _ _ _) ?_
  first | refine valP_ok (ld28 (hS.cell 0 rfl rfl)) ?_ | refine valP_ok (ld28 (hS.cell 1 rfl rfl)) ?_ | refine valP_ok (ld28 (hS.cell 2 rfl rfl)) ?_ | refine valP_ok (ld28 (hS.cell 3 rfl rfl)) ?_ | refine valP_ok (ld28 (hS.cell 4 rfl rfl)) ?_ | refine valP_ok (ld28 (by assumption)) ?_
  refine callR (by kernel_rfl) (clone_ret (by omega) hS (Bes.of_row 2 rfl)) ?_
  rintro v w ⟨A', c', rfl, hS⟩
  first | refine valP_ok (fa52_2 _ _) ?_ | refine valP_ok (fao52_2 _ _ _) ?_
  first | refine store_at 0 st28 hS rfl (by simp) rfl ?_ | refine store_at 1 st28 hS rfl (by simp) rfl ?_ | refine store_at 2 st28 hS rfl (by simp) rfl ?_ | refine store_at 3 st28 hS rfl (by simp) rfl ?_ | refine store_at 4 st28 hS rfl (by simp) rfl ?_
  intro w hS
  simp only [List.set_cons_zero, List.set_cons_succ] at hS
  unfold m23_4 m23_5
  exact ⟨_, A', c', rfl, hS.perm (.swap _ _ _)⟩
/-! ### One that is none -/
theorem add_nil (Ak : Option Addr) (n ck : Nat) (w : World) : Ret Try.prog 13 #[.pointer none, .slice Ak n ck] w fun v w' => v = .int .i64 1 ∧ w' = w := by
  refine s13 _ _ ?_
  unfold m13
  unfold m13_0
  unfold m13_1
  first | refine valP_ok (eq24n _ _ _) ?_ | refine valP_ok (eq24s _ _ _ _) ?_
  unfold m13_16
  refine cond_t rfl ?_
  unfold m13_17
  exact ⟨rfl, rfl⟩
theorem seen_nil (w : World) : Ret Try.prog 17 #[.pointer none] w fun v w' => v = .int .i64 0 ∧ w' = w := by
  refine s17 _ ?_
  unfold m17
  unfold m17_0
  unfold m17_1
  first | refine valP_ok (eq24n _ _ _) ?_ | refine valP_ok (eq24s _ _ _ _) ?_
  unfold m17_4
  refine cond_t rfl ?_
  unfold m17_5
  exact ⟨rfl, rfl⟩
theorem count_nil (key : Int) (w : World) : Ret Try.prog 15 #[.pointer none, .int .i64 key] w fun v w' => v = .tuple #[.int .i64 0, .int .i64 0] ∧ w' = w := by
  refine s15 _ _ ?_
  unfold m15
  unfold m15_0
  unfold m15_1
  first | refine valP_ok (eq24n _ _ _) ?_ | refine valP_ok (eq24s _ _ _ _) ?_
  unfold m15_11
  refine cond_t rfl ?_
  unfold m15_12
  exact ⟨rfl, rfl⟩
theorem top_nil (m : Int) (w : World) : Ret Try.prog 19 #[.pointer none, .int .i64 m] w fun v w' => v = .slice none 0 0 ∧ w' = w := by
  refine s19 _ _ ?_
  unfold m19
  unfold m19_0
  unfold m19_1
  first | refine valP_ok (eq24n _ _ _) ?_ | refine valP_ok (eq24s _ _ _ _) ?_
  refine cond_t rfl ?_
  first | refine pick_dt (by first | assumption | omega) ?_ | refine pick_df (by first | assumption | omega) ?_ | refine pick_t (by first | rfl | assumption) ?_ | refine pick_f (by first | rfl | assumption) ?_
  unfold m19_6
  refine cond_t rfl ?_
  unfold m19_7
  exact ⟨rfl, rfl⟩
theorem copy_nil (w : World) : Ret Try.prog 23 #[.pointer none] w fun v w' => v = .pointer none ∧ w' = w := by
  refine s23 _ ?_
  unfold m23
  unfold m23_0
  unfold m23_1
  first | refine valP_ok (eq24n _ _ _) ?_ | refine valP_ok (eq24s _ _ _ _) ?_
  unfold m23_6
  refine cond_t rfl ?_
  unfold m23_7
  exact ⟨rfl, rfl⟩

end Go.Proofs.Ytcfdalmnhgiaeaa.M
