/- All tallies are together as many as came; what comes often has a tally. -/
import Derived.Test.YtcfdalmnhgiaeaaX9
namespace Go.Proofs.Ytcfdalmnhgiaeaa.M
open Go.Proofs.Ytcfdalmnhgiaeaa.F Go.RowKit
set_option linter.unusedVariables false
set_option linter.unusedSimpArgs false
set_option maxRecDepth 100000
set_option maxHeartbeats 2000000
attribute [local irreducible] Res.cells Res.row Res.map Res.any World.cell? World.frozen? Instr.fieldAt Instr.loadAt Instr.storeAt Instr.indexAt Instr.lookup Instr.mapUpdate Instr.box Instr.build Instr.buildSlice Instr.extract Instr.alloc Instr.field Instr.index Instr.sliceAt Instr.makeSlice Instr.makeMap Instr.makeFunc binS Op.unary Sem.run
theorem sumN_take {l : List Ta} {i : Nat} (hi : i < l.length) : sumN (l.take (i + 1)) = sumN (l.take i) + l[i].n := by
  unfold sumN
  rw [List.take_succ_eq_append_getElem hi, List.map_append, List.sum_append]
  simp
theorem sumN_perm {a b : List Ta} (h : a.Perm b) : sumN a = sumN b := by
  unfold sumN
  induction h with
  | nil => rfl
  | cons x _ ih => simp [ih]
  | swap x y l => simp; omega
  | trans _ _ h1 h2 => exact h1.trans h2
theorem sumN_ge {m : Int} {l : List Ta} (h : ∀ t ∈ l, m ≤ t.n) : (l.length : Int) * m ≤ sumN l := by
  induction l with
  | nil => simp [sumN]
  | cons a l ih =>
    have h1 := h a (.head _)
    have h2 := ih (fun t ht => h t (.tail _ ht))
    unfold sumN at *
    simp only [List.length_cons, List.map_cons, List.sum_cons]
    have : ((l.length + 1 : Nat) : Int) * m = (l.length : Int) * m + m := by rw [Int.natCast_add, Int.add_mul]; simp
    omega
theorem le_div_of {k n : Int} {ks : List Int} {l : List Ta} (hok : HOk k n l) (h : Inv k ks l) (hf : ¬ (l.length : Int) < k) {m : Int} (hm : ∀ t ∈ l, m ≤ t.n) : m ≤ (ks.length : Int) / k := by
  have h1 := sumN_ge hm
  rw [h.sum] at h1
  have h2 := hok.len
  have h3 := hok.most1
  have e : (l.length : Int) = k := by omega
  rw [e] at h1
  exact (Int.le_ediv_iff_mul_le (by omega)).2 (by rw [Int.mul_comm]; exact h1)
theorem over_le {k n : Int} {ks : List Int} {l : List Ta} (hok : HOk k n l) (h : Inv k ks l) {t : Ta} (ht : t ∈ l) : t.over ≤ (ks.length : Int) / k := by
  have h3 := hok.most1
  by_cases hf : (l.length : Int) < k
  · rw [(h.few hf t ht).1]
    exact Int.ediv_nonneg (by omega) (by omega)
  · exact le_div_of hok h hf (h.ov t ht)
theorem has_of {k n : Int} {ks : List Int} {l : List Ta} (hok : HOk k n l) (h : Inv k ks l) {q : Int} (hq : ¬ tm ks q ≤ (ks.length : Int) / k) : ∃ t ∈ l, t.key = q := by
  have h3 := hok.most1
  apply Classical.byContradiction
  intro hn
  have hno : ∀ t ∈ l, t.key ≠ q := fun t ht e => hn ⟨t, ht, e⟩
  apply hq
  by_cases hf : (l.length : Int) < k
  · rw [h.out0 hf q hno]
    exact Int.ediv_nonneg (by omega) (by omega)
  · exact le_div_of hok h hf (h.out1 q hno)
theorem any_take {l : List Ta} {j : Nat} (hj : j < l.length) (q : Int) : (l.take (j + 1)).any (fun t => decide (t.key = q)) = ((l.take j).any (fun t => decide (t.key = q)) || decide (l[j].key = q)) := by
  rw [List.take_succ_eq_append_getElem hj, List.any_append]
  simp
theorem has_inner {w0 w : World} {R : Value → World → Prop} {K : Value → World → Prop} {g o c c2 i : Nat} {A2 : Option Addr} {L : List Res} {l : List Int} {k : Int} {T : List Ta} (hTl : T.length ≤ 64) (hlt : i < l.length) (hl : l.length ≤ 400)
    (hr : Rd w0 1 (some ⟨g, o, none⟩) l.length (ints l)) (hS : St w0 [] w (hrow (.slice A2 T.length c2) T :: L))
    (hhas : ¬ tm l l[i] ≤ (l.length : Int) / k → T.any (fun t => decide (t.key = l[i])) = true)
    (hK : ∀ w, St w0 [] w (hrow (.slice A2 T.length c2) T :: L) → K (.int .i64 ((i + 1 : Nat) : Int)) w) :
    m6_24 R K (.slice (some ⟨g, o, none⟩) l.length c) (.int .i64 k) (.slice A2 T.length c2) (.int .i64 i) (.bool (decide (tm l l[i] ≤ (l.length : Int) / k))) w := by
  unfold m6_24
  refine cond_split (fun h => ?_) (fun h => ?_)
  · unfold m6_13
    refine valP_ok (add_ok _ _ _ (by omega) (by omega) _) ?_
    exact hK _ hS
  have ht := hhas h
  unfold m6_14
  unfold m6_15
  unfold m6_19
  refine loop_in (fun s w' => ∃ j : Nat, s = (.bool ((T.take j).any (fun t => decide (t.key = l[i]))), .int .i64 j) ∧ j ≤ T.length ∧ St w0 [] w' (hrow (.slice A2 T.length c2) T :: L))
    (fun s _ => T.length - (intOf s.2).toNat) ⟨0, by simp, by omega, hS⟩ ?_
  clear hS
  rintro s w ⟨j, rfl, hj, hS⟩
  unfold m6_20
  refine builtin_ok (len28 _) ?_
  refine valP_ok (lss_ok _ _ _ _ _ _ _) ?_
  unfold m6_23
  refine cond_split (fun h => ?_) (fun h => ?_)
  · have hjt : j < T.length := by omega
    have e := any_take hjt l[i]
    unfold m6_21
    refine cond_bsplit (fun hb => ?_) (fun hb => ?_)
    · rw [hb] at e ⊢
      refine pick_t rfl ?_
      refine drawn_ok hS ?_
      intro w hS
      unfold m6_22
      refine valP_ok (add_ok _ _ _ (by omega) (by omega) _) ?_
      exact ⟨⟨j + 1, by rw [e]; rfl, by omega, hS⟩, by simp [intOf]; omega⟩
    · obtain ⟨g2, rfl⟩ := hS.row_ptr 0 rfl (by omega)
      obtain ⟨h0, h1, h2⟩ := tally_at 0 hS rfl hjt
      have hc := (hr.old0 hS).cell_ (ints_get hlt)
      first | refine valQ_ok (ixz28 (by first | assumption | omega)) ?_ | refine valQ_ok (ix28 (by first | assumption | omega)) ?_
      first | refine valQ_ok (fa45_0 _) ?_ | refine valQ_ok (fao45_0 _ _) ?_
      first | refine valQ_load ld3 (hS.cell 0 rfl rfl) ?_ | refine valQ_load ld3 (hS.cell 1 rfl rfl) ?_ | refine valQ_load ld3 (hS.cell 2 rfl rfl) ?_ | refine valQ_load ld3 (hS.cell 3 rfl rfl) ?_ | refine valQ_load ld3 (hS.cell 4 rfl rfl) ?_ | refine valQ_load ld3 (by assumption) ?_
      first | refine valQ_ok (ixz22 (by first | assumption | omega)) ?_ | refine valQ_ok (ix22 (by first | assumption | omega)) ?_
      first | refine valQ_load ld3 (hS.cell 0 rfl rfl) ?_ | refine valQ_load ld3 (hS.cell 1 rfl rfl) ?_ | refine valQ_load ld3 (hS.cell 2 rfl rfl) ?_ | refine valQ_load ld3 (hS.cell 3 rfl rfl) ?_ | refine valQ_load ld3 (hS.cell 4 rfl rfl) ?_ | refine valQ_load ld3 (by assumption) ?_
      refine valQ_ok (eq3 _ _ _ _) ?_
      rw [hb] at e ⊢
      refine pick_f rfl ?_
      refine drawn_ok hS ?_
      intro w hS
      unfold m6_22
      refine valP_ok (add_ok _ _ _ (by omega) (by omega) _) ?_
      exact ⟨⟨j + 1, by rw [e]; rfl, by omega, hS⟩, by simp [intOf]; omega⟩
  · have : j = T.length := by omega
    subst this
    rw [List.take_length, ht]
    unfold m6_16
    refine valP_ok (notb_ok _ _) ?_
    unfold m6_17
    refine cond_f rfl ?_
    unfold m6_13
    refine valP_ok (add_ok _ _ _ (by omega) (by omega) _) ?_
    exact hK _ hS
theorem has_ret {w : World} {A : Option Addr} {c : Nat} {l : List Int} {most : Int} (hm : -9223372036854775808 ≤ most) (hm' : most ≤ 9223372036854775807) (hc : l.length ≤ c) (hr : Rd w 1 A l.length (ints l)) :
    Ret Try.prog 6 #[.int .i64 most, .slice A l.length c] w fun v w' => v = .bool true ∧ Below w.heap.size w w' := by
  refine s6 _ _ ?_
  unfold m6 m6_0
  unfold m6_1
  refine callR (by kernel_rfl) (some_ret A c l w hc) ?_
  rintro v w ⟨rfl, rfl⟩
  have hS := St.start w
  have hr := Rd.take_ints hr 400
  have hl : (l.take 400).length ≤ 400 := by rw [List.length_take]; omega
  generalize l.take 400 = l at hr hl ⊢
  have hin := manyI_in most
  unfold m6_2
  refine callR (by kernel_rfl) (made_ret hm hm' hl hS (Bes.of_old0 hr)) ?_
  rintro v w1 ⟨b, A1, c1, rfl, hok, hS⟩
  have hinv : Inv (manyI most) l (madeL most l) := inv_all hin.1 (by omega) l (by omega)
  have q1 := tmod_in most (show (0 : Int) < 16 by omega)
  have q2 := tmod_in (most.tmod 16 + 16) (show (0 : Int) < 16 by omega)
  unfold m6_3
  first | refine valP_ok (eq24n _ _ _) ?_ | refine valP_ok (eq24s _ _ _ _) ?_
  unfold m6_33
  refine cond_f rfl ?_
  unfold m6_4
  refine valP_ok (remt_ok hm hm' (by omega) (by omega) _) ?_
  refine valP_ok (add_ok _ _ _ (by omega) (by omega) _) ?_
  refine valP_ok (remt_ok (by omega) (by omega) (by omega) (by omega) _) ?_
  refine valP_ok (add_ok _ _ _ (by omega) (by omega) _) ?_
  change m6_5 _ _ _ (.int .i64 (manyI most)) _
  have hdiv : 0 ≤ (l.length : Int) / manyI most := Int.ediv_nonneg (by omega) (by omega)
  unfold m6_5
  refine callR (by kernel_rfl) (top_ret 64 hok hS) ?_
  rintro v w4 ⟨A2, c2, rfl, hS⟩
  rw [topL_all hok] at hS ⊢
  have hS := hS.perm (perm3 _ _ _ _)
  have hover : ∀ t ∈ topL (madeL most l), t.over ≤ (l.length : Int) / manyI most := fun t ht => over_le hok hinv ((topL_perm _).mem_iff.1 ht)
  have hhas : ∀ q, ¬ tm l q ≤ (l.length : Int) / manyI most → (topL (madeL most l)).any (fun t => decide (t.key = q)) = true := fun q hq => by
    obtain ⟨t, ht, e⟩ := has_of hok hinv hq
    exact List.any_eq_true.2 ⟨t, (topL_perm _).mem_iff.2 ht, by simpa using e⟩
  have hTl : (topL (madeL most l)).length ≤ 64 := by have := hok.len; rw [(topL_perm _).length_eq]; omega
  generalize topL (madeL most l) = T at hS hover hhas hTl ⊢
  generalize manyI most = k at *
  generalize madeL most l = l1 at *
  unfold m6_6
  unfold m6_26
  refine loop_in (fun s w' => ∃ i : Nat, s = .int .i64 i ∧ i ≤ T.length ∧ St w [] w' (hcl b k l.length (.slice A1 l1.length c1) :: hrow (.slice A1 l1.length c1) l1 :: hrow (.slice A2 T.length c2) T :: []))
    (fun s _ => T.length - (intOf s).toNat) ⟨0, rfl, by omega, hS⟩ ?_
  clear hS
  rintro s w5 ⟨i, rfl, hi, hS⟩
  unfold m6_27
  refine builtin_ok (len28 _) ?_
  refine valP_ok (lss_ok _ _ _ _ _ _ _) ?_
  unfold m6_32
  refine cond_split (fun h => ?_) (fun h => ?_)
  · have hlt : i < T.length := by omega
    obtain ⟨g, rfl⟩ := hS.row_ptr 2 rfl (by omega)
    obtain ⟨h0, h1, h2⟩ := tally_at 2 hS rfl hlt
    have ho := hover _ (List.getElem_mem hlt)
    unfold m6_28
    first | refine valQ_ok (ixz28 (by first | assumption | omega)) ?_ | refine valQ_ok (ix28 (by first | assumption | omega)) ?_
    first | refine valQ_ok (fa45_2 _) ?_ | refine valQ_ok (fao45_2 _ _) ?_
    first | refine valQ_load ld3 (hS.cell 0 rfl rfl) ?_ | refine valQ_load ld3 (hS.cell 1 rfl rfl) ?_ | refine valQ_load ld3 (hS.cell 2 rfl rfl) ?_ | refine valQ_load ld3 (hS.cell 3 rfl rfl) ?_ | refine valQ_load ld3 (hS.cell 4 rfl rfl) ?_ | refine valQ_load ld3 (by assumption) ?_
    refine builtinQ_ok (len22) ?_
    refine valQ_ok (quo_ok _ _ _ (by omega) (by omega) (by omega)) ?_
    refine valQ_ok (gtr_ok _ _ _ _ _ _) ?_
    refine drawn_ok hS ?_
    intro w hS
    unfold m6_30
    refine cond_df (by omega) ?_
    unfold m6_29
    refine valP_ok (add_ok _ _ _ (by omega) (by omega) _) ?_
    exact ⟨⟨i + 1, rfl, by omega, hS⟩, by simp [intOf]; omega⟩
  clear h hi
  unfold m6_7
  unfold m6_10
  refine loop_in (fun s w' => ∃ i : Nat, s = .int .i64 i ∧ i ≤ l.length ∧ St w [] w' (hcl b k l.length (.slice A1 l1.length c1) :: hrow (.slice A1 l1.length c1) l1 :: hrow (.slice A2 T.length c2) T :: []))
    (fun s _ => l.length - (intOf s).toNat) ⟨0, rfl, by omega, hS⟩ ?_
  clear hS
  rintro s w6 ⟨i, rfl, hi, hS⟩
  unfold m6_11
  refine builtin_ok (len22 _) ?_
  refine valP_ok (lss_ok _ _ _ _ _ _ _) ?_
  unfold m6_25
  refine cond_split (fun h => ?_) (fun h => ?_)
  · have hlt : i < l.length := by omega
    obtain ⟨g, o, rfl⟩ := hr.some_ (by omega) (by omega)
    unfold m6_12
    refine drawn_ok hS ?_
    intro w hS
    have hro := hr.old0 hS
    have hc := hro.cell_ (ints_get hlt)
    refine pureP_ok (ix22 hlt) ?_
    have hpm := perm3 (hcl b k l.length (.slice A1 l1.length c1)) (hrow (.slice A1 l1.length c1) l1) (hrow (.slice A2 T.length c2) T) []
    refine ⟨?_, ?_⟩
    · first | refine valP_ok (ld3 (hS.cell 0 rfl rfl)) ?_ | refine valP_ok (ld3 (hS.cell 1 rfl rfl)) ?_ | refine valP_ok (ld3 (hS.cell 2 rfl rfl)) ?_ | refine valP_ok (ld3 (hS.cell 3 rfl rfl)) ?_ | refine valP_ok (ld3 (hS.cell 4 rfl rfl)) ?_ | refine valP_ok (ld3 (by assumption)) ?_
      refine ⟨?_, ?_⟩
      · refine callR (by kernel_rfl) (times_ret _ _ _ _ _ hro (by omega)) ?_
        rintro v w ⟨rfl, rfl⟩
        refine builtin_ok (len22 _) ?_
        refine pureP_ok (quo_ok _ _ _ (by omega) (by omega) (by omega)) ?_
        refine pureP_ok (leq_ok _ _ _ _ _ _) ?_
        refine has_inner hTl hlt hl hr ((hS.perm (perm3 _ _ _ _)).perm (perm3 _ _ _ _)) (hhas _) (fun w hS => ⟨⟨i + 1, rfl, by omega, hS.perm (perm3 _ _ _ _)⟩, by simp [intOf]; omega⟩)
      · refine builtin_ok (len22 _) ?_
        refine pureP_ok (quo_ok _ _ _ (by omega) (by omega) (by omega)) ?_
        refine callR (by kernel_rfl) (times_ret _ _ _ _ _ hro (by omega)) ?_
        rintro v w ⟨rfl, rfl⟩
        refine pureP_ok (leq_ok _ _ _ _ _ _) ?_
        refine has_inner hTl hlt hl hr ((hS.perm (perm3 _ _ _ _)).perm (perm3 _ _ _ _)) (hhas _) (fun w hS => ⟨⟨i + 1, rfl, by omega, hS.perm (perm3 _ _ _ _)⟩, by simp [intOf]; omega⟩)
    · refine builtin_ok (len22 _) ?_
      refine pureP_ok (quo_ok _ _ _ (by omega) (by omega) (by omega)) ?_
      first | refine valP_ok (ld3 (hS.cell 0 rfl rfl)) ?_ | refine valP_ok (ld3 (hS.cell 1 rfl rfl)) ?_ | refine valP_ok (ld3 (hS.cell 2 rfl rfl)) ?_ | refine valP_ok (ld3 (hS.cell 3 rfl rfl)) ?_ | refine valP_ok (ld3 (hS.cell 4 rfl rfl)) ?_ | refine valP_ok (ld3 (by assumption)) ?_
      refine callR (by kernel_rfl) (times_ret _ _ _ _ _ hro (by omega)) ?_
      rintro v w ⟨rfl, rfl⟩
      refine pureP_ok (leq_ok _ _ _ _ _ _) ?_
      refine has_inner hTl hlt hl hr ((hS.perm (perm3 _ _ _ _)).perm (perm3 _ _ _ _)) (hhas _) (fun w hS => ⟨⟨i + 1, rfl, by omega, hS.perm (perm3 _ _ _ _)⟩, by simp [intOf]; omega⟩)
  · unfold m6_8
    refine callR (by kernel_rfl) (awake_ret hS) ?_
    rintro v w6 ⟨rfl, hS⟩
    unfold m6_9
    exact ⟨rfl, hS.below⟩

end Go.Proofs.Ytcfdalmnhgiaeaa.M
