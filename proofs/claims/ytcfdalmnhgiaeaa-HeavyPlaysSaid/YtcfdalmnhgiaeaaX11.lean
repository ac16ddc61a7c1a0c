/- All tallies are together as many as came. -/
import Derived.Test.YtcfdalmnhgiaeaaX10
namespace Go.Proofs.Ytcfdalmnhgiaeaa.M
open Go.Proofs.Ytcfdalmnhgiaeaa.F Go.RowKit
set_option linter.unusedVariables false
set_option linter.unusedSimpArgs false
set_option maxRecDepth 100000
set_option maxHeartbeats 2000000
attribute [local irreducible] Res.cells Res.row Res.map Res.any World.cell? World.frozen? Instr.fieldAt Instr.loadAt Instr.storeAt Instr.indexAt Instr.lookup Instr.mapUpdate Instr.box Instr.build Instr.buildSlice Instr.extract Instr.alloc Instr.field Instr.index Instr.sliceAt Instr.makeSlice Instr.makeMap Instr.makeFunc binS Op.unary Sem.run
theorem keys_perm {a b : List Ta} (h : a.Perm b) (hb : b.Pairwise fun x y => x.key ≠ y.key) : a.Pairwise fun x y => x.key ≠ y.key := (h.pairwise_iff (fun h e => h e.symm)).2 hb
theorem len_kinds {k n : Int} {ks : List Int} {l : List Ta} (hok : HOk k n l) (h : Inv k ks l) : (l.length : Int) = min (kinds ks : Int) k := by
  have := hok.len
  have := h.kin1
  by_cases hf : (l.length : Int) < k
  · have := h.kin0 hf; omega
  · omega
theorem sums_ret {w : World} {A : Option Addr} {c : Nat} {l : List Int} {most : Int} (hm : -9223372036854775808 ≤ most) (hm' : most ≤ 9223372036854775807) (hc : l.length ≤ c) (hr : Rd w 1 A l.length (ints l)) :
    Ret Try.prog 5 #[.int .i64 most, .slice A l.length c] w fun v w' => v = .bool true ∧ Below w.heap.size w w' := by
  refine s5 _ _ ?_
  unfold m5 m5_0
  unfold m5_1
  refine callR (by kernel_rfl) (some_ret A c l w hc) ?_
  rintro v w ⟨rfl, rfl⟩
  have hS := St.start w
  have hr := Rd.take_ints hr 400
  have hlc : (l.take 400).length ≤ c := by rw [List.length_take]; omega
  have hl : (l.take 400).length ≤ 400 := by rw [List.length_take]; omega
  generalize l.take 400 = l at hr hl hlc ⊢
  have hin := manyI_in most
  unfold m5_2
  refine callR (by kernel_rfl) (made_ret hm hm' hl hS (Bes.of_old0 hr)) ?_
  rintro v w1 ⟨b, A1, c1, rfl, hok, hS⟩
  have hinv : Inv (manyI most) l (madeL most l) := inv_all hin.1 (by omega) l (by omega)
  unfold m5_3
  first | refine valP_ok (eq24n _ _ _) ?_ | refine valP_ok (eq24s _ _ _ _) ?_
  unfold m5_30
  refine cond_f rfl ?_
  unfold m5_4
  refine callR (by kernel_rfl) (top_ret 64 hok hS) ?_
  rintro v w4 ⟨A2, c2, rfl, hS⟩
  rw [topL_all hok] at hS ⊢
  have hS := hS.perm (perm3 _ _ _ _)
  have hsum : sumN (topL (madeL most l)) = l.length := by rw [sumN_perm (topL_perm _), hinv.sum]
  have hkeys := List.pairwise_iff_getElem.1 (keys_perm (topL_perm _) hok.keys)
  have hlen : ((topL (madeL most l)).length : Int) = min (kinds l : Int) (manyI most) := by rw [(topL_perm _).length_eq]; exact len_kinds hok hinv
  have hTl : (topL (madeL most l)).length ≤ 64 := by have := hok.len; rw [(topL_perm _).length_eq]; omega
  have hbig : ∀ t ∈ topL (madeL most l), 0 ≤ t.n ∧ t.n ≤ 400 := fun t ht => by have := hok.each t ((topL_perm _).mem_iff.1 ht); omega
  generalize topL (madeL most l) = T at hS hsum hkeys hlen hTl hbig ⊢
  unfold m5_5
  unfold m5_6
  unfold m5_17
  refine loop_in (fun s w' => ∃ i : Nat, s = (.int .i64 (sumN (T.take i)), .int .i64 i) ∧ i ≤ T.length ∧ 0 ≤ sumN (T.take i) ∧ sumN (T.take i) ≤ 400 * i ∧ St w [] w' (hcl b (manyI most) l.length (.slice A1 (madeL most l).length c1) :: hrow (.slice A1 (madeL most l).length c1) (madeL most l) :: hrow (.slice A2 T.length c2) T :: []))
    (fun s _ => T.length - (intOf s.2).toNat) ⟨0, rfl, by omega, by simp [sumN], by simp [sumN], hS⟩ ?_
  clear hS
  rintro s w5 ⟨i, rfl, hi, hs0, hs1, hS⟩
  unfold m5_18
  refine builtin_ok (len28 _) ?_
  refine valP_ok (lss_ok _ _ _ _ _ _ _) ?_
  unfold m5_29
  refine cond_split (fun h => ?_) (fun h => ?_)
  · have hlt : i < T.length := by omega
    obtain ⟨g, rfl⟩ := hS.row_ptr 2 rfl (by omega)
    obtain ⟨h0, h1, h2⟩ := tally_at 2 hS rfl hlt
    have hb := hbig _ (List.getElem_mem hlt)
    have hst := sumN_take hlt
    unfold m5_19
    first | refine valP_ok (ixz28 (by first | assumption | omega) _) ?_ | refine valP_ok (ix28 (by first | assumption | omega) _) ?_
    first | refine valP_ok (fa45_1 _ _) ?_ | refine valP_ok (fao45_1 _ _ _) ?_
    first | refine valP_ok (ld3 (hS.cell 0 rfl rfl)) ?_ | refine valP_ok (ld3 (hS.cell 1 rfl rfl)) ?_ | refine valP_ok (ld3 (hS.cell 2 rfl rfl)) ?_ | refine valP_ok (ld3 (hS.cell 3 rfl rfl)) ?_ | refine valP_ok (ld3 (hS.cell 4 rfl rfl)) ?_ | refine valP_ok (ld3 (by assumption)) ?_
    refine valP_ok (add_ok _ _ _ (by omega) (by omega) _) ?_
    unfold m5_21
    unfold m5_22
    clear h0 h1 h2
    refine loop_in (fun s w' => ∃ j : Nat, s = .int .i64 j ∧ j ≤ i ∧ St w [] w' (hcl b (manyI most) l.length (.slice A1 (madeL most l).length c1) :: hrow (.slice A1 (madeL most l).length c1) (madeL most l) :: hrow (.slice (some ⟨g, 0, none⟩) T.length c2) T :: []))
      (fun s _ => i - (intOf s).toNat) ⟨0, rfl, by omega, hS⟩ ?_
    clear hS
    rintro s w6 ⟨j, rfl, hj, hS⟩
    unfold m5_23
    refine valP_ok (lss_ok _ _ _ _ _ _ _) ?_
    unfold m5_28
    refine cond_split (fun h => ?_) (fun h => ?_)
    · have hlt2 : j < T.length := by omega
      obtain ⟨h0, h1, h2⟩ := tally_at 2 hS rfl hlt
      obtain ⟨g0, g1, g2⟩ := tally_at 2 hS rfl hlt2
      unfold m5_24
      first | refine valQ_ok (ixz28 (by first | assumption | omega)) ?_ | refine valQ_ok (ix28 (by first | assumption | omega)) ?_
      first | refine valQ_ok (fa45_0 _) ?_ | refine valQ_ok (fao45_0 _ _) ?_
      first | refine valQ_load ld3 (hS.cell 0 rfl rfl) ?_ | refine valQ_load ld3 (hS.cell 1 rfl rfl) ?_ | refine valQ_load ld3 (hS.cell 2 rfl rfl) ?_ | refine valQ_load ld3 (hS.cell 3 rfl rfl) ?_ | refine valQ_load ld3 (hS.cell 4 rfl rfl) ?_ | refine valQ_load ld3 (by assumption) ?_
      first | refine valQ_ok (ixz28 (by first | assumption | omega)) ?_ | refine valQ_ok (ix28 (by first | assumption | omega)) ?_
      first | refine valQ_ok (fa45_0 _) ?_ | refine valQ_ok (fao45_0 _ _) ?_
      first | refine valQ_load ld3 (hS.cell 0 rfl rfl) ?_ | refine valQ_load ld3 (hS.cell 1 rfl rfl) ?_ | refine valQ_load ld3 (hS.cell 2 rfl rfl) ?_ | refine valQ_load ld3 (hS.cell 3 rfl rfl) ?_ | refine valQ_load ld3 (hS.cell 4 rfl rfl) ?_ | refine valQ_load ld3 (by assumption) ?_
      refine valQ_ok (eq3 _ _ _ _) ?_
      refine drawn_ok hS ?_
      intro w hS
      unfold m5_26
      refine cond_df (hkeys j i hlt2 hlt (by omega)) ?_
      unfold m5_25
      refine valP_ok (add_ok _ _ _ (by omega) (by omega) _) ?_
      exact ⟨⟨j + 1, rfl, by omega, hS⟩, by simp [intOf]; omega⟩
    · unfold m5_20
      refine valP_ok (add_ok _ _ _ (by omega) (by omega) _) ?_
      refine ⟨⟨i + 1, by rw [hst]; rfl, by omega, by omega, by omega, hS⟩, by simp [intOf]; omega⟩
  have : i = T.length := by omega
  subst this
  rw [List.take_length, hsum]
  clear h hi hs0 hs1
  unfold m5_7
  unfold m5_8
  unfold m5_11
  refine loop_in (fun s w' => ∃ i : Nat, s = (.int .i64 (kinds (l.take i) : Nat), .int .i64 i) ∧ i ≤ l.length ∧ kinds (l.take i) ≤ i ∧ St w [] w' (hcl b (manyI most) l.length (.slice A1 (madeL most l).length c1) :: hrow (.slice A1 (madeL most l).length c1) (madeL most l) :: hrow (.slice A2 T.length c2) T :: []))
    (fun s _ => l.length - (intOf s.2).toNat) ⟨0, rfl, by omega, Nat.le_refl _, hS⟩ ?_
  clear hS
  rintro s w6 ⟨i, rfl, hi, hki, hS⟩
  unfold m5_12
  refine builtin_ok (len22 _) ?_
  refine valP_ok (lss_ok _ _ _ _ _ _ _) ?_
  unfold m5_16
  refine cond_split (fun h => ?_) (fun h => ?_)
  · have hlt : i < l.length := by omega
    obtain ⟨g, o, rfl⟩ := hr.some_ (by omega) (by omega)
    have hk := kinds_take hlt
    have e : (l.take i).length = i := by rw [List.length_take]; omega
    unfold m5_13
    refine drawn_ok hS ?_
    intro w hS
    have hro := hr.old0 hS
    have hc := hro.cell_ (ints_get hlt)
    refine valS_ok (sh22 (by omega) _) ?_
    refine valS_ok (ix22 hlt _) ?_
    first | refine valS_ok (ld3 (hS.cell 0 rfl rfl)) ?_ | refine valS_ok (ld3 (hS.cell 1 rfl rfl)) ?_ | refine valS_ok (ld3 (hS.cell 2 rfl rfl)) ?_ | refine valS_ok (ld3 (hS.cell 3 rfl rfl)) ?_ | refine valS_ok (ld3 (hS.cell 4 rfl rfl)) ?_ | refine valS_ok (ld3 (by assumption)) ?_
    refine callR (by kernel_rfl) (by have := times_ret (some ⟨g, o, none⟩) c (l.take i) l[i] _ (Rd.take_ints hro i) (by omega); rwa [e] at this) ?_
    rintro v w ⟨rfl, rfl⟩
    refine valP_ok (eq3 _ _ _ _ _) ?_
    unfold m5_15
    refine cond_split (fun hz => ?_) (fun hz => ?_)
    · rw [if_pos hz] at hk
      refine valP_ok (add_ok _ _ _ (by omega) (by omega) _) ?_
      unfold m5_14
      refine valP_ok (add_ok _ _ _ (by omega) (by omega) _) ?_
      refine ⟨⟨i + 1, by rw [hk]; rfl, by omega, by omega, hS⟩, by simp [intOf]; omega⟩
    · rw [if_neg hz] at hk
      unfold m5_14
      refine valP_ok (add_ok _ _ _ (by omega) (by omega) _) ?_
      refine ⟨⟨i + 1, by rw [hk]; rfl, by omega, by omega, hS⟩, by simp [intOf]; omega⟩
  have : i = l.length := by omega
  subst this
  rw [List.take_length]
  have q1 := tmod_in most (show (0 : Int) < 16 by omega)
  have q2 := tmod_in (most.tmod 16 + 16) (show (0 : Int) < 16 by omega)
  unfold m5_9
  refine builtin_ok (len22 _) ?_
  refine valP_ok (eq3 _ _ _ _ _) ?_
  refine cond_dt rfl ?_
  refine callR (by kernel_rfl) (seen_ret hS) ?_
  rintro v w ⟨rfl, rfl⟩
  refine builtin_ok (len22 _) ?_
  refine valP_ok (eq3 _ _ _ _ _) ?_
  refine pick_dt rfl ?_
  refine cond_dt rfl ?_
  refine builtin_ok (len28 _) ?_
  refine valP_ok (remt_ok hm hm' (by omega) (by omega) _) ?_
  refine valP_ok (add_ok _ _ _ (by omega) (by omega) _) ?_
  refine valP_ok (remt_ok (by omega) (by omega) (by omega) (by omega) _) ?_
  refine valP_ok (add_ok _ _ _ (by omega) (by omega) _) ?_
  refine builtin_ok (min_run _ _ _) ?_
  refine valP_ok (eq3 _ _ _ _ _) ?_
  refine pick_dt rfl ?_
  refine cond_dt hlen ?_
  refine callR (by kernel_rfl) (awake_ret hS) ?_
  rintro v w6 ⟨rfl, hS⟩
  refine pick_dt hlen ?_
  unfold m5_10
  exact ⟨rfl, hS.below⟩

end Go.Proofs.Ytcfdalmnhgiaeaa.M
