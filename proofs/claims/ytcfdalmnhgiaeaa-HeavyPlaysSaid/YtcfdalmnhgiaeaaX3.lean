/- Keys are counted. -/
import Derived.Test.YtcfdalmnhgiaeaaX2
namespace Go.Proofs.Ytcfdalmnhgiaeaa.M
open Go.Proofs.Ytcfdalmnhgiaeaa.F Go.RowKit
set_option linter.unusedVariables false
set_option linter.unusedSimpArgs false
set_option maxRecDepth 100000
set_option maxHeartbeats 2000000
attribute [local irreducible] Res.cells Res.row Res.map Res.any World.cell? World.frozen? Instr.fieldAt Instr.loadAt Instr.storeAt Instr.indexAt Instr.lookup Instr.mapUpdate Instr.box Instr.build Instr.buildSlice Instr.extract Instr.alloc Instr.field Instr.index Instr.sliceAt Instr.makeSlice Instr.makeMap Instr.makeFunc binS Op.unary Sem.run
theorem addAll_take {most : Int} {l : List Ta} {keys : List Int} {i : Nat} (hi : i < keys.length) : addAll most l (keys.take (i + 1)) = addOne most (addAll most l (keys.take i)) keys[i] := by
  unfold addAll
  rw [List.take_succ_eq_append_getElem hi, List.foldl_append]
  rfl
theorem add_ret {w0 w : World} {F : List Nat} {L : List Res} {b : Nat} {most n : Int} {A Ak : Option Addr} {c ck : Nat} {l : List Ta} {keys : List Int} (hS : St w0 F w (hcl b most n (.slice A l.length c) :: hrow (.slice A l.length c) l :: L))
    (hok : HOk most n l) (hk : Bes w0 F L 1 Ak keys.length (ints keys)) (hkl : keys.length ≤ 1000000) :
    Ret Try.prog 13 #[.pointer (some ⟨b, 0, none⟩), .slice Ak keys.length ck] w fun v w' =>
      if (keys.length : Int) > 1099511627776 - n then v = .int .i64 6 ∧ St w0 F w' (hcl b most n (.slice A l.length c) :: hrow (.slice A l.length c) l :: L)
      else v = .int .i64 0 ∧ ∃ A' c', St w0 F w' (hcl b most (n + keys.length) (.slice A' (addAll most l keys).length c') :: hrow (.slice A' (addAll most l keys).length c') (addAll most l keys) :: L) := by
  have hn1 := hok.n1
  have hn2 := hok.n2
  refine s13 _ _ ?_
  unfold m13
  unfold m13_0
  unfold m13_1
  first | refine valP_ok (eq24n _ _ _) ?_ | refine valP_ok (eq24s _ _ _ _) ?_
  unfold m13_16
  refine cond_f rfl ?_
  refine builtin_ok (len22 _) ?_
  refine nil_ok ?_
  first | refine valP_ok (fa52_1 _ _) ?_ | refine valP_ok (fao52_1 _ _ _) ?_
  first | refine valP_ok (ld3 (hS.cell 0 rfl rfl)) ?_ | refine valP_ok (ld3 (hS.cell 1 rfl rfl)) ?_ | refine valP_ok (ld3 (hS.cell 2 rfl rfl)) ?_ | refine valP_ok (ld3 (hS.cell 3 rfl rfl)) ?_ | refine valP_ok (ld3 (hS.cell 4 rfl rfl)) ?_ | refine valP_ok (ld3 (by assumption)) ?_
  refine valP_ok (sub_ok _ _ _ (by omega) (by omega) _) ?_
  refine valP_ok (gtr_ok _ _ _ _ _ _ _) ?_
  unfold m13_18
  refine cond_split (fun h => ?_) (fun h => ?_)
  · unfold m13_19
    show ite _ _ _
    rw [if_pos (by omega)]
    exact ⟨rfl, hS⟩
  unfold m13_2
  refine builtin_ok (len22 _) ?_
  unfold m13_5
  refine loop_in (fun s w' => ∃ i : Nat, s = .int .i64 i ∧ i ≤ keys.length ∧ HOk most (n + i) (addAll most l (keys.take i)) ∧ ∃ A' c', St w0 F w' (hcl b most (n + i) (.slice A' (addAll most l (keys.take i)).length c') :: hrow (.slice A' (addAll most l (keys.take i)).length c') (addAll most l (keys.take i)) :: L))
    (fun s _ => keys.length - (intOf s).toNat) ⟨0, rfl, by omega, by simpa [addAll] using hok, A, c, by simpa [addAll] using hS⟩ ?_
  clear hS hok
  rintro s w ⟨i, rfl, hi, hok, A, c, hS⟩
  unfold m13_6
  refine valP_ok (lss_ok _ _ _ _ _ _ _) ?_
  unfold m13_7
  refine cond_split (fun hlt' => ?_) (fun hge => ?_)
  rotate_left
  · unfold m13_3 m13_4
    have : i = keys.length := by omega
    subst this
    rw [List.take_length] at hS
    show ite _ _ _
    rw [if_neg (by omega)]
    exact ⟨rfl, A, c, hS⟩
  have hlt : i < keys.length := by omega
  have hstep := addAll_take (most := most) (l := l) hlt
  have hok1 := hok.one (by omega) keys[i]
  rw [← hstep] at hok1
  have hr := hk.rd2 hS
  obtain ⟨g, o, rfl⟩ := hr.some_ (by omega) (by omega)
  have hc := hr.cell_ (ints_get hlt)
  unfold m13_8
  refine valP_ok (ix22 hlt _) ?_
  first | refine valP_ok (ld3 (hS.cell 0 rfl rfl)) ?_ | refine valP_ok (ld3 (hS.cell 1 rfl rfl)) ?_ | refine valP_ok (ld3 (hS.cell 2 rfl rfl)) ?_ | refine valP_ok (ld3 (hS.cell 3 rfl rfl)) ?_ | refine valP_ok (ld3 (hS.cell 4 rfl rfl)) ?_ | refine valP_ok (ld3 (by assumption)) ?_
  clear hc hr
  generalize hl' : addAll most l (keys.take i) = l' at *
  generalize hk' : keys[i] = key at *
  clear hl' hk'
  obtain ⟨h1, h2, h3, h4, h5, h6, h7⟩ := hok
  unfold m13_10
  refine nil_ok ?_
  first | refine valP_ok (fa52_1 _ _) ?_ | refine valP_ok (fao52_1 _ _ _) ?_
  first | refine valP_ok (ld3 (hS.cell 0 rfl rfl)) ?_ | refine valP_ok (ld3 (hS.cell 1 rfl rfl)) ?_ | refine valP_ok (ld3 (hS.cell 2 rfl rfl)) ?_ | refine valP_ok (ld3 (hS.cell 3 rfl rfl)) ?_ | refine valP_ok (ld3 (hS.cell 4 rfl rfl)) ?_ | refine valP_ok (ld3 (by assumption)) ?_
  refine valP_ok (add_ok _ _ _ (by omega) (by omega) _) ?_
  refine nil_ok ?_
  first | refine valP_ok (fa52_1 _ _) ?_ | refine valP_ok (fao52_1 _ _ _) ?_
  first | refine store_at 0 st3 hS rfl (by simp) rfl ?_ | refine store_at 1 st3 hS rfl (by simp) rfl ?_ | refine store_at 2 st3 hS rfl (by simp) rfl ?_ | refine store_at 3 st3 hS rfl (by simp) rfl ?_ | refine store_at 4 st3 hS rfl (by simp) rfl ?_
  intro w hS
  simp only [List.set_cons_zero, List.set_cons_succ] at hS
  unfold m13_11
  refine callR (by kernel_rfl) (find_ret (by omega) hS) ?_
  rintro v w ⟨rfl, hS⟩
  unfold m13_12
  refine valP_ok (geq_ok _ _ _ _ _ _ _) ?_
  unfold m13_13
  rcases findI_cases l' key with ⟨j, hj, hf, hkey, hbef⟩ | ⟨hf, hnone⟩
  · -- it is there
    rw [hf]
    have hup : addOne most l' key = l'.set j ⟨l'[j].key, l'[j].n + 1, l'[j].over⟩ := by
      unfold addOne
      rw [List.findIdx?_eq_some_iff_getElem.2 ⟨hj, by simpa using hkey, fun q hq => by simpa using hbef q (by omega) hq⟩]
      simp only
      rw [getElem!_pos l' j hj]
    have hm := h6 l'[j] (List.getElem_mem hj)
    obtain ⟨g', rfl⟩ := hS.row_ptr 1 rfl (by omega)
    obtain ⟨t0, t1, t2⟩ := tally_at 1 hS rfl hj
    refine cond_dt (by omega) ?_
    refine nil_ok ?_
    first | refine valP_ok (fa52_2 _ _) ?_ | refine valP_ok (fao52_2 _ _ _) ?_
    first | refine valP_ok (ld28 (hS.cell 0 rfl rfl)) ?_ | refine valP_ok (ld28 (hS.cell 1 rfl rfl)) ?_ | refine valP_ok (ld28 (hS.cell 2 rfl rfl)) ?_ | refine valP_ok (ld28 (hS.cell 3 rfl rfl)) ?_ | refine valP_ok (ld28 (hS.cell 4 rfl rfl)) ?_ | refine valP_ok (ld28 (by assumption)) ?_
    refine valP_ok (ixz28 hj _) ?_
    first | refine valP_ok (fa45_1 _ _) ?_ | refine valP_ok (fao45_1 _ _ _) ?_
    first | refine valP_ok (ld3 (hS.cell 0 rfl rfl)) ?_ | refine valP_ok (ld3 (hS.cell 1 rfl rfl)) ?_ | refine valP_ok (ld3 (hS.cell 2 rfl rfl)) ?_ | refine valP_ok (ld3 (hS.cell 3 rfl rfl)) ?_ | refine valP_ok (ld3 (hS.cell 4 rfl rfl)) ?_ | refine valP_ok (ld3 (by assumption)) ?_
    refine valP_ok (add_ok _ _ _ (by omega) (by omega) _) ?_
    refine valP_ok (ixz28 hj _) ?_
    first | refine valP_ok (fa45_1 _ _) ?_ | refine valP_ok (fao45_1 _ _ _) ?_
    have hlen : (l'.flatMap encT).length = l'.length * 3 := flat_len encT 3 encT_len l'
    refine store_row 1 st3 hS rfl (by rw [hlen]; omega) rfl ?_
    intro w hS
    have e1 := flat_set encT 3 encT_len l' j 1 hj (.int .i64 (l'[j].n + 1)) ⟨l'[j].key, l'[j].n + 1, l'[j].over⟩ (by omega) (by simp [encT])
    simp only [List.set_cons_zero, List.set_cons_succ] at hS
    rw [e1, ← hup, ← hstep] at hS
    have hlen2 : l'.length = (addAll most l (keys.take (i + 1))).length := by rw [hstep, hup, List.length_set]
    unfold m13_9
    refine valP_ok (add_ok _ _ _ (by omega) (by omega) _) ?_
    refine ⟨⟨i + 1, rfl, by omega, by rw [show n + ((i + 1 : Nat) : Int) = n + i + 1 by omega]; exact hok1, some ⟨g', 0, none⟩, c, ?_⟩, by simp [intOf]; omega⟩
    unfold hrow hcl
    rw [← hlen2, show n + ((i + 1 : Nat) : Int) = n + i + 1 by omega]
    exact hS
  · rw [hf]
    refine cond_df (by omega) ?_
    refine nil_ok ?_
    first | refine valQ_ok (fa52_2 _) ?_ | refine valQ_ok (fao52_2 _ _) ?_
    first | refine valQ_load ld28 (hS.cell 0 rfl rfl) ?_ | refine valQ_load ld28 (hS.cell 1 rfl rfl) ?_ | refine valQ_load ld28 (hS.cell 2 rfl rfl) ?_ | refine valQ_load ld28 (hS.cell 3 rfl rfl) ?_ | refine valQ_load ld28 (hS.cell 4 rfl rfl) ?_ | refine valQ_load ld28 (by assumption) ?_
    refine builtinQ_ok (len28) ?_
    refine nil_ok ?_
    first | refine valQ_ok (fa52_0 _) ?_ | refine valQ_ok (fao52_0 _ _) ?_
    first | refine valQ_load ld3 (hS.cell 0 rfl rfl) ?_ | refine valQ_load ld3 (hS.cell 1 rfl rfl) ?_ | refine valQ_load ld3 (hS.cell 2 rfl rfl) ?_ | refine valQ_load ld3 (hS.cell 3 rfl rfl) ?_ | refine valQ_load ld3 (hS.cell 4 rfl rfl) ?_ | refine valQ_load ld3 (by assumption) ?_
    refine valQ_ok (lss_ok _ _ _ _ _ _) ?_
    refine drawn_ok hS ?_
    intro w hS
    unfold m13_14
    have hnf : l'.findIdx? (fun t => t.key = key) = none := List.findIdx?_eq_none_iff.2 fun t ht => by
      obtain ⟨q, hq, rfl⟩ := List.mem_iff_getElem.1 ht
      simpa using hnone q hq
    by_cases hroom : (l'.length : Int) < most
    · -- there is room
      have hup : addOne most l' key = l' ++ [⟨key, 1, 0⟩] := by unfold addOne; rw [hnf]; simp only; rw [if_pos hroom]
      refine cond_dt hroom ?_
      refine nil_ok ?_
      first | refine valP_ok (fa52_2 _ _) ?_ | refine valP_ok (fao52_2 _ _ _) ?_
      first | refine valP_ok (ld28 (hS.cell 0 rfl rfl)) ?_ | refine valP_ok (ld28 (hS.cell 1 rfl rfl)) ?_ | refine valP_ok (ld28 (hS.cell 2 rfl rfl)) ?_ | refine valP_ok (ld28 (hS.cell 3 rfl rfl)) ?_ | refine valP_ok (ld28 (hS.cell 4 rfl rfl)) ?_ | refine valP_ok (ld28 (by assumption)) ?_
      refine valP_ok (bd45_0_1 rfl rfl _) ?_
      refine newslice_ok (bs28_1 _) hS ?_
      intro b95 w hS
      refine append_ok 2 sl28 hS rfl (m := 1) (news := encT ⟨key, 1, 0⟩) rfl (fun j u hj => ?_) (by simp [encT, Value.oneCell']) (by unfold maxLen; omega) (by omega) ?_
      · rw [add_none, Nat.zero_add]
        exact hS.cell 0 rfl hj
      intro A' c' w hS
      simp only [List.set_cons_zero, List.set_cons_succ] at hS
      refine nil_ok ?_
      first | refine valP_ok (fa52_2 _ _) ?_ | refine valP_ok (fao52_2 _ _ _) ?_
      refine store_at 1 st28 hS rfl (by simp) rfl ?_
      intro w hS
      simp only [List.set_cons_zero, List.set_cons_succ] at hS
      have hS := hS.tail
      have hlen2 : l'.length + 1 = (addAll most l (keys.take (i + 1))).length := by rw [hstep, hup]; simp
      have hcells : l'.flatMap encT ++ encT ⟨key, 1, 0⟩ = (addAll most l (keys.take (i + 1))).flatMap encT := by rw [hstep, hup]; simp
      rw [hcells, hlen2] at hS
      unfold m13_9
      refine valP_ok (add_ok _ _ _ (by omega) (by omega) _) ?_
      refine ⟨⟨i + 1, rfl, by omega, by rw [show n + ((i + 1 : Nat) : Int) = n + i + 1 by omega]; exact hok1, A', c', ?_⟩, by simp [intOf]; omega⟩
      rw [show n + ((i + 1 : Nat) : Int) = n + i + 1 by omega]
      exact hS
    · -- the lightest is given up
      have hlt2 : lightIx l' < l'.length := lightIx_lt (by omega)
      have hup : addOne most l' key = l'.set (lightIx l') ⟨key, l'[lightIx l'].n + 1, l'[lightIx l'].n⟩ := by unfold addOne; rw [hnf]; simp only; rw [if_neg hroom, getElem!_pos l' _ hlt2]
      have hm := h6 l'[lightIx l'] (List.getElem_mem hlt2)
      refine cond_df hroom ?_
      refine callR (by kernel_rfl) (light_ret (by omega) hS) ?_
      rintro v w ⟨rfl, hS⟩
      obtain ⟨g', rfl⟩ := hS.row_ptr 1 rfl (by omega)
      unfold m13_15
      refine drawn_ok hS ?_
      intro w hS
      refine nil_ok ?_
      first | refine valS_ok (fa52_2 _ _) ?_ | refine valS_ok (fao52_2 _ _ _) ?_
      first | refine valS_ok (ld28 (hS.cell 0 rfl rfl)) ?_ | refine valS_ok (ld28 (hS.cell 1 rfl rfl)) ?_ | refine valS_ok (ld28 (hS.cell 2 rfl rfl)) ?_ | refine valS_ok (ld28 (hS.cell 3 rfl rfl)) ?_ | refine valS_ok (ld28 (hS.cell 4 rfl rfl)) ?_ | refine valS_ok (ld28 (by assumption)) ?_
      refine nil_ok ?_
      first | refine valS_ok (fa52_2 _ _) ?_ | refine valS_ok (fao52_2 _ _ _) ?_
      first | refine valS_ok (ld28 (hS.cell 0 rfl rfl)) ?_ | refine valS_ok (ld28 (hS.cell 1 rfl rfl)) ?_ | refine valS_ok (ld28 (hS.cell 2 rfl rfl)) ?_ | refine valS_ok (ld28 (hS.cell 3 rfl rfl)) ?_ | refine valS_ok (ld28 (hS.cell 4 rfl rfl)) ?_ | refine valS_ok (ld28 (by assumption)) ?_
      obtain ⟨t0, t1, t2⟩ := tally_at 1 hS rfl hlt2
      refine valS_ok (ixz28 hlt2 _) ?_
      first | refine valS_ok (fa45_1 _ _) ?_ | refine valS_ok (fao45_1 _ _ _) ?_
      first | refine valS_ok (ld3 (hS.cell 0 rfl rfl)) ?_ | refine valS_ok (ld3 (hS.cell 1 rfl rfl)) ?_ | refine valS_ok (ld3 (hS.cell 2 rfl rfl)) ?_ | refine valS_ok (ld3 (hS.cell 3 rfl rfl)) ?_ | refine valS_ok (ld3 (hS.cell 4 rfl rfl)) ?_ | refine valS_ok (ld3 (by assumption)) ?_
      refine valS_ok (add_ok _ _ _ (by omega) (by omega) _) ?_
      refine nil_ok ?_
      first | refine valS_ok (fa52_2 _ _) ?_ | refine valS_ok (fao52_2 _ _ _) ?_
      first | refine valS_ok (ld28 (hS.cell 0 rfl rfl)) ?_ | refine valS_ok (ld28 (hS.cell 1 rfl rfl)) ?_ | refine valS_ok (ld28 (hS.cell 2 rfl rfl)) ?_ | refine valS_ok (ld28 (hS.cell 3 rfl rfl)) ?_ | refine valS_ok (ld28 (hS.cell 4 rfl rfl)) ?_ | refine valS_ok (ld28 (by assumption)) ?_
      refine valS_ok (ixz28 hlt2 _) ?_
      first | refine valS_ok (fa45_1 _ _) ?_ | refine valS_ok (fao45_1 _ _ _) ?_
      first | refine valS_ok (ld3 (hS.cell 0 rfl rfl)) ?_ | refine valS_ok (ld3 (hS.cell 1 rfl rfl)) ?_ | refine valS_ok (ld3 (hS.cell 2 rfl rfl)) ?_ | refine valS_ok (ld3 (hS.cell 3 rfl rfl)) ?_ | refine valS_ok (ld3 (hS.cell 4 rfl rfl)) ?_ | refine valS_ok (ld3 (by assumption)) ?_
      refine valS_ok (bd45_0_1_2 rfl rfl rfl _) ?_
      refine valS_ok (ixz28 hlt2 _) ?_
      refine store45_row 1 hS rfl hlt2 ⟨key, l'[lightIx l'].n + 1, l'[lightIx l'].n⟩ ?_
      intro w hS
      simp only [List.set_cons_zero, List.set_cons_succ] at hS
      rw [← hup, ← hstep] at hS
      have hlen2 : l'.length = (addAll most l (keys.take (i + 1))).length := by rw [hstep, hup, List.length_set]
      unfold m13_9
      refine valP_ok (add_ok _ _ _ (by omega) (by omega) _) ?_
      refine ⟨⟨i + 1, rfl, by omega, by rw [show n + ((i + 1 : Nat) : Int) = n + i + 1 by omega]; exact hok1, some ⟨g', 0, none⟩, c, ?_⟩, by simp [intOf]; omega⟩
      unfold hcl at *
      rw [← hlen2, show n + ((i + 1 : Nat) : Int) = n + i + 1 by omega]
      rw [← hlen2] at hS
      exact hS

end Go.Proofs.Ytcfdalmnhgiaeaa.M
