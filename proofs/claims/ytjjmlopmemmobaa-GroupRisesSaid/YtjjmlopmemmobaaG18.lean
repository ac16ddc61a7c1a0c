/- A generation begins just when members come or go. -/
import Derived.Test.YtjjmlopmemmobaaG14
import Derived.Test.YtjjmlopmemmobaaMgb0
namespace Go.Proofs.Ytjjmlopmemmobaa.M
open Go.Proofs.Ytjjmlopmemmobaa.F Go.RowKit
set_option linter.unusedVariables false
set_option linter.unusedSimpArgs false
set_option maxRecDepth 100000
set_option maxHeartbeats 2000000
attribute [local irreducible] Res.cells Res.row Res.map Res.any World.cell? World.frozen? Instr.fieldAt Instr.loadAt Instr.storeAt Instr.indexAt Instr.lookup Instr.mapUpdate Instr.box Instr.build Instr.buildSlice Instr.extract Instr.alloc Instr.field Instr.index Instr.sliceAt Instr.makeSlice Instr.makeMap Instr.makeFunc binS Op.unary Sem.run
open Go.Proofs.Ytjjmlopmemmobaa.L Go.Shelf
structure GRise (s t : GS) : Prop where
  gen : (t.g = s.g ∧ idsL t.L = idsL s.L) ∨ (t.g = s.g + 1 ∧ idsL t.L ≠ idsL s.L)
  next : s.n ≤ t.n ∧ t.n ≤ s.n + 1
theorem GRise.refl (s : GS) : GRise s s := ⟨.inl ⟨rfl, rfl⟩, by omega⟩
theorem doG_rise {T : Nat} {s : GS} (hs : GOk T s) (x : Gd) : GRise s (doG s x) := by
  have hear : ∀ i, GRise s (heard s i) := fun i => ⟨.inl ⟨rfl, heardL_id _ _ _⟩, by show s.n ≤ s.n ∧ s.n ≤ s.n + 1; omega⟩
  unfold doG
  split
  · unfold joinG
    split
    · exact GRise.refl s
    · refine ⟨.inr ⟨rfl, fun e => ?_⟩, by show s.n ≤ s.n + 1 ∧ s.n + 1 ≤ s.n + 1; omega⟩
      have : s.n ∈ idsL s.L := by
        rw [← e]
        exact List.mem_map.2 ⟨⟨s.n, x.a, s.now + 12⟩, List.mem_append.2 (.inr (.head _)), rfl⟩
      obtain ⟨m, hm, e2⟩ := List.mem_map.1 this
      have := hs.each m hm
      omega
  · split
    · unfold syncG
      split
      · exact GRise.refl s
      · exact hear _
    · split
      · unfold beatG
        split
        · exact GRise.refl s
        · split
          · exact GRise.refl s
          · exact hear _
      · split
        · unfold leaveG
          split
          · exact GRise.refl s
          · rename_i i ha
            split
            · exact GRise.refl s
            · refine ⟨.inr ⟨rfl, fun e => ?_⟩, by show s.n ≤ s.n ∧ s.n ≤ s.n + 1; omega⟩
              obtain ⟨hi, hid, _⟩ := atL_spec ha
              have : x.a ∈ idsL s.L := List.mem_map.2 ⟨_, List.getElem_mem hi, hid⟩
              rw [← e] at this
              obtain ⟨m, hm, e2⟩ := List.mem_map.1 this
              have := (List.mem_filter.1 hm).2
              simp [e2] at this
        · split
          · unfold tickG
            split
            · exact ⟨.inl ⟨rfl, rfl⟩, by show s.n ≤ s.n ∧ s.n ≤ s.n + 1; omega⟩
            · rename_i hn
              refine ⟨.inr ⟨rfl, fun e => ?_⟩, by show s.n ≤ s.n ∧ s.n ≤ s.n + 1; omega⟩
              have h := congrArg List.length e
              simp only [List.length_map] at h
              have h : (stays s).length = s.L.length := h
              omega
          · exact GRise.refl s
theorem grises_ret {w0 : World} {A : Option Addr} {c : Nat} {l : List Gd} {st : Bool} (hl : Rd w0 5 A l.length (l.flatMap encG)) (hc : l.length ≤ c) (hok : ∀ x ∈ l, DG x) :
    Ret Try.prog 9 #[.bool st, .slice A l.length c] w0 fun v w' => v = .bool true ∧ Below w0.heap.size w0 w' := by
  have hS := St.start w0
  refine s9 _ _ ?_
  unfold m9 m9_0
  unfold m9_1
  refine callR (by kernel_rfl) (gnew_ret (parts := 3) (gen := 5) (next := 7) (sticky := st) hS) ?_
  clear hS
  intro v w hv
  rw [if_neg (by unfold newBad; omega)] at hv
  obtain ⟨b, X, rfl, hS⟩ := hv
  refine valP_ok (extract_ok _ 0 rfl _) ?_
  refine valP_ok (extract_ok _ 1 rfl _) ?_
  unfold m9_2
  refine valP_ok (ne26 _ _ _ _ _) ?_
  refine cond_df (by decide) ?_
  first | refine valP_ok (eq59n _ _ _) ?_ | refine valP_ok (eq59s _ _ _ _) ?_
  first | refine pick_dt (by first | assumption | omega) ?_ | refine pick_df (by first | assumption | omega) ?_ | refine pick_t (by first | rfl | assumption) ?_ | refine pick_f (by first | rfl | assumption) ?_ | refine pick_dt rfl ?_ | refine pick_df (not_not_intro rfl) ?_
  unfold m9_35
  refine cond_f rfl ?_
  unfold m9_3
  refine callR (by kernel_rfl) (gsome_ret hc) ?_
  rintro v w ⟨rfl, rfl⟩
  have hl2 := rdG_take 120 hl
  have hok2 : ∀ x ∈ l.take 120, DG x := fun x hx => hok x (List.mem_of_mem_take hx)
  have hll : (l.take 120).length ≤ 120 := by rw [List.length_take]; omega
  generalize l.take 120 = ls at *
  unfold m9_4 m9_7
  refine loop_in (fun u w' => ∃ (i : Nat) (s : GS) (X : GA), u = .int .i64 i ∧ i ≤ ls.length ∧ GOk i s ∧ St w0 [] w' (grpL 103 b s X ++ [])) (fun u _ => ls.length - (intOf u).toNat) ⟨0, _, X, rfl, by omega, newS_ok st (by unfold newBad; omega), hS⟩ ?_
  clear hS
  rintro u w ⟨i, s, X, rfl, hi, hs, hS⟩
  unfold m9_8
  refine builtin_ok (len58 _) ?_
  refine valP_ok (lss_ok _ _ _ _ _ _ _) ?_
  unfold m9_34
  refine cond_split (fun h => ?_) (fun h => ?_)
  · have hlt : i < ls.length := by omega
    have hlen := hs.len
    unfold m9_9
    refine callR (by kernel_rfl) (ggen_ret hS) ?_
    rintro v w ⟨rfl, rfl⟩
    refine callR (by kernel_rfl) (gnext_ret hS) ?_
    rintro v w ⟨rfl, rfl⟩
    refine callR (by kernel_rfl) (gmembers_ret (by omega) hS) ?_
    rintro v w ⟨A1, c1, rfl, hS⟩
    refine callR (by kernel_rfl) (gids_ret (by omega) hS (Bes.of_row 0 rfl)) ?_
    rintro v w ⟨A2, c2, rfl, hS⟩
    have hS : St w0 [] w (grpL 103 b s X ++ [irow (.slice A2 (idsL s.L).length c2) (idsL s.L)]) := hS.pick 5 [2, 3, 4, 0] (by simp) (by decide)
    have hr := hl2.old0 hS
    obtain ⟨g, o, rfl⟩ := hr.some_ (by omega) (by omega)
    have h0 := hr.struct encG_len hlt (j := 0) (by omega) rfl
    have h1 := hr.struct encG_len hlt (j := 1) (by omega) rfl
    have h2 := hr.struct encG_len hlt (j := 2) (by omega) rfl
    have h3 := hr.struct encG_len hlt (j := 3) (by omega) rfl
    have h4 := hr.struct encG_len hlt (j := 4) (by omega) rfl
    rw [Nat.add_zero] at h0
    unfold m9_11
    refine valP_ok (ix58 hlt _) ?_
    refine valP_ok (ld65 h0 h1 h2 h3 h4) ?_
    refine callR (by kernel_rfl) (gdoes_ret (by omega) (hok2 _ (List.getElem_mem hlt)) hs hS) ?_
    rintro v w ⟨X2, hS⟩
    have hs2 : GOk (i + 1) (stepG s ls[i]) := doG_ok (by omega) hs _
    have hri : GRise s (stepG s ls[i]) := doG_rise hs _
    generalize stepG s ls[i] = s1 at *
    have hlen1 := hs2.len
    unfold m9_12
    refine callR (by kernel_rfl) (gmembers_ret (by omega) hS) ?_
    rintro v w ⟨A3, c3, rfl, hS⟩
    unfold m9_13
    refine callR (by kernel_rfl) (gids_ret (by omega) hS (Bes.of_row 0 rfl)) ?_
    rintro v w ⟨A4, c4, rfl, hS⟩
    unfold m9_14
    refine callR (by kernel_rfl) (same_ret (by simp; omega) hS (Bes.of_row 5 rfl) (Bes.of_row 0 rfl)) ?_
    rintro v w ⟨rfl, hS⟩
    first | refine valP_ok (not_ok _ _) ?_ | refine valP_ok (notb_ok _ _) ?_
    have hS : St w0 [] w (grpL 103 b s1 X2 ++ [mrow (.slice A3 s1.L.length c3) s1.L, irow (.slice A2 (idsL s.L).length c2) (idsL s.L)]) := hS.pick 6 [2, 3, 4, 1, 5] (by simp) (by decide)
    have hgs := hs.g0
    have hns := hs.n0
    have hri1 := hri.gen
    have hri2 := hri.next
    unfold m9_15
    refine callR (by kernel_rfl) (ggen_ret hS) ?_
    rintro v w ⟨rfl, rfl⟩
    refine valP_ok (lss_ok _ _ _ _ _ _ _) ?_
    refine cond_df (by omega) ?_
    refine callR (by kernel_rfl) (ggen_ret hS) ?_
    rintro v w ⟨rfl, rfl⟩
    refine valP_ok (gtr_ok _ _ _ _ _ _ _) ?_
    refine valP_ok (ne4 _ _ _ _ _) ?_
    first | refine pick_dt (by first | assumption | omega) ?_ | refine pick_df (by first | assumption | omega) ?_ | refine pick_t (by first | rfl | assumption) ?_ | refine pick_f (by first | rfl | assumption) ?_ | refine pick_dt rfl ?_ | refine pick_df (not_not_intro rfl) ?_
    have hiff : decide (s.g < s1.g) = decide (¬ idsL s.L = idsL s1.L) := by
      rw [decide_eq_decide]
      rcases hri1 with ⟨e1, e2⟩ | ⟨e1, e2⟩
      · exact ⟨fun h => absurd h (by omega), fun h => absurd e2.symm h⟩
      · exact ⟨fun _ h => e2 h.symm, fun _ => by omega⟩
    refine cond_df (not_not_intro hiff) ?_
    refine callR (by kernel_rfl) (ggen_ret hS) ?_
    rintro v w ⟨rfl, rfl⟩
    refine valP_ok (add_ok _ _ _ (by omega) (by omega) _) ?_
    refine valP_ok (gtr_ok _ _ _ _ _ _ _) ?_
    refine pick_df (not_not_intro hiff) ?_
    refine cond_df (by omega) ?_
    refine callR (by kernel_rfl) (gnext_ret hS) ?_
    rintro v w ⟨rfl, rfl⟩
    refine valP_ok (lss_ok _ _ _ _ _ _ _) ?_
    first | refine pick_dt (by first | assumption | omega) ?_ | refine pick_df (by first | assumption | omega) ?_ | refine pick_t (by first | rfl | assumption) ?_ | refine pick_f (by first | rfl | assumption) ?_ | refine pick_dt rfl ?_ | refine pick_df (not_not_intro rfl) ?_
    refine cond_df (by omega) ?_
    refine callR (by kernel_rfl) (gnext_ret hS) ?_
    rintro v w ⟨rfl, rfl⟩
    refine valP_ok (add_ok _ _ _ (by omega) (by omega) _) ?_
    refine valP_ok (gtr_ok _ _ _ _ _ _ _) ?_
    first | refine pick_dt (by first | assumption | omega) ?_ | refine pick_df (by first | assumption | omega) ?_ | refine pick_t (by first | rfl | assumption) ?_ | refine pick_f (by first | rfl | assumption) ?_ | refine pick_dt rfl ?_ | refine pick_df (not_not_intro rfl) ?_
    unfold m9_32
    refine cond_df (by omega) ?_
    unfold m9_16 m9_17
    refine loop_in (fun u w' => ∃ k : Nat, u = .int .i64 k ∧ k ≤ s1.L.length ∧ St w0 [] w' (grpL 103 b s1 X2 ++ [mrow (.slice A3 s1.L.length c3) s1.L, irow (.slice A2 (idsL s.L).length c2) (idsL s.L)])) (fun u _ => s1.L.length - (intOf u).toNat) ⟨0, rfl, by omega, hS⟩ ?_
    clear hS h0 h1 h2 h3 h4 hr
    rintro u w ⟨k, rfl, hk, hS⟩
    unfold m9_18
    refine builtin_ok (len66 _) ?_
    refine valP_ok (lss_ok _ _ _ _ _ _ _) ?_
    unfold m9_31
    refine cond_split (fun h5 => ?_) (fun h5 => ?_)
    · have hkl : k < s1.L.length := by omega
      obtain ⟨g2, hg2⟩ := hS.row_ptr 3 rfl (by omega)
      subst hg2
      have hek := hs2.each _ (List.getElem_mem hkl)
      have fg := flat_get encM 3 encM_len s1.L k 0 hkl (by omega)
      rw [Nat.add_zero] at fg
      unfold m9_19
      refine drawn_ok hS ?_
      intro w hS
      refine held_St [mrow (.slice (some ⟨g2, 0, none⟩) s1.L.length c3) s1.L, irow (.slice A2 (idsL s.L).length c2) (idsL s.L)] hS (by simp) ?_
      refine valJ_ok (fun w => ixz66 hkl w) ?_
      refine valJ_ok (fun w => fao69_0 _ _ w) ?_
      refine valJ_load ld3 (AllH.row_cell 0 rfl (fg.trans rfl)) ?_
      refine callR (by kernel_rfl) (gnext_ret hS) ?_
      rintro v w ⟨rfl, rfl⟩
      refine stay_St hS (by simp) ?_
      refine valJ_ok (geq_ok _ _ _ _ _ _) ?_
      refine cond_df (by omega) ?_
      refine valJ_ok (fun w => ixz66 hkl w) ?_
      refine valJ_ok (fun w => fao69_0 _ _ w) ?_
      refine valJ_load ld3 (AllH.row_cell 0 rfl (fg.trans rfl)) ?_
      refine valJ_ok (geq_ok _ _ _ _ _ _) ?_
      have fin : ∀ w t, t = false → St w0 [] w (grpL 103 b s1 X2 ++ [mrow (.slice (some ⟨g2, 0, none⟩) s1.L.length c3) s1.L, irow (.slice A2 (idsL s.L).length c2) (idsL s.L)]) → ∀ R K1 (K2 : Value → World → Prop), (∀ w, St w0 [] w (grpL 103 b s1 X2 ++ [mrow (.slice (some ⟨g2, 0, none⟩) s1.L.length c3) s1.L, irow (.slice A2 (idsL s.L).length c2) (idsL s.L)]) → K2 (.int .i64 ((k + 1 : Nat) : Int)) w) →
          m9_29 R K1 K2 (.slice (some ⟨g, o, none⟩) ls.length c) (.pointer (some ⟨b, 0, none⟩)) (.int .i64 i) (.int .i64 s.n) (.slice A2 (idsL s.L).length c2) (.slice (some ⟨g2, 0, none⟩) s1.L.length c3) (.int .i64 k) (.bool t) w := fun w t ht hS R K1 K2 hK => by
        unfold m9_29
        refine cond_f ht ?_
        unfold m9_21 m9_22
        refine loop_in (fun u w' => ∃ j : Nat, u = .int .i64 j ∧ j ≤ k ∧ St w0 [] w' (grpL 103 b s1 X2 ++ [mrow (.slice (some ⟨g2, 0, none⟩) s1.L.length c3) s1.L, irow (.slice A2 (idsL s.L).length c2) (idsL s.L)])) (fun u _ => k - (intOf u).toNat) ⟨0, rfl, by omega, hS⟩ ?_
        clear hS
        rintro u w ⟨j, rfl, hj, hS⟩
        unfold m9_23
        refine valP_ok (lss_ok _ _ _ _ _ _ _) ?_
        unfold m9_28
        refine cond_split (fun h6 => ?_) (fun h6 => ?_)
        · have hjk : j < k := by omega
          have hjl : j < s1.L.length := by omega
          have p0 := hS.row_struct 3 encM_len rfl hjl (j := 0) (by omega) rfl
          have p1 := hS.row_struct 3 encM_len rfl hjl (j := 1) (by omega) rfl
          have q0 := hS.row_struct 3 encM_len rfl hkl (j := 0) (by omega) rfl
          have q1 := hS.row_struct 3 encM_len rfl hkl (j := 1) (by omega) rfl
          rw [Nat.add_zero] at p0 q0
          have hw := List.pairwise_iff_getElem.1 hs2.once j k hjl hkl hjk
          have hid := List.pairwise_iff_getElem.1 hs2.rise j k hjl hkl hjk
          unfold m9_24
          refine valQ_ok (ixz66 hjl) ?_
          refine valQ_ok (fao69_1 _ _) ?_
          refine valQ_load ld3 p1 ?_
          refine valQ_ok (ixz66 hkl) ?_
          refine valQ_ok (fao69_1 _ _) ?_
          refine valQ_load ld3 q1 ?_
          refine valQ_ok (eq3 _ _ _ _) ?_
          refine cond_df hw ?_
          refine valQ_ok (ixz66 hjl) ?_
          refine valQ_ok (fao69_0 _ _) ?_
          refine valQ_load ld3 p0 ?_
          refine valQ_ok (ixz66 hkl) ?_
          refine valQ_ok (fao69_0 _ _) ?_
          refine valQ_load ld3 q0 ?_
          refine valQ_ok (geq_ok _ _ _ _ _ _) ?_
          first | refine pick_dt (by first | assumption | omega) ?_ | refine pick_df (by first | assumption | omega) ?_ | refine pick_t (by first | rfl | assumption) ?_ | refine pick_f (by first | rfl | assumption) ?_ | refine pick_dt rfl ?_ | refine pick_df (not_not_intro rfl) ?_
          refine drawn_ok hS ?_
          intro w hS
          unfold m9_26
          refine cond_df (by omega) ?_
          unfold m9_25
          refine valP_ok (add_ok _ _ _ (by omega) (by omega) _) ?_
          exact ⟨⟨j + 1, rfl, by omega, hS⟩, by simp [intOf]; omega⟩
        · unfold m9_20
          refine valP_ok (add_ok _ _ _ (by omega) (by omega) _) ?_
          exact hK _ hS
      refine cond_split (fun h7 => ?_) (fun h7 => ?_)
      · refine valJ_ok (fun w => ixz66 hkl w) ?_
        refine valJ_ok (fun w => fao69_0 _ _ w) ?_
        refine valJ_load ld3 (AllH.row_cell 0 rfl (fg.trans rfl)) ?_
        refine callR (by kernel_rfl) (count_ret _ _ (idsL s.L) s1.L[k].id w (hS.row_rd 4 rfl) (by simp; omega)) ?_
        rintro v w ⟨rfl, rfl⟩
        refine stay_St hS (by simp) ?_
        have ht0 : tm (idsL s.L) s1.L[k].id = 0 := by
          unfold tm
          rw [List.count_eq_zero.2 fun hm => by
            obtain ⟨m, hm, e⟩ := List.mem_map.1 hm
            have := hs.each m hm
            omega]
          rfl
        refine valJ_ok (gtr_ok _ _ _ _ _ _) ?_
        first | refine pick_dt (by first | assumption | omega) ?_ | refine pick_df (by first | assumption | omega) ?_ | refine pick_t (by first | rfl | assumption) ?_ | refine pick_f (by first | rfl | assumption) ?_ | refine pick_dt rfl ?_ | refine pick_df (not_not_intro rfl) ?_
        first | refine pick_dt (by first | assumption | omega) ?_ | refine pick_df (by first | assumption | omega) ?_ | refine pick_t (by first | rfl | assumption) ?_ | refine pick_f (by first | rfl | assumption) ?_ | refine pick_dt rfl ?_ | refine pick_df (not_not_intro rfl) ?_
        refine fin _ _ (decide_eq_false (by omega)) hS _ _ _ fun w hS => ?_
        exact ⟨⟨k + 1, rfl, by omega, hS⟩, by simp [intOf]; omega⟩
      · first | refine pick_dt (by first | assumption | omega) ?_ | refine pick_df (by first | assumption | omega) ?_ | refine pick_t (by first | rfl | assumption) ?_ | refine pick_f (by first | rfl | assumption) ?_ | refine pick_dt rfl ?_ | refine pick_df (not_not_intro rfl) ?_
        first | refine pick_dt (by first | assumption | omega) ?_ | refine pick_df (by first | assumption | omega) ?_ | refine pick_t (by first | rfl | assumption) ?_ | refine pick_f (by first | rfl | assumption) ?_ | refine pick_dt rfl ?_ | refine pick_df (not_not_intro rfl) ?_
        refine fin _ _ rfl hS _ _ _ fun w hS => ?_
        exact ⟨⟨k + 1, rfl, by omega, hS⟩, by simp [intOf]; omega⟩
    · unfold m9_10
      refine valP_ok (add_ok _ _ _ (by omega) (by omega) _) ?_
      exact ⟨⟨i + 1, s1, X2, rfl, by omega, hs2, hS.pick 5 [0, 1, 2] (by simp) (by decide)⟩, by simp [intOf]; omega⟩
  · unfold m9_5
    refine callR (by kernel_rfl) (gawake_ret hS) ?_
    rintro v w ⟨rfl, hS⟩
    unfold m9_6
    exact ⟨rfl, hS.below⟩

end Go.Proofs.Ytjjmlopmemmobaa.M
