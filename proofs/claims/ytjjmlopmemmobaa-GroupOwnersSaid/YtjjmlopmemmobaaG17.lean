/- At every moment each partition has a member as its owner: the walk. -/
import Derived.Test.YtjjmlopmemmobaaG16
import Derived.Test.YtjjmlopmemmobaaMgc0
namespace Go.Proofs.Ytjjmlopmemmobaa.M
open Go.Proofs.Ytjjmlopmemmobaa.F Go.RowKit
set_option linter.unusedVariables false
set_option linter.unusedSimpArgs false
set_option maxRecDepth 100000
set_option maxHeartbeats 2000000
attribute [local irreducible] Res.cells Res.row Res.map Res.any World.cell? World.frozen? Instr.fieldAt Instr.loadAt Instr.storeAt Instr.indexAt Instr.lookup Instr.mapUpdate Instr.box Instr.build Instr.buildSlice Instr.extract Instr.alloc Instr.field Instr.index Instr.sliceAt Instr.makeSlice Instr.makeMap Instr.makeFunc binS Op.unary Sem.run
open Go.Proofs.Ytjjmlopmemmobaa.L Go.Shelf
theorem gown_ret {w0 : World} {A : Option Addr} {c : Nat} {l : List Gd} {st : Bool} {parts : Int} (hp : -9223372036854775808 ≤ parts ∧ parts ≤ 9223372036854775807) (hl : Rd w0 5 A l.length (l.flatMap encG)) (hc : l.length ≤ c) (hok : ∀ x ∈ l, DG x) :
    Ret Try.prog 10 #[.int .i64 parts, .bool st, .slice A l.length c] w0 fun v w' => v = .bool true ∧ Below w0.heap.size w0 w' := by
  have hS := St.start w0
  obtain ⟨q1, q2, q3, q4⟩ := ixM_spec parts (n := 4) (by omega)
  have q2 : (parts.tmod 4 + 4) % 4 = (ixM parts 4 : Int) := q2
  have q3 : 0 ≤ parts.tmod 4 + 4 := q3
  have q4 : parts.tmod 4 + 4 < 2 * 4 := q4
  refine s10 _ _ _ ?_
  unfold m10 m10_0
  unfold m10_1
  refine valP_ok (rem_any _ _ _ hp.1 hp.2 (by omega) (by omega) _) ?_
  refine valP_ok (add_ok _ _ _ (by omega) (by omega) _) ?_
  refine valP_ok (rem_ok _ _ _ (by omega) (by omega) (by omega) _) ?_
  refine valP_ok (add_ok _ _ _ (by omega) (by omega) _) ?_
  rw [q2]
  generalize ixM parts 4 = P0 at *
  obtain ⟨P, hP, hP1, hP4⟩ : ∃ P : Int, P = 1 + (P0 : Int) ∧ 1 ≤ P ∧ P ≤ 4 := ⟨_, rfl, by omega, by omega⟩
  rw [← hP]
  clear hP q1 q2
  unfold m10_2
  refine callR (by kernel_rfl) (gnew_ret (parts := P) (gen := 0) (next := 1) (sticky := st) hS) ?_
  clear hS
  intro v w hv
  rw [if_neg (by unfold newBad; omega)] at hv
  obtain ⟨b, X, rfl, hS⟩ := hv
  refine valP_ok (extract_ok _ 0 rfl _) ?_
  refine valP_ok (extract_ok _ 1 rfl _) ?_
  unfold m10_3
  refine valP_ok (ne26 _ _ _ _ _) ?_
  refine cond_df (by decide) ?_
  first | refine valP_ok (eq59n _ _ _) ?_ | refine valP_ok (eq59s _ _ _ _) ?_
  first | refine pick_dt (by first | assumption | omega) ?_ | refine pick_df (by first | assumption | omega) ?_ | refine pick_t (by first | rfl | assumption) ?_ | refine pick_f (by first | rfl | assumption) ?_ | refine pick_dt rfl ?_ | refine pick_df (not_not_intro rfl) ?_
  unfold m10_43
  refine cond_f rfl ?_
  unfold m10_4
  refine callR (by kernel_rfl) (gsome_ret hc) ?_
  rintro v w ⟨rfl, rfl⟩
  have hl2 := rdG_take 120 hl
  have hok2 : ∀ x ∈ l.take 120, DG x := fun x hx => hok x (List.mem_of_mem_take hx)
  have hll : (l.take 120).length ≤ 120 := by rw [List.length_take]; omega
  generalize l.take 120 = ls at *
  unfold m10_5 m10_8
  refine loop_in (fun u w' => ∃ (i : Nat) (s : GS) (X : GA), u = .int .i64 i ∧ i ≤ ls.length ∧ GOk i s ∧ GF s ∧ s.parts = P ∧ St w0 [] w' (grpL 103 b s X ++ [])) (fun u _ => ls.length - (intOf u).toNat) ⟨0, _, X, rfl, by omega, newS_ok st (by unfold newBad; omega), newS_fair, rfl, hS⟩ ?_
  clear hS
  rintro u w ⟨i, s, X, rfl, hi, hs, hf, hsp, hS⟩
  unfold m10_9
  refine builtin_ok (len58 _) ?_
  refine valP_ok (lss_ok _ _ _ _ _ _ _) ?_
  unfold m10_42
  refine cond_split (fun h => ?_) (fun h => ?_)
  · have hlt : i < ls.length := by omega
    have hr := hl2.old0 hS
    obtain ⟨g, o, rfl⟩ := hr.some_ (by omega) (by omega)
    have h0 := hr.struct encG_len hlt (j := 0) (by omega) rfl
    have h1 := hr.struct encG_len hlt (j := 1) (by omega) rfl
    have h2 := hr.struct encG_len hlt (j := 2) (by omega) rfl
    have h3 := hr.struct encG_len hlt (j := 3) (by omega) rfl
    have h4 := hr.struct encG_len hlt (j := 4) (by omega) rfl
    rw [Nat.add_zero] at h0
    unfold m10_10
    refine valP_ok (ix58 hlt _) ?_
    refine valP_ok (ld65 h0 h1 h2 h3 h4) ?_
    refine callR (by kernel_rfl) (gdoes_ret (by omega) (hok2 _ (List.getElem_mem hlt)) hs hS) ?_
    rintro v w ⟨X2, hS⟩
    have hs2 : GOk (i + 1) (stepG s ls[i]) := doG_ok (by omega) hs _
    have hf2 : GF (stepG s ls[i]) := doG_fair (by omega) hs hf _
    have hp2 : (stepG s ls[i]).parts = P := (doG_parts _ _).trans hsp
    generalize stepG s ls[i] = s1 at *
    clear hs hf hsp h0 h1 h2 h3 h4 hr
    have hlen := hs2.len
    have hol := hs2.olen
    have hrise := ids_rise hs2.rise
    have hpos : ∀ x ∈ idsL s1.L, 0 < x := fun x hx => by
      obtain ⟨m, hm, rfl⟩ := List.mem_map.1 hx
      have := hs2.each m hm
      omega
    unfold m10_12
    refine callR (by kernel_rfl) (gmembers_ret (by omega) hS) ?_
    rintro v w ⟨A1, c1, rfl, hS⟩
    have hS : St w0 [] w (grpL 103 b s1 X2 ++ [mrow (.slice A1 s1.L.length c1) s1.L]) := hS.pick 4 [1, 2, 3, 0] (by simp) (by decide)
    refine callR (by kernel_rfl) (gowners_ret (by omega) hS) ?_
    rintro v w ⟨A2, c2, rfl, hS⟩
    have hS : St w0 [] w (grpL 103 b s1 X2 ++ [mrow (.slice A1 s1.L.length c1) s1.L, irow (.slice A2 s1.O.length c2) s1.O]) := hS.pick 5 [1, 2, 3, 4, 0] (by simp) (by decide)
    have end_ : ∀ w t (s2 : GS) (X3 : GA), t = false → GSame s1 s2 → GOk (i + 1) s2 → St w0 [] w (grpL 103 b s2 X3 ++ []) → m10_17 (fun v w' => v = .bool true ∧ Below w0.heap.size w0 w') (fun s1' w' => (∃ (i : Nat) (s : GS) (X : GA), s1' = .int .i64 i ∧ i ≤ ls.length ∧ GOk i s ∧ GF s ∧ s.parts = P ∧ St w0 [] w' (grpL 103 b s X ++ [])) ∧ ls.length - (intOf s1').toNat < ls.length - (intOf (.int .i64 i)).toNat) (.int .i64 P) (.slice (some ⟨g, o, none⟩) ls.length c) (.pointer (some ⟨b, 0, none⟩)) (.int .i64 i) (.bool t) w := fun w t s2 X3 ht hsm hs2 hS => by
      unfold m10_17
      refine cond_f ht ?_
      unfold m10_11
      refine valP_ok (add_ok _ _ _ (by omega) (by omega) _) ?_
      exact ⟨⟨i + 1, s2, X3, rfl, by omega, hs2, hf2.same hsm.ids hsm.O hsm.parts, hsm.parts.trans hp2, hS⟩, by simp [intOf]; omega⟩
    have hz := tm_le s1.O 0
    have hfi := hf2.some
    have hfn := hf2.none
    have main : ∀ w t, t = false → St w0 [] w (grpL 103 b s1 X2 ++ [mrow (.slice A1 s1.L.length c1) s1.L, irow (.slice A2 s1.O.length c2) s1.O]) → m10_40 (fun v w' => v = .bool true ∧ Below w0.heap.size w0 w') (fun s1' w' => (∃ (i : Nat) (s : GS) (X : GA), s1' = .int .i64 i ∧ i ≤ ls.length ∧ GOk i s ∧ GF s ∧ s.parts = P ∧ St w0 [] w' (grpL 103 b s X ++ [])) ∧ ls.length - (intOf s1').toNat < ls.length - (intOf (.int .i64 i)).toNat) (.int .i64 P) (.slice (some ⟨g, o, none⟩) ls.length c) (.pointer (some ⟨b, 0, none⟩)) (.int .i64 i) (.slice A1 s1.L.length c1) (.slice A2 s1.O.length c2) (.bool t) w := fun w t ht hS => by
      unfold m10_40
      refine cond_f ht ?_
      unfold m10_14 m10_15 m10_19
      have hil : (idsL s1.L).length = s1.L.length := List.length_map _
      refine loop_in (fun u w' => ∃ (k : Nat) (s2 : GS) (X3 : GA), u = (.int .i64 (tot ((idsL s1.L).take k) (tm s1.O)), .int .i64 k) ∧ k ≤ s1.L.length ∧ GSame s1 s2 ∧ GOk (i + 1) s2 ∧ St w0 [] w' (grpL 103 b s2 X3 ++ [mrow (.slice A1 s1.L.length c1) s1.L, irow (.slice A2 s1.O.length c2) s1.O])) (fun u _ => s1.L.length - (intOf u.2).toNat) ⟨0, s1, X2, rfl, by omega, GSame.refl _, hs2, hS⟩ ?_
      clear hS
      rintro u w ⟨k, s2, X3, rfl, hk, hsm, hok3, hS⟩
      unfold m10_20
      refine builtin_ok (len66 _) ?_
      refine valP_ok (lss_ok _ _ _ _ _ _ _) ?_
      unfold m10_39
      simp only
      refine cond_split (fun h => ?_) (fun h => ?_)
      · have hkl : k < s1.L.length := by omega
        have hne : s1.L ≠ [] := fun e => by rw [e] at hkl; cases hkl
        have hfair := hfi hne
        have hmem : s1.L[k].id ∈ idsL s1.L := List.mem_map.2 ⟨_, List.getElem_mem hkl, rfl⟩
        have hsh := fair_share (by rw [hil]; omega) hfair hmem
        have htb := tm_le s1.O s1.L[k].id
        have htot := tot_bound (f := tm s1.O) (b := 4) (by omega) (M := (idsL s1.L).take k) fun x _ => by have := tm_le s1.O x; omega
        have htk : tot ((idsL s1.L).take (k + 1)) (tm s1.O) = tot ((idsL s1.L).take k) (tm s1.O) + tm s1.O s1.L[k].id := by
          rw [tot_take (by rw [hil]; exact hkl), List.getElem_map]
        rw [hil, hp2] at hsh
        rw [List.length_take, hil] at htot
        obtain ⟨g2, hg2⟩ := hS.row_ptr 3 rfl (by omega)
        subst hg2
        have p0 := hS.row_struct 3 encM_len rfl hkl (j := 0) (by omega) rfl
        rw [Nat.add_zero] at p0
        unfold m10_21
        refine valP_ok (ixz66 hkl _) ?_
        refine valP_ok (fao69_0 _ _ _) ?_
        refine valP_ok (ld3 p0) ?_
        refine callR (by kernel_rfl) (count_ret _ _ s1.O s1.L[k].id w (hS.row_rd 4 rfl) (by omega)) ?_
        rintro v w ⟨rfl, rfl⟩
        have rest : ∀ (t : Bool) R K1 (K2 : Value × Value → World → Prop), t = false → (∀ w s3 X3, GSame s1 s3 → GOk (i + 1) s3 → St w0 [] w (grpL 103 b s3 X3 ++ [mrow (.slice (some ⟨g2, 0, none⟩) s1.L.length c1) s1.L, irow (.slice A2 s1.O.length c2) s1.O]) → K2 (.int .i64 (tot ((idsL s1.L).take (k + 1)) (tm s1.O)), .int .i64 ((k + 1 : Nat) : Int)) w) →
            m10_37 R K1 K2 (.int .i64 P) (.slice (some ⟨g, o, none⟩) ls.length c) (.pointer (some ⟨b, 0, none⟩)) (.int .i64 i) (.slice (some ⟨g2, 0, none⟩) s1.L.length c1) (.slice A2 s1.O.length c2) (.int .i64 (tot ((idsL s1.L).take k) (tm s1.O))) (.int .i64 k) (.int .i64 (tm s1.O s1.L[k].id)) (.bool t) w := fun t R K1 K2 ht hK => by
          unfold m10_37
          refine cond_f ht ?_
          unfold m10_24
          refine valP_ok (add_ok _ _ _ (by omega) (by omega) _) ?_
          rw [← htk]
          unfold m10_25
          refine valP_ok (ixz66 hkl _) ?_
          refine valP_ok (fao69_0 _ _ _) ?_
          refine valP_ok (ld3 p0) ?_
          refine callR (by kernel_rfl) (gsync_ret (by omega) hok3 hS) ?_
          rintro v w ⟨A3, c3, rfl, hS⟩
          obtain ⟨j, ha⟩ := atL_in (id := s1.L[k].id) (l := s2.L) (by rw [hsm.ids]; exact hmem)
          have hsA : syncA s2 s1.L[k].id = (s2.g, ownFrom s1.L[k].id 0 s1.O, 0) := by unfold syncA; rw [ha, hsm.O]
          rw [hsA] at hS ⊢
          have hsm4 := hsm.sync s1.L[k].id
          have hok4 := syncG_ok hok3 s1.L[k].id
          generalize syncG s2 s1.L[k].id = s4 at *
          have htm := ownFrom_tm s1.L[k].id s1.O 0
          simp only at hS ⊢
          refine valP_ok (extract_ok _ 0 rfl _) ?_
          refine valP_ok (extract_ok _ 1 rfl _) ?_
          refine valP_ok (extract_ok _ 2 rfl _) ?_
          unfold m10_26
          refine valP_ok (ne26 _ _ _ _ _) ?_
          refine cond_df (by decide) ?_
          refine builtin_ok (len28 _) ?_
          refine valP_ok (ne3 _ _ _ _ _) ?_
          first | refine pick_dt (by first | assumption | omega) ?_ | refine pick_df (by first | assumption | omega) ?_ | refine pick_t (by first | rfl | assumption) ?_ | refine pick_f (by first | rfl | assumption) ?_ | refine pick_dt rfl ?_ | refine pick_df (not_not_intro rfl) ?_
          unfold m10_35
          refine cond_df (by omega) ?_
          unfold m10_27 m10_28
          generalize hown : ownFrom s1.L[k].id 0 s1.O = own at *
          have hge : s4.g = s2.g := hsm4.g.trans hsm.g.symm
          refine loop_in (fun u w' => ∃ q : Nat, u = .int .i64 q ∧ q ≤ own.length ∧ St w0 [] w' (irow (.slice A3 own.length c3) own :: (grpL 103 b s4 X3 ++ [mrow (.slice (some ⟨g2, 0, none⟩) s1.L.length c1) s1.L, irow (.slice A2 s1.O.length c2) s1.O]))) (fun u _ => own.length - (intOf u).toNat) ⟨0, rfl, by omega, hS⟩ ?_
          clear hS
          rintro u w ⟨q, rfl, hq, hS⟩
          unfold m10_29
          refine builtin_ok (len28 _) ?_
          refine valP_ok (lss_ok _ _ _ _ _ _ _) ?_
          unfold m10_34
          refine cond_split (fun h5 => ?_) (fun h5 => ?_)
          · have hql : q < own.length := by omega
            obtain ⟨g3, hg3⟩ := hS.row_ptr 0 rfl (by omega)
            subst hg3
            have hmay := may_own (q := own[q]) hsm4 hol hmem (by rw [hown]; exact List.getElem_mem hql)
            unfold m10_30
            refine drawn_ok hS ?_
            intro w hS
            refine held_St [mrow (.slice (some ⟨g2, 0, none⟩) s1.L.length c1) s1.L, irow (.slice (some ⟨g3, 0, none⟩) own.length c3) own] hS (by simp) ?_
            refine valJ_ok (fun w => ixz66 hkl w) ?_
            refine valJ_ok (fun w => fao69_0 _ _ w) ?_
            have fg := flat_get encM 3 encM_len s1.L k 0 hkl (by omega)
            rw [Nat.add_zero] at fg
            refine valJ_load ld3 (AllH.row_cell 0 rfl (fg.trans rfl)) ?_
            refine valJ_ok (fun w => ixz28 hql w) ?_
            refine valJ_load ld3 (AllH.row_cell 1 rfl (ints_get hql)) ?_
            refine callR (by kernel_rfl) (ggen_ret hS.tail) ?_
            rintro v w ⟨rfl, rfl⟩
            refine stay_St hS (by simp) ?_
            refine callR (by kernel_rfl) (gmay_ret (by omega) hok4 hS.tail) ?_
            rintro v w ⟨rfl, rfl⟩
            refine stay_St hS (by simp) ?_
            rw [hmay]
            refine valJ_ok (ne26 _ _ _ _) ?_
            unfold m10_32
            refine cond_df (not_not_intro rfl) ?_
            unfold m10_31
            refine valP_ok (add_ok _ _ _ (by omega) (by omega) _) ?_
            exact ⟨⟨q + 1, rfl, by omega, hS⟩, by simp [intOf]; omega⟩
          · unfold m10_22
            refine valP_ok (add_ok _ _ _ (by omega) (by omega) _) ?_
            exact hK _ _ _ hsm4 hok4 hS.tail
        unfold m10_23
        refine builtin_ok (len66 _) ?_
        refine valP_ok (quo_ok _ _ _ (by omega) (by omega) (by omega) _) ?_
        refine valP_ok (ne3 _ _ _ _ _) ?_
        refine cond_split (fun h1 => ?_) (fun h1 => ?_)
        · refine builtin_ok (len66 _) ?_
          refine valP_ok (quo_ok _ _ _ (by omega) (by omega) (by omega) _) ?_
          refine valP_ok (add_ok _ _ _ (by omega) (by omega) _) ?_
          refine valP_ok (ne3 _ _ _ _ _) ?_
          first | refine pick_dt (by first | assumption | omega) ?_ | refine pick_df (by first | assumption | omega) ?_ | refine pick_t (by first | rfl | assumption) ?_ | refine pick_f (by first | rfl | assumption) ?_ | refine pick_dt rfl ?_ | refine pick_df (not_not_intro rfl) ?_
          refine rest _ _ _ _ (decide_eq_false (by omega)) fun w s3 X3 h1 h2 h3 => ?_
          exact ⟨⟨k + 1, s3, X3, rfl, by omega, h1, h2, h3⟩, by simp [intOf]; omega⟩
        · first | refine pick_dt (by first | assumption | omega) ?_ | refine pick_df (by first | assumption | omega) ?_ | refine pick_t (by first | rfl | assumption) ?_ | refine pick_f (by first | rfl | assumption) ?_ | refine pick_dt rfl ?_ | refine pick_df (not_not_intro rfl) ?_
          refine rest _ _ _ _ rfl fun w s3 X3 h1 h2 h3 => ?_
          exact ⟨⟨k + 1, s3, X3, rfl, by omega, h1, h2, h3⟩, by simp [intOf]; omega⟩
      · have hke : k = s1.L.length := by omega
        subst hke
        unfold m10_16
        refine builtin_ok (len66 _) ?_
        refine valP_ok (gtr_ok _ _ _ _ _ _ _) ?_
        refine cond_split (fun h1 => ?_) (fun h1 => ?_)
        · refine valP_ok (ne3 _ _ _ _ _) ?_
          first | refine pick_dt (by first | assumption | omega) ?_ | refine pick_df (by first | assumption | omega) ?_ | refine pick_t (by first | rfl | assumption) ?_ | refine pick_f (by first | rfl | assumption) ?_ | refine pick_dt rfl ?_ | refine pick_df (not_not_intro rfl) ?_
          have hne : s1.L ≠ [] := fun e => by rw [e] at h1; simp at h1
          have hft := fair_tot hrise hpos (hfi hne)
          refine end_ _ _ _ _ ?_ hsm hok3 (hS.pick 5 [0, 1, 2] (by simp) (by decide))
          rw [← hil, List.take_length, hft]
          exact decide_eq_false (by omega)
        · first | refine pick_dt (by first | assumption | omega) ?_ | refine pick_df (by first | assumption | omega) ?_ | refine pick_t (by first | rfl | assumption) ?_ | refine pick_f (by first | rfl | assumption) ?_ | refine pick_dt rfl ?_ | refine pick_df (not_not_intro rfl) ?_
          exact end_ _ _ _ _ rfl hsm hok3 (hS.pick 5 [0, 1, 2] (by simp) (by decide))
    unfold m10_13
    refine builtin_ok (len28 _) ?_
    refine valP_ok (ne3 _ _ _ _ _) ?_
    refine cond_df (by omega) ?_
    refine builtin_ok (len66 _) ?_
    refine valP_ok (eq3 _ _ _ _ _) ?_
    refine cond_split (fun h1 => ?_) (fun h1 => ?_)
    · have hz0 : s1.L = [] := List.eq_nil_of_length_eq_zero (by omega)
      have hO := hfn hz0
      refine callR (by kernel_rfl) (count_ret _ _ s1.O 0 w (hS.row_rd 4 rfl) (by omega)) ?_
      rintro v w ⟨rfl, rfl⟩
      refine valP_ok (ne3 _ _ _ _ _) ?_
      first | refine pick_dt (by first | assumption | omega) ?_ | refine pick_df (by first | assumption | omega) ?_ | refine pick_t (by first | rfl | assumption) ?_ | refine pick_f (by first | rfl | assumption) ?_ | refine pick_dt rfl ?_ | refine pick_df (not_not_intro rfl) ?_
      first | refine pick_dt (by first | assumption | omega) ?_ | refine pick_df (by first | assumption | omega) ?_ | refine pick_t (by first | rfl | assumption) ?_ | refine pick_f (by first | rfl | assumption) ?_ | refine pick_dt rfl ?_ | refine pick_df (not_not_intro rfl) ?_
      refine main _ _ ?_ hS
      rw [hO, tm_zeros0]
      exact decide_eq_false (by omega)
    · first | refine pick_dt (by first | assumption | omega) ?_ | refine pick_df (by first | assumption | omega) ?_ | refine pick_t (by first | rfl | assumption) ?_ | refine pick_f (by first | rfl | assumption) ?_ | refine pick_dt rfl ?_ | refine pick_df (not_not_intro rfl) ?_
      first | refine pick_dt (by first | assumption | omega) ?_ | refine pick_df (by first | assumption | omega) ?_ | refine pick_t (by first | rfl | assumption) ?_ | refine pick_f (by first | rfl | assumption) ?_ | refine pick_dt rfl ?_ | refine pick_df (not_not_intro rfl) ?_
      exact main _ _ rfl hS
  · unfold m10_6
    refine callR (by kernel_rfl) (gawake_ret hS) ?_
    rintro v w ⟨rfl, hS⟩
    unfold m10_7
    exact ⟨rfl, hS.below⟩

end Go.Proofs.Ytjjmlopmemmobaa.M
