/- What the document's coop comes to: its beginning, who is a member, what is given, a generation; What the document's New, Join, Leave, Revoke, Done come to; What the document's Leave, Revoke, Done come to; Chapter 35's example; deeds; Deeds of a coop; What is done of a deed; a deed aimed; What is true of a coop behind any deeds. -/
import Derived.Test.YtjjmlopmemmobaaCB
namespace Go.Proofs.Ytjjmlopmemmobaa.M
open Go.Proofs.Ytjjmlopmemmobaa.F Go.RowKit
set_option linter.unusedVariables false
set_option linter.unusedSimpArgs false
set_option maxRecDepth 100000
set_option maxHeartbeats 2000000
attribute [local irreducible] Res.cells Res.row Res.map Res.any World.cell? World.frozen? Instr.fieldAt Instr.loadAt Instr.storeAt Instr.indexAt Instr.lookup Instr.mapUpdate Instr.box Instr.build Instr.buildSlice Instr.extract Instr.alloc Instr.field Instr.index Instr.sliceAt Instr.makeSlice Instr.makeMap Instr.makeFunc binS Op.unary Sem.run
open Go.Proofs.Ytjjmlopmemmobaa.L Go.Shelf
theorem ris_ret {w0 w : World} {F : List Nat} {L : List Res} {b : Nat} {s : CS} {X : CA} (hl : s.M.length ≤ 1000) (hS : St w0 F w (coopL 55 b s X ++ L)) (m : Int) :
    Ret Try.prog 62 #[.pointer (some ⟨b, 0, none⟩), .int .i64 m] w fun v w' => v = .bool (decide (m ∈ s.M)) ∧ w' = w := by
  refine s62 _ _ ?_
  unfold m62
  unfold m62_0
  unfold m62_1
  refine nil_ok ?_
  first | refine valP_ok (fa55_1 _ _) ?_ | refine valP_ok (fao55_1 _ _ _) ?_
  first | refine valP_ok (ld28 (hS.cell 0 rfl rfl)) ?_ | refine valP_ok (ld28 (hS.cell 1 rfl rfl)) ?_ | refine valP_ok (ld28 (hS.cell 2 rfl rfl)) ?_ | refine valP_ok (ld28 (hS.cell 3 rfl rfl)) ?_ | refine valP_ok (ld28 (hS.cell 4 rfl rfl)) ?_ | refine valP_ok (ld28 (by assumption)) ?_
  refine callR (by kernel_rfl) (count_ret _ _ s.M m w (hS.row_rd 1 rfl) (by omega)) ?_
  rintro v w ⟨rfl, rfl⟩
  refine valP_ok (gtr_ok _ _ _ _ _ _ _) ?_
  unfold m62_2
  refine ⟨?_, rfl⟩
  congr 1
  by_cases h : m ∈ s.M
  · rw [decide_eq_true h, decide_eq_true]
    have := List.count_pos_iff.2 h
    unfold tm
    omega
  · rw [decide_eq_false h, decide_eq_false]
    have := List.count_eq_zero.2 h
    unfold tm
    omega
theorem given_ret {w0 w : World} {F : List Nat} {L : List Res} {b : Nat} {s : CS} {X : CA} (hl : s.H.length ≤ 1000) (hw : s.W.length = s.H.length) (hS : St w0 F w (coopL 55 b s X ++ L)) :
    Ret Try.prog 68 #[.pointer (some ⟨b, 0, none⟩)] w fun v w' => St w0 F w' (coopL 55 b { s with H := giveL s.H s.W } X ++ L) := by
  have hgl := giveL_len hw
  refine s68 _ ?_
  unfold m68
  unfold m68_0
  unfold m68_1
  refine loop_in (fun u w' => ∃ p : Nat, u = .int .i64 p ∧ p ≤ s.H.length ∧ St w0 F w' (coopL 55 b { s with H := partW s.H (giveL s.H s.W) p } X ++ L)) (fun u _ => s.H.length - (intOf u).toNat) ⟨0, rfl, by omega, by rw [partW_zero]; exact hS⟩ ?_
  clear hS
  rintro u w ⟨p, rfl, hp, hS⟩
  have hpl := partW_len hgl hp
  unfold m68_2
  refine nil_ok ?_
  first | refine valP_ok (fa55_2 _ _) ?_ | refine valP_ok (fao55_2 _ _ _) ?_
  first | refine valP_ok (ld28 (hS.cell 0 rfl rfl)) ?_ | refine valP_ok (ld28 (hS.cell 1 rfl rfl)) ?_ | refine valP_ok (ld28 (hS.cell 2 rfl rfl)) ?_ | refine valP_ok (ld28 (hS.cell 3 rfl rfl)) ?_ | refine valP_ok (ld28 (hS.cell 4 rfl rfl)) ?_ | refine valP_ok (ld28 (by assumption)) ?_
  refine builtin_ok (len28 _) ?_
  refine valP_ok (lss_ok _ _ _ _ _ _ _) ?_
  unfold m68_6
  simp only
  refine cond_split (fun h => ?_) (fun h => ?_)
  · have hlt : p < s.H.length := by omega
    have hlw : p < s.W.length := by omega
    have hpt : p < (partW s.H (giveL s.H s.W) p).length := by omega
    obtain ⟨g, hg⟩ := hS.row_ptr 2 rfl (by simp only; omega)
    obtain ⟨m, cm, hh, ch, q, cq⟩ := X
    simp only at hg
    subst hg
    obtain ⟨g2, hg2⟩ := hS.row_ptr 3 rfl (by simp only; omega)
    simp only at hg2
    subst hg2
    have hc := hS.row_cell 2 rfl (ints_get hpt)
    rw [partW_at hgl hlt] at hc
    have hga := giveL_at (H := s.H) (W := s.W) p (by omega) hlt hlw
    unfold m68_3
    refine nil_ok ?_
    first | refine valP_ok (fa55_2 _ _) ?_ | refine valP_ok (fao55_2 _ _ _) ?_
    first | refine valP_ok (ld28 (hS.cell 0 rfl rfl)) ?_ | refine valP_ok (ld28 (hS.cell 1 rfl rfl)) ?_ | refine valP_ok (ld28 (hS.cell 2 rfl rfl)) ?_ | refine valP_ok (ld28 (hS.cell 3 rfl rfl)) ?_ | refine valP_ok (ld28 (hS.cell 4 rfl rfl)) ?_ | refine valP_ok (ld28 (by assumption)) ?_
    first | refine valP_ok (ixz28 (by first | assumption | omega) _) ?_ | refine valP_ok (ix28 (by first | assumption | omega) _) ?_
    first | refine valP_ok (ld3 (hS.cell 0 rfl rfl)) ?_ | refine valP_ok (ld3 (hS.cell 1 rfl rfl)) ?_ | refine valP_ok (ld3 (hS.cell 2 rfl rfl)) ?_ | refine valP_ok (ld3 (hS.cell 3 rfl rfl)) ?_ | refine valP_ok (ld3 (hS.cell 4 rfl rfl)) ?_ | refine valP_ok (ld3 (by assumption)) ?_
    refine valP_ok (eq3 _ _ _ _ _) ?_
    unfold m68_5
    refine cond_split (fun e => ?_) (fun e => ?_)
    · refine drawn_ok hS ?_
      intro w hS
      have hc3 := hS.row_cell 3 rfl (ints_get hlw)
      refine nil_ok ?_
      first | refine valS_ok (fa55_2 _ _) ?_ | refine valS_ok (fao55_2 _ _ _) ?_
      first | refine valS_ok (ld28 (hS.cell 0 rfl rfl)) ?_ | refine valS_ok (ld28 (hS.cell 1 rfl rfl)) ?_ | refine valS_ok (ld28 (hS.cell 2 rfl rfl)) ?_ | refine valS_ok (ld28 (hS.cell 3 rfl rfl)) ?_ | refine valS_ok (ld28 (hS.cell 4 rfl rfl)) ?_ | refine valS_ok (ld28 (by assumption)) ?_
      refine nil_ok ?_
      first | refine valS_ok (fa55_3 _ _) ?_ | refine valS_ok (fao55_3 _ _ _) ?_
      first | refine valS_ok (ld28 (hS.cell 0 rfl rfl)) ?_ | refine valS_ok (ld28 (hS.cell 1 rfl rfl)) ?_ | refine valS_ok (ld28 (hS.cell 2 rfl rfl)) ?_ | refine valS_ok (ld28 (hS.cell 3 rfl rfl)) ?_ | refine valS_ok (ld28 (hS.cell 4 rfl rfl)) ?_ | refine valS_ok (ld28 (by assumption)) ?_
      first | refine valS_ok (ixz28 (by first | assumption | omega) _) ?_ | refine valS_ok (ix28 (by first | assumption | omega) _) ?_
      first | refine valS_ok (ld3 (hS.cell 0 rfl rfl)) ?_ | refine valS_ok (ld3 (hS.cell 1 rfl rfl)) ?_ | refine valS_ok (ld3 (hS.cell 2 rfl rfl)) ?_ | refine valS_ok (ld3 (hS.cell 3 rfl rfl)) ?_ | refine valS_ok (ld3 (hS.cell 4 rfl rfl)) ?_ | refine valS_ok (ld3 (by assumption)) ?_
      first | refine valS_ok (ixz28 (by first | assumption | omega) _) ?_ | refine valS_ok (ix28 (by first | assumption | omega) _) ?_
      refine set_irow 2 hS rfl hpt ?_
      intro w hS
      simp only [List.set_cons_zero, List.set_cons_succ, List.cons_append, List.nil_append] at hS
      rw [if_pos e] at hga
      unfold m68_4
      refine valP_ok (add_ok _ _ _ (by omega) (by omega) _) ?_
      refine ⟨⟨p + 1, rfl, by omega, ?_⟩, by simp [intOf]; omega⟩
      rw [partW_succ hgl hlt, hga]
      show St w0 F w ([_, _, _, _] ++ L)
      simp only [coopC, List.length_set] at hS ⊢
      exact hS
    · rw [if_neg e] at hga
      unfold m68_4
      refine valP_ok (add_ok _ _ _ (by omega) (by omega) _) ?_
      refine ⟨⟨p + 1, rfl, by omega, ?_⟩, by simp [intOf]; omega⟩
      rw [partW_same hgl hlt hga]
      exact hS
  · have hpe : p = s.H.length := by omega
    subst hpe
    rw [partW_all hgl] at hS
    exact hS
theorem begin_ret {w0 w : World} {F : List Nat} {L : List Res} {b : Nat} {s : CS} {X : CA} (hs : CPre s) (hS : St w0 F w (coopL 55 b s X ++ L)) :
    Ret Try.prog 64 #[.pointer (some ⟨b, 0, none⟩)] w fun v w' => ∃ X', St w0 F w' (coopL 55 b (turned s) X' ++ L) := by
  have hg := hs.g0
  have hp := hs.parts
  have hkl := keepH_len s
  have hsame := hs.same
  have hwl := hs.wlen
  have hlen : s.M.length ≤ 8 := hs.len
  have hgk : (giveL (keepH s) s.W).length = s.H.length := by rw [giveL_len (by omega)]; omega
  refine s64 _ ?_
  unfold m64
  unfold m64_0
  refine nil_ok ?_
  first | refine valP_ok (fa55_0 _ _) ?_ | refine valP_ok (fao55_0 _ _ _) ?_
  first | refine valP_ok (ld3 (hS.cell 0 rfl rfl)) ?_ | refine valP_ok (ld3 (hS.cell 1 rfl rfl)) ?_ | refine valP_ok (ld3 (hS.cell 2 rfl rfl)) ?_ | refine valP_ok (ld3 (hS.cell 3 rfl rfl)) ?_ | refine valP_ok (ld3 (hS.cell 4 rfl rfl)) ?_ | refine valP_ok (ld3 (by assumption)) ?_
  refine valP_ok (add_ok _ _ _ (by omega) (by omega) _) ?_
  refine nil_ok ?_
  first | refine valP_ok (fa55_0 _ _) ?_ | refine valP_ok (fao55_0 _ _ _) ?_
  first | refine store_at 0 st3 hS rfl (by simp) rfl ?_ | refine store_at 1 st3 hS rfl (by simp) rfl ?_ | refine store_at 2 st3 hS rfl (by simp) rfl ?_ | refine store_at 3 st3 hS rfl (by simp) rfl ?_ | refine store_at 4 st3 hS rfl (by simp) rfl ?_
  intro w hS
  simp only [List.set_cons_zero, List.set_cons_succ] at hS
  unfold m64_1
  have hS : St w0 F w (coopL 55 b { s with g := s.g + 1 } X ++ L) := hS
  have hS := hS.row_nil 3 1
  unfold m64_2
  unfold m64_6
  refine loop_in (fun u w' => ∃ (p : Nat) (A : Option Addr) (c : Nat), u = (.slice A ((giveL (keepH s) s.W).take p).length c, .int .i64 p) ∧ p ≤ s.H.length ∧ St w0 F w' (irow (.slice A ((giveL (keepH s) s.W).take p).length c) ((giveL (keepH s) s.W).take p) :: (coopL 55 b { s with g := s.g + 1, H := partW s.H (keepH s) p } X ++ L))) (fun u _ => s.H.length - (intOf u.2).toNat)
    ⟨0, none, 0, rfl, by omega, by rw [partW_zero]; exact hS⟩ ?_
  clear hS
  rintro u w ⟨p, A, c, rfl, hpp, hS⟩
  have hpl := partW_len hkl hpp
  unfold m64_7
  refine nil_ok ?_
  first | refine valP_ok (fa55_2 _ _) ?_ | refine valP_ok (fao55_2 _ _ _) ?_
  first | refine valP_ok (ld28 (hS.cell 0 rfl rfl)) ?_ | refine valP_ok (ld28 (hS.cell 1 rfl rfl)) ?_ | refine valP_ok (ld28 (hS.cell 2 rfl rfl)) ?_ | refine valP_ok (ld28 (hS.cell 3 rfl rfl)) ?_ | refine valP_ok (ld28 (hS.cell 4 rfl rfl)) ?_ | refine valP_ok (ld28 (by assumption)) ?_
  refine builtin_ok (len28 _) ?_
  refine valP_ok (lss_ok _ _ _ _ _ _ _) ?_
  unfold m64_13
  simp only
  refine cond_split (fun h => ?_) (fun h => ?_)
  · have hlt : p < s.H.length := by omega
    have hlw : p < s.W.length := by omega
    have hpt : p < (partW s.H (keepH s) p).length := by omega
    have hpg : p < (giveL (keepH s) s.W).length := by omega
    have hpk : p < (keepH s).length := by omega
    obtain ⟨g, hg2⟩ := hS.row_ptr 3 rfl (by simp only; omega)
    obtain ⟨m, cm, hh, ch, q, cq⟩ := X
    simp only at hg2
    subst hg2
    obtain ⟨g3, hg3⟩ := hS.row_ptr 4 rfl (by simp only; omega)
    simp only at hg3
    subst hg3
    have hc := hS.row_cell 3 rfl (ints_get hpt)
    rw [partW_at hkl hlt] at hc
    have hka := keepH_at s p hpk hlt
    have hga := giveL_at (H := keepH s) (W := s.W) p hpg hpk hlw
    have hps := partW_succ hkl hlt
    have hpq := fun e => partW_same hkl hlt e
    have hb := hs.bH _ (List.getElem_mem hlt)
    have htk : (giveL (keepH s) s.W).take (p + 1) = (giveL (keepH s) s.W).take p ++ [(giveL (keepH s) s.W)[p]] := List.take_succ_eq_append_getElem hpg
    have htl : ((giveL (keepH s) s.W).take p).length ≤ 1000 := by rw [List.length_take]; omega
    have fin : ∀ w R (K : Value × Value → World → Prop), St w0 F w (irow (.slice A ((giveL (keepH s) s.W).take p).length c) ((giveL (keepH s) s.W).take p) :: (coopL 55 b { s with g := s.g + 1, H := partW s.H (keepH s) (p + 1) } ⟨m, cm, some ⟨g, 0, none⟩, ch, some ⟨g3, 0, none⟩, cq⟩ ++ L)) →
        (∀ A' c' w', St w0 F w' (irow (.slice A' ((giveL (keepH s) s.W).take (p + 1)).length c') ((giveL (keepH s) s.W).take (p + 1)) :: (coopL 55 b { s with g := s.g + 1, H := partW s.H (keepH s) (p + 1) } ⟨m, cm, some ⟨g, 0, none⟩, ch, some ⟨g3, 0, none⟩, cq⟩ ++ L)) → K (.slice A' ((giveL (keepH s) s.W).take (p + 1)).length c', .int .i64 ((p + 1 : Nat) : Int)) w') →
        m64_10 R K (.pointer (some ⟨b, 0, none⟩)) (.slice A ((giveL (keepH s) s.W).take p).length c) (.int .i64 p) w := fun w R K hS hK => by
      have hpt1 : p < (partW s.H (keepH s) (p + 1)).length := by rw [partW_len hkl (by omega)]; omega
      have hat : (partW s.H (keepH s) (p + 1))[p] = (keepH s)[p] := by simp only [hps]; rw [List.getElem_set_self]
      have hc := hS.row_cell 3 rfl (ints_get hpt1)
      rw [hat] at hc
      have hc4 := hS.row_cell 4 rfl (ints_get hlw)
      rw [htk] at hK
      unfold m64_10
      refine nil_ok ?_
      first | refine valP_ok (fa55_2 _ _) ?_ | refine valP_ok (fao55_2 _ _ _) ?_
      first | refine valP_ok (ld28 (hS.cell 0 rfl rfl)) ?_ | refine valP_ok (ld28 (hS.cell 1 rfl rfl)) ?_ | refine valP_ok (ld28 (hS.cell 2 rfl rfl)) ?_ | refine valP_ok (ld28 (hS.cell 3 rfl rfl)) ?_ | refine valP_ok (ld28 (hS.cell 4 rfl rfl)) ?_ | refine valP_ok (ld28 (by assumption)) ?_
      first | refine valP_ok (ixz28 (by first | assumption | omega) _) ?_ | refine valP_ok (ix28 (by first | assumption | omega) _) ?_
      first | refine valP_ok (ld3 (hS.cell 0 rfl rfl)) ?_ | refine valP_ok (ld3 (hS.cell 1 rfl rfl)) ?_ | refine valP_ok (ld3 (hS.cell 2 rfl rfl)) ?_ | refine valP_ok (ld3 (hS.cell 3 rfl rfl)) ?_ | refine valP_ok (ld3 (hS.cell 4 rfl rfl)) ?_ | refine valP_ok (ld3 (by assumption)) ?_
      refine valP_ok (gtr_ok _ _ _ _ _ _ _) ?_
      unfold m64_11
      refine cond_split (fun e => ?_) (fun e => ?_)
      · rw [hga, if_neg (by omega)] at hK
        refine nil_ok ?_
        first | refine valP_ok (fa55_2 _ _) ?_ | refine valP_ok (fao55_2 _ _ _) ?_
        first | refine valP_ok (ld28 (hS.cell 0 rfl rfl)) ?_ | refine valP_ok (ld28 (hS.cell 1 rfl rfl)) ?_ | refine valP_ok (ld28 (hS.cell 2 rfl rfl)) ?_ | refine valP_ok (ld28 (hS.cell 3 rfl rfl)) ?_ | refine valP_ok (ld28 (hS.cell 4 rfl rfl)) ?_ | refine valP_ok (ld28 (by assumption)) ?_
        first | refine valP_ok (ixz28 (by first | assumption | omega) _) ?_ | refine valP_ok (ix28 (by first | assumption | omega) _) ?_
        first | refine valP_ok (ld3 (hS.cell 0 rfl rfl)) ?_ | refine valP_ok (ld3 (hS.cell 1 rfl rfl)) ?_ | refine valP_ok (ld3 (hS.cell 2 rfl rfl)) ?_ | refine valP_ok (ld3 (hS.cell 3 rfl rfl)) ?_ | refine valP_ok (ld3 (hS.cell 4 rfl rfl)) ?_ | refine valP_ok (ld3 (by assumption)) ?_
        refine newslice_ok (bs28_1 rfl _) hS ?_
        intro b55 w hS
        refine append_one 0 (by omega) hS rfl ?_
        intro A2 c2 w' hS
        simp only [List.set_cons_zero] at hS
        unfold m64_9
        refine valP_ok (add_ok _ _ _ (by omega) (by omega) _) ?_
        exact hK A2 c2 _ hS
      · have hk0 : (keepH s)[p] = 0 := by
          rw [hka] at e ⊢
          split at e <;> rename_i hm
          · rw [if_pos hm]; omega
          · rw [if_neg hm]
        rw [hga, if_pos hk0] at hK
        refine nil_ok ?_
        first | refine valP_ok (fa55_3 _ _) ?_ | refine valP_ok (fao55_3 _ _ _) ?_
        first | refine valP_ok (ld28 (hS.cell 0 rfl rfl)) ?_ | refine valP_ok (ld28 (hS.cell 1 rfl rfl)) ?_ | refine valP_ok (ld28 (hS.cell 2 rfl rfl)) ?_ | refine valP_ok (ld28 (hS.cell 3 rfl rfl)) ?_ | refine valP_ok (ld28 (hS.cell 4 rfl rfl)) ?_ | refine valP_ok (ld28 (by assumption)) ?_
        first | refine valP_ok (ixz28 (by first | assumption | omega) _) ?_ | refine valP_ok (ix28 (by first | assumption | omega) _) ?_
        first | refine valP_ok (ld3 (hS.cell 0 rfl rfl)) ?_ | refine valP_ok (ld3 (hS.cell 1 rfl rfl)) ?_ | refine valP_ok (ld3 (hS.cell 2 rfl rfl)) ?_ | refine valP_ok (ld3 (hS.cell 3 rfl rfl)) ?_ | refine valP_ok (ld3 (hS.cell 4 rfl rfl)) ?_ | refine valP_ok (ld3 (by assumption)) ?_
        refine newslice_ok (bs28_1 rfl _) hS ?_
        intro b65 w hS
        refine append_one 0 (by omega) hS rfl ?_
        intro A2 c2 w' hS
        simp only [List.set_cons_zero] at hS
        unfold m64_9
        refine valP_ok (add_ok _ _ _ (by omega) (by omega) _) ?_
        exact hK A2 c2 _ hS
    unfold m64_8
    refine nil_ok ?_
    first | refine valP_ok (fa55_2 _ _) ?_ | refine valP_ok (fao55_2 _ _ _) ?_
    first | refine valP_ok (ld28 (hS.cell 0 rfl rfl)) ?_ | refine valP_ok (ld28 (hS.cell 1 rfl rfl)) ?_ | refine valP_ok (ld28 (hS.cell 2 rfl rfl)) ?_ | refine valP_ok (ld28 (hS.cell 3 rfl rfl)) ?_ | refine valP_ok (ld28 (hS.cell 4 rfl rfl)) ?_ | refine valP_ok (ld28 (by assumption)) ?_
    first | refine valP_ok (ixz28 (by first | assumption | omega) _) ?_ | refine valP_ok (ix28 (by first | assumption | omega) _) ?_
    first | refine valP_ok (ld3 (hS.cell 0 rfl rfl)) ?_ | refine valP_ok (ld3 (hS.cell 1 rfl rfl)) ?_ | refine valP_ok (ld3 (hS.cell 2 rfl rfl)) ?_ | refine valP_ok (ld3 (hS.cell 3 rfl rfl)) ?_ | refine valP_ok (ld3 (hS.cell 4 rfl rfl)) ?_ | refine valP_ok (ld3 (by assumption)) ?_
    refine callR (by kernel_rfl) (ris_ret (by simp only; omega) (hS.pick 5 [1, 2, 3, 4, 0] (by simp) (by decide)) _) ?_
    rintro v w ⟨rfl, rfl⟩
    first | refine valP_ok (not_ok _ _) ?_ | refine valP_ok (notb_ok _ _) ?_
    unfold m64_12
    simp only
    refine cond_split (fun e => ?_) (fun e => ?_)
    · rw [if_neg e] at hka
      refine nil_ok ?_
      first | refine valP_ok (fa55_2 _ _) ?_ | refine valP_ok (fao55_2 _ _ _) ?_
      first | refine valP_ok (ld28 (hS.cell 0 rfl rfl)) ?_ | refine valP_ok (ld28 (hS.cell 1 rfl rfl)) ?_ | refine valP_ok (ld28 (hS.cell 2 rfl rfl)) ?_ | refine valP_ok (ld28 (hS.cell 3 rfl rfl)) ?_ | refine valP_ok (ld28 (hS.cell 4 rfl rfl)) ?_ | refine valP_ok (ld28 (by assumption)) ?_
      first | refine valP_ok (ixz28 (by first | assumption | omega) _) ?_ | refine valP_ok (ix28 (by first | assumption | omega) _) ?_
      refine set_irow 3 hS rfl hpt ?_
      intro w hS
      simp only [List.set_cons_zero, List.set_cons_succ, List.cons_append, List.nil_append] at hS
      refine fin _ _ _ ?_ (fun A' c' w' hS => ⟨⟨p + 1, A', c', rfl, by omega, hS⟩, by simp [intOf]; omega⟩)
      rw [hps, hka]
      show St w0 F w (irow _ _ :: ([_, _, _, _] ++ L))
      simp only [coopC, List.length_set] at hS ⊢
      exact hS
    · rw [if_pos (Decidable.not_not.1 e)] at hka
      refine fin _ _ _ ?_ (fun A' c' w' hS => ⟨⟨p + 1, A', c', rfl, by omega, hS⟩, by simp [intOf]; omega⟩)
      rw [hpq hka]
      exact hS
  have hpe : p = s.H.length := by omega
  have htk : (giveL (keepH s) s.W).take p = giveL (keepH s) s.W := by rw [List.take_of_length_le (by omega)]
  rw [htk, hpe, partW_all hkl] at hS
  rw [htk]
  clear hpl h hpp htk hpe p
  unfold m64_3
  refine drawn_ok hS ?_
  intro w hS
  refine held_St [coopC 55 b { s with g := s.g + 1, H := keepH s } X] hS (by simp) ?_
  refine nil_ok ?_
  first | refine valJ_ok (fa55_2 _) ?_ | refine valJ_ok (fao55_2 _ _) ?_
  first | refine valJ_load ld28 (AllH.cell 0 rfl rfl) ?_ | refine valJ_load ld28 (AllH.cell 1 rfl rfl) ?_ | refine valJ_load ld28 (AllH.cell 2 rfl rfl) ?_ | refine valJ_load ld28 (AllH.cell 3 rfl rfl) ?_ | refine valJ_load ld28 (AllH.cell 4 rfl rfl) ?_ | refine valJ_load ld28 (by assumption) ?_
  refine builtinJ_ok (len28) ?_
  refine nil_ok ?_
  first | refine valJ_ok (fa55_1 _) ?_ | refine valJ_ok (fao55_1 _ _) ?_
  first | refine valJ_load ld28 (AllH.cell 0 rfl rfl) ?_ | refine valJ_load ld28 (AllH.cell 1 rfl rfl) ?_ | refine valJ_load ld28 (AllH.cell 2 rfl rfl) ?_ | refine valJ_load ld28 (AllH.cell 3 rfl rfl) ?_ | refine valJ_load ld28 (AllH.cell 4 rfl rfl) ?_ | refine valJ_load ld28 (by assumption) ?_
  refine callR (by kernel_rfl) (rsticky_ret hS (Bes.of_row 2 rfl) (Bes.of_row 0 rfl) (by simp only; omega) hs.bM) ?_
  intro v w hv
  have hbad : ¬ badParts ((keepH s).length : Int) := by rw [hkl]; exact hs.bad
  rw [if_neg hbad, hs.mem] at hv
  have eW : stickyL ((keepH s).length : Int) s.M (giveL (keepH s) s.W) = turnW s := by rw [hkl]; rfl
  rw [eW] at hv
  obtain ⟨A2, c2, rfl, hS⟩ := hv
  refine stay_St hS (by simp) ?_
  refine valJ_ok (extract_ok _ 0 rfl) ?_
  refine valJ_ok (extract_ok _ 1 rfl) ?_
  unfold m64_4
  refine nil_ok ?_
  first | refine valP_ok (fa55_3 _ _) ?_ | refine valP_ok (fao55_3 _ _ _) ?_
  first | refine store_at 0 st28 hS rfl (by simp) rfl ?_ | refine store_at 1 st28 hS rfl (by simp) rfl ?_ | refine store_at 2 st28 hS rfl (by simp) rfl ?_ | refine store_at 3 st28 hS rfl (by simp) rfl ?_ | refine store_at 4 st28 hS rfl (by simp) rfl ?_
  intro w hS
  simp only [List.set_cons_zero, List.set_cons_succ] at hS
  have hS : St w0 F w (coopL 55 b ⟨s.g + 1, s.M, keepH s, turnW s⟩ ⟨X.m, X.cm, X.h, X.ch, A2, c2⟩ ++ L) := hS.pick 6 [2, 3, 4, 0] (by simp) (by decide)
  unfold m64_5
  refine callR (by kernel_rfl) (given_ret (by simp only; omega) (by simp only; omega) hS) ?_
  intro v w hS
  exact ⟨_, hS⟩
theorem rnew_ret {w0 w : World} {F : List Nat} {L : List Res} {parts : Int} (hp : -9223372036854775808 ≤ parts) (hp' : parts ≤ 9223372036854775807) (hS : St w0 F w L) :
    Ret Try.prog 27 #[.int .i64 parts] w fun v w' => if 1 ≤ parts ∧ parts ≤ 16 then ∃ b X, v = .tuple #[.pointer (some ⟨b, 0, none⟩), .int .i64 0] ∧ St w0 F w' (coopL 55 b ⟨0, [], List.replicate parts.toNat 0, List.replicate parts.toNat 0⟩ X ++ L)
      else v = .tuple #[.pointer none, .int .i64 1] ∧ St w0 F w' L := by
  refine s27 _ ?_
  unfold m27
  unfold m27_0
  unfold m27_1
  refine valP_ok (lss_ok _ _ _ _ _ _ _) ?_
  refine cond_split (fun h => ?_) (fun h => ?_)
  · first | refine pick_dt (by first | assumption | omega) ?_ | refine pick_df (by first | assumption | omega) ?_ | refine pick_t (by first | rfl | assumption) ?_ | refine pick_f (by first | rfl | assumption) ?_ | refine pick_dt rfl ?_ | refine pick_df (not_not_intro rfl) ?_
    unfold m27_12
    refine cond_t rfl ?_
    unfold m27_13
    show ite _ _ _
    rw [if_neg (by omega)]
    exact ⟨rfl, hS⟩
  · refine valP_ok (gtr_ok _ _ _ _ _ _ _) ?_
    first | refine pick_dt (by first | assumption | omega) ?_ | refine pick_df (by first | assumption | omega) ?_ | refine pick_t (by first | rfl | assumption) ?_ | refine pick_f (by first | rfl | assumption) ?_ | refine pick_dt rfl ?_ | refine pick_df (not_not_intro rfl) ?_
    unfold m27_12
    refine cond_split (fun h2 => ?_) (fun h2 => ?_)
    · unfold m27_13
      show ite _ _ _
      rw [if_neg (by omega)]
      exact ⟨rfl, hS⟩
    · unfold m27_2
      refine valP_ok (bd55 _) ?_
      refine new_ok (bx55 _ _ _ _ _) hS ?_
      intro b w hS
      unfold m27_3
      unfold m27_6
      refine loop_in (fun u w' => ∃ (p : Nat) (X : CA), u = .int .i64 p ∧ p ≤ parts.toNat ∧ St w0 F w' (coopL 55 b ⟨0, [], List.replicate p 0, List.replicate p 0⟩ X ++ L)) (fun u _ => parts.toNat - (intOf u).toNat) ⟨0, ⟨none, 0, none, 0, none, 0⟩, rfl, by omega, ?_⟩ ?_
      · exact (((hS.row_nil 3 1).row_nil 3 1).row_nil 3 1).pick 4 [3, 0, 1, 2] (by simp) (by decide)
      clear hS
      rintro u w ⟨p, X, rfl, hpp, hS⟩
      have hrl : (List.replicate p (0 : Int)).length = p := by simp
      unfold m27_7
      refine valP_ok (lss_ok _ _ _ _ _ _ _) ?_
      unfold m27_11
      refine cond_split (fun h3 => ?_) (fun h3 => ?_)
      · obtain ⟨m, cm, hh, ch, q, cq⟩ := X
        unfold m27_8
        refine nil_ok ?_
        first | refine valP_ok (fa55_2 _ _) ?_ | refine valP_ok (fao55_2 _ _ _) ?_
        first | refine valP_ok (ld28 (hS.cell 0 rfl rfl)) ?_ | refine valP_ok (ld28 (hS.cell 1 rfl rfl)) ?_ | refine valP_ok (ld28 (hS.cell 2 rfl rfl)) ?_ | refine valP_ok (ld28 (hS.cell 3 rfl rfl)) ?_ | refine valP_ok (ld28 (hS.cell 4 rfl rfl)) ?_ | refine valP_ok (ld28 (by assumption)) ?_
        refine newslice_ok (bs28_1 rfl _) hS ?_
        intro b24 w hS
        refine append_one 2 (by simp only; omega) hS rfl ?_
        intro A1 c1 w hS
        simp only [List.set_cons_zero, List.set_cons_succ, List.cons_append, List.nil_append] at hS
        refine nil_ok ?_
        first | refine valP_ok (fa55_2 _ _) ?_ | refine valP_ok (fao55_2 _ _ _) ?_
        first | refine store_at 0 st28 hS rfl (by simp) rfl ?_ | refine store_at 1 st28 hS rfl (by simp) rfl ?_ | refine store_at 2 st28 hS rfl (by simp) rfl ?_ | refine store_at 3 st28 hS rfl (by simp) rfl ?_ | refine store_at 4 st28 hS rfl (by simp) rfl ?_
        intro w hS
        simp only [List.set_cons_zero, List.set_cons_succ] at hS
        unfold m27_10
        refine nil_ok ?_
        first | refine valP_ok (fa55_3 _ _) ?_ | refine valP_ok (fao55_3 _ _ _) ?_
        first | refine valP_ok (ld28 (hS.cell 0 rfl rfl)) ?_ | refine valP_ok (ld28 (hS.cell 1 rfl rfl)) ?_ | refine valP_ok (ld28 (hS.cell 2 rfl rfl)) ?_ | refine valP_ok (ld28 (hS.cell 3 rfl rfl)) ?_ | refine valP_ok (ld28 (hS.cell 4 rfl rfl)) ?_ | refine valP_ok (ld28 (by assumption)) ?_
        refine newslice_ok (bs28_1 rfl _) hS ?_
        intro b33 w hS
        refine append_one 3 (by omega) hS rfl ?_
        intro A2 c2 w hS
        simp only [List.set_cons_zero, List.set_cons_succ, List.cons_append, List.nil_append] at hS
        refine nil_ok ?_
        first | refine valP_ok (fa55_3 _ _) ?_ | refine valP_ok (fao55_3 _ _ _) ?_
        first | refine store_at 0 st28 hS rfl (by simp) rfl ?_ | refine store_at 1 st28 hS rfl (by simp) rfl ?_ | refine store_at 2 st28 hS rfl (by simp) rfl ?_ | refine store_at 3 st28 hS rfl (by simp) rfl ?_ | refine store_at 4 st28 hS rfl (by simp) rfl ?_
        intro w hS
        simp only [List.set_cons_zero, List.set_cons_succ] at hS
        unfold m27_9
        refine valP_ok (add_ok _ _ _ (by omega) (by omega) _) ?_
        refine ⟨⟨p + 1, ⟨m, cm, A1, c1, A2, c2⟩, rfl, by omega, ?_⟩, by simp [intOf]; omega⟩
        rw [List.replicate_succ']
        exact hS
      · have hpe : p = parts.toNat := by omega
        subst hpe
        unfold m27_4 m27_5
        show ite _ _ _
        rw [if_pos (by omega)]
        exact ⟨b, X, rfl, hS⟩
theorem sortL_members {s : CS} {l : List Int} (hs : CPre s) (h : (addL s.M l).1 = 0) : membersL (s.M ++ l) = sortL (addL s.M l).2 := by
  obtain ⟨h1, h2, h3, h4⟩ := addL_ok h
  have hne : s.M.Pairwise (· ≠ ·) := hs.rise.imp fun h e => by omega
  refine membersL_of (sortL_rise ?_) fun x => ?_
  · rw [h1]
    exact List.pairwise_append.2 ⟨hne, h4, fun a ha b hb e => h3 b hb (e ▸ ha)⟩
  · rw [sortL_mem, h1]
    refine ⟨fun hx => ⟨hx, ?_⟩, fun hx => hx.1⟩
    rcases List.mem_append.1 hx with hx | hx
    · have := hs.each x hx; omega
    · have := h2 x hx; omega
def rjoinQ (w0 : World) (F : List Nat) (L : List Res) (b : Nat) (r : Int × CS) (v : Value) (w' : World) : Prop := v = .int .i64 r.1 ∧ ∃ X', St w0 F w' (coopL 55 b r.2 X' ++ L)
theorem rjoin_ret {w0 w : World} {F : List Nat} {L : List Res} {b c : Nat} {s : CS} {X : CA} {A : Option Addr} {l : List Int} (hs : CPre s) (hl : l.length ≤ 800) (hc : l.length ≤ c) (hnil : A = none → c = 0) (hS : St w0 F w (coopL 55 b s X ++ L)) (hA : Bes w0 F L 1 A l.length (ints l)) :
    Ret Try.prog 28 #[.pointer (some ⟨b, 0, none⟩), .slice A l.length c] w (rjoinQ w0 F L b (joinS s l)) := by
  have hM8 := hs.len
  have hr := hA w _ hS (fun r hr => List.mem_append_right _ hr)
  refine s28 _ _ ?_
  unfold m28
  unfold m28_0
  unfold m28_1
  refine builtin_ok (len28 _) ?_
  refine valP_ok (eq3 _ _ _ _ _) ?_
  unfold m28_23
  unfold joinS
  refine cond_split (fun h => ?_) (fun h => ?_)
  · unfold m28_24
    rw [if_pos (List.eq_nil_of_length_eq_zero (by omega))]
    exact ⟨rfl, X, hS⟩
  rw [if_neg (fun e => h (by rw [e]; rfl))]
  unfold m28_2
  unfold m28_13
  refine loop_in (fun u w' => ∃ (p : Nat), u = .int .i64 p ∧ p ≤ l.length ∧ addL s.M l = addL (s.M ++ l.take p) (l.drop p) ∧ St w0 F w' (coopL 55 b s X ++ L)) (fun u _ => l.length - (intOf u).toNat)
    ⟨0, rfl, by omega, by simp, hS⟩ ?_
  clear hS hr
  rintro u w ⟨p, rfl, hp, had, hS⟩
  have hr := hA w _ hS (fun r hr => List.mem_append_right _ hr)
  unfold m28_14
  refine builtin_ok (len28 _) ?_
  refine valP_ok (lss_ok _ _ _ _ _ _ _) ?_
  unfold m28_22
  refine cond_split (fun h => ?_) (fun h => ?_)
  · have hlt : p < l.length := by omega
    obtain ⟨g, o, rfl⟩ := hr.some_ (by omega) (by omega)
    have hcl := hr.cell_ (ints_get hlt)
    rw [List.drop_eq_getElem_cons hlt, addL_cons, List.append_assoc, ← List.take_succ_eq_append_getElem hlt] at had
    have fin : ∀ (t : Bool) (K : Value → World → Prop), (t = true ↔ (l[p] < 1 ∨ 1099511627776 < l[p])) →
        (addL s.M l = addL (s.M ++ l.take (p + 1)) (l.drop (p + 1)) → ∀ w', St w0 F w' (coopL 55 b s X ++ L) → K (.int .i64 ((p + 1 : Nat) : Int)) w') →
        m28_20 (rjoinQ w0 F L b (joinF s (addL s.M l))) K (.pointer (some ⟨b, 0, none⟩)) (.slice (some ⟨g, o, none⟩) l.length c) (.int .i64 p) (.bool t) w := fun t K ht hK => by
      unfold m28_20
      refine cond_bsplit (fun h1 => ?_) (fun h1 => ?_)
      · rw [if_pos (ht.1 h1)] at had
        unfold m28_21
        rw [had]
        exact ⟨rfl, X, hS⟩
      rw [if_neg (fun h => by rw [ht.2 h] at h1; cases h1)] at had
      unfold m28_17
      refine drawn_ok hS ?_
      intro w hS
      have hr := hA w _ hS (fun r hr => List.mem_append_right _ hr)
      have hcl := hr.cell_ (ints_get hlt)
      first | refine pureP_ok (ixz28 (by first | assumption | omega)) ?_ | refine pureP_ok (ix28 (by first | assumption | omega)) ?_
      first | refine valP_ok (ld3 (hS.cell 0 rfl rfl)) ?_ | refine valP_ok (ld3 (hS.cell 1 rfl rfl)) ?_ | refine valP_ok (ld3 (hS.cell 2 rfl rfl)) ?_ | refine valP_ok (ld3 (hS.cell 3 rfl rfl)) ?_ | refine valP_ok (ld3 (hS.cell 4 rfl rfl)) ?_ | refine valP_ok (ld3 (by assumption)) ?_
      refine callR (by kernel_rfl) (ris_ret (by omega) hS l[p]) ?_
      rintro v w ⟨rfl, rfl⟩
      have fin2 : ∀ t : Bool, (t = true ↔ l[p] ∈ s.M ++ l.take p) → m28_18 (rjoinQ w0 F L b (joinF s (addL s.M l))) K (.pointer (some ⟨b, 0, none⟩)) (.slice (some ⟨g, o, none⟩) l.length c) (.int .i64 p) (.bool t) w := fun t ht => by
        unfold m28_18
        refine cond_bsplit (fun h1 => ?_) (fun h1 => ?_)
        · rw [if_pos (ht.1 h1)] at had
          unfold m28_19
          rw [had]
          exact ⟨rfl, X, hS⟩
        · rw [if_neg (fun h => by rw [ht.2 h] at h1; cases h1)] at had
          unfold m28_16
          refine valP_ok (add_ok _ _ _ (by omega) (by omega) _) ?_
          exact hK had _ hS
      refine cond_split (fun hm => ?_) (fun hm => ?_)
      · first | refine pick_dt (by first | assumption | omega) ?_ | refine pick_df (by first | assumption | omega) ?_ | refine pick_t (by first | rfl | assumption) ?_ | refine pick_f (by first | rfl | assumption) ?_ | refine pick_dt rfl ?_ | refine pick_df (not_not_intro rfl) ?_
        exact fin2 true ⟨fun _ => List.mem_append_left _ hm, fun _ => rfl⟩
      · refine pureP_ok (sh28 (by omega) ) ?_
        first | refine pureP_ok (ixz28 (by first | assumption | omega)) ?_ | refine pureP_ok (ix28 (by first | assumption | omega)) ?_
        first | refine valP_ok (ld3 (hS.cell 0 rfl rfl)) ?_ | refine valP_ok (ld3 (hS.cell 1 rfl rfl)) ?_ | refine valP_ok (ld3 (hS.cell 2 rfl rfl)) ?_ | refine valP_ok (ld3 (hS.cell 3 rfl rfl)) ?_ | refine valP_ok (ld3 (hS.cell 4 rfl rfl)) ?_ | refine valP_ok (ld3 (by assumption)) ?_
        have hrt := Rd.take_ints hr p
        have htl : (l.take p).length = p := by rw [List.length_take]; omega
        have hct := count_ret (some ⟨g, o, none⟩) c (l.take p) l[p] w hrt (by omega)
        rw [htl] at hct
        refine callR (by kernel_rfl) hct ?_
        rintro v w ⟨rfl, rfl⟩
        refine pureP_ok (gtr_ok _ _ _ _ _ _) ?_
        first | refine pick_dt (by first | assumption | omega) ?_ | refine pick_df (by first | assumption | omega) ?_ | refine pick_t (by first | rfl | assumption) ?_ | refine pick_f (by first | rfl | assumption) ?_ | refine pick_dt rfl ?_ | refine pick_df (not_not_intro rfl) ?_
        refine fin2 _ ?_
        rw [decide_eq_true_iff, List.mem_append]
        have h1 : 0 < tm (l.take p) l[p] ↔ l[p] ∈ l.take p := by
          rw [← List.count_pos_iff]
          unfold tm
          omega
        rw [h1]
        exact ⟨.inr, fun h => h.resolve_left hm⟩
    unfold m28_15
    first | refine valP_ok (ixz28 (by first | assumption | omega) _) ?_ | refine valP_ok (ix28 (by first | assumption | omega) _) ?_
    first | refine valP_ok (ld3 (hS.cell 0 rfl rfl)) ?_ | refine valP_ok (ld3 (hS.cell 1 rfl rfl)) ?_ | refine valP_ok (ld3 (hS.cell 2 rfl rfl)) ?_ | refine valP_ok (ld3 (hS.cell 3 rfl rfl)) ?_ | refine valP_ok (ld3 (hS.cell 4 rfl rfl)) ?_ | refine valP_ok (ld3 (by assumption)) ?_
    refine valP_ok (lss_ok _ _ _ _ _ _ _) ?_
    refine cond_split (fun h1 => ?_) (fun h1 => ?_)
    · first | refine pick_dt (by first | assumption | omega) ?_ | refine pick_df (by first | assumption | omega) ?_ | refine pick_t (by first | rfl | assumption) ?_ | refine pick_f (by first | rfl | assumption) ?_ | refine pick_dt rfl ?_ | refine pick_df (not_not_intro rfl) ?_
      exact fin true _ ⟨fun _ => .inl h1, fun _ => rfl⟩ (fun had w' hS => ⟨⟨p + 1, rfl, by omega, had, hS⟩, by simp [intOf]; omega⟩)
    · first | refine valP_ok (ixz28 (by first | assumption | omega) _) ?_ | refine valP_ok (ix28 (by first | assumption | omega) _) ?_
      first | refine valP_ok (ld3 (hS.cell 0 rfl rfl)) ?_ | refine valP_ok (ld3 (hS.cell 1 rfl rfl)) ?_ | refine valP_ok (ld3 (hS.cell 2 rfl rfl)) ?_ | refine valP_ok (ld3 (hS.cell 3 rfl rfl)) ?_ | refine valP_ok (ld3 (hS.cell 4 rfl rfl)) ?_ | refine valP_ok (ld3 (by assumption)) ?_
      refine valP_ok (gtr_ok _ _ _ _ _ _ _) ?_
      first | refine pick_dt (by first | assumption | omega) ?_ | refine pick_df (by first | assumption | omega) ?_ | refine pick_t (by first | rfl | assumption) ?_ | refine pick_f (by first | rfl | assumption) ?_ | refine pick_dt rfl ?_ | refine pick_df (not_not_intro rfl) ?_
      exact fin _ _ (by simp; omega) (fun had w' hS => ⟨⟨p + 1, rfl, by omega, had, hS⟩, by simp [intOf]; omega⟩)
  · have hpe : p = l.length := by omega
    rw [hpe, List.drop_length, List.take_length] at had
    have ha0 : (addL s.M l).1 = 0 := by rw [had]; rfl
    have hj0 : joinF s (addL s.M l) = if 8 < (s.M ++ l).length then (5, s) else (0, turned { s with M := sortL (s.M ++ l) }) := by rw [had]; rfl
    have hsm := sortL_members hs ha0
    unfold m28_3
    refine nil_ok ?_
    first | refine valP_ok (fa55_1 _ _) ?_ | refine valP_ok (fao55_1 _ _ _) ?_
    first | refine valP_ok (ld28 (hS.cell 0 rfl rfl)) ?_ | refine valP_ok (ld28 (hS.cell 1 rfl rfl)) ?_ | refine valP_ok (ld28 (hS.cell 2 rfl rfl)) ?_ | refine valP_ok (ld28 (hS.cell 3 rfl rfl)) ?_ | refine valP_ok (ld28 (hS.cell 4 rfl rfl)) ?_ | refine valP_ok (ld28 (by assumption)) ?_
    refine builtin_ok (len28 _) ?_
    refine builtin_ok (len28 _) ?_
    refine valP_ok (add_ok _ _ _ (by omega) (by omega) _) ?_
    refine valP_ok (gtr_ok _ _ _ _ _ _ _) ?_
    unfold m28_11
    refine cond_split (fun h8 => ?_) (fun h8 => ?_)
    · rw [hj0, if_pos (by simp; omega)]
      unfold m28_12
      exact ⟨rfl, X, hS⟩
    rw [hj0, if_neg (by simp; omega)]
    have hpre := add_pre (l := l) hs ha0 (by rw [had]; show ¬ 8 < (s.M ++ l).length; simp; omega)
    rw [had] at hpre hsm
    have hpre : CPre { s with M := sortL (s.M ++ l) } := hpre
    have hsm : membersL (s.M ++ l) = sortL (s.M ++ l) := hsm
    unfold m28_4
    have hS := hS.row_nil 3 1
    unfold m28_5
    refine nil_ok ?_
    first | refine valP_ok (fa55_1 _ _) ?_ | refine valP_ok (fao55_1 _ _ _) ?_
    first | refine valP_ok (ld28 (hS.cell 0 rfl rfl)) ?_ | refine valP_ok (ld28 (hS.cell 1 rfl rfl)) ?_ | refine valP_ok (ld28 (hS.cell 2 rfl rfl)) ?_ | refine valP_ok (ld28 (hS.cell 3 rfl rfl)) ?_ | refine valP_ok (ld28 (hS.cell 4 rfl rfl)) ?_ | refine valP_ok (ld28 (by assumption)) ?_
    refine append_any (l0 := []) 0 (by simp) (by omega) hS rfl (hS.row_rd 2 rfl) (irow_nilcap 2 hS rfl) ?_
    intro A1 c1 w hS
    simp only [List.set_cons_zero, List.nil_append] at hS
    unfold m28_6
    refine append_any (l0 := s.M) 0 (by omega) (by omega) hS rfl (hA w _ hS (fun r hr => .tail _ (List.mem_append_right _ hr))) hnil ?_
    intro A2 c2 w hS
    simp only [List.set_cons_zero] at hS
    unfold m28_7
    refine callR (by kernel_rfl) (members_ret (by simp; omega) hS (Bes.of_row 0 rfl)) ?_
    rintro v w ⟨A3, c3, rfl, hS⟩
    rw [hsm] at hS ⊢
    refine nil_ok ?_
    first | refine valP_ok (fa55_1 _ _) ?_ | refine valP_ok (fao55_1 _ _ _) ?_
    first | refine store_at 0 st28 hS rfl (by simp) rfl ?_ | refine store_at 1 st28 hS rfl (by simp) rfl ?_ | refine store_at 2 st28 hS rfl (by simp) rfl ?_ | refine store_at 3 st28 hS rfl (by simp) rfl ?_ | refine store_at 4 st28 hS rfl (by simp) rfl ?_
    intro w hS
    simp only [List.set_cons_zero, List.set_cons_succ] at hS
    have hS : St w0 F w (coopL 55 b { s with M := sortL (s.M ++ l) } ⟨A3, c3, X.h, X.ch, X.q, X.cq⟩ ++ L) := hS.pick 6 [2, 0, 4, 5] (by simp) (by decide)
    unfold m28_8
    refine callR (by kernel_rfl) (begin_ret hpre hS) ?_
    rintro v w ⟨X', hS⟩
    unfold m28_9 m28_10
    exact ⟨rfl, X', hS⟩
theorem rleave_ret {w0 w : World} {F : List Nat} {L : List Res} {b : Nat} {s : CS} {X : CA} (m : Int) (hs : CPre s) (hS : St w0 F w (coopL 55 b s X ++ L)) :
    Ret Try.prog 30 #[.pointer (some ⟨b, 0, none⟩), .int .i64 m] w (rjoinQ w0 F L b (leaveS s m)) := by
  have hM8 := hs.len
  refine s30 _ _ ?_
  unfold m30
  unfold m30_0
  unfold m30_1
  refine callR (by kernel_rfl) (ris_ret (by omega) hS m) ?_
  rintro v w ⟨rfl, rfl⟩
  first | refine valP_ok (not_ok _ _) ?_ | refine valP_ok (notb_ok _ _) ?_
  unfold m30_14
  unfold leaveS
  refine cond_split (fun h => ?_) (fun h => ?_)
  · rw [if_neg h]
    unfold m30_15
    exact ⟨rfl, X, hS⟩
  rw [if_pos (Decidable.not_not.1 h)]
  unfold m30_2
  have hS := hS.row_nil 3 1
  unfold m30_3
  unfold m30_8
  refine loop_in (fun u w' => ∃ (p : Nat) (A : Option Addr) (c : Nat), u = (.slice A ((s.M.take p).filter fun x => !decide (x = m)).length c, .int .i64 p) ∧ p ≤ s.M.length ∧ St w0 F w' (irow (.slice A ((s.M.take p).filter fun x => !decide (x = m)).length c) ((s.M.take p).filter fun x => !decide (x = m)) :: (coopL 55 b s X ++ L))) (fun u _ => s.M.length - (intOf u.2).toNat)
    ⟨0, none, 0, rfl, by omega, hS⟩ ?_
  clear hS
  rintro u w ⟨p, A, c, rfl, hp, hS⟩
  unfold m30_9
  refine nil_ok ?_
  first | refine valP_ok (fa55_1 _ _) ?_ | refine valP_ok (fao55_1 _ _ _) ?_
  first | refine valP_ok (ld28 (hS.cell 0 rfl rfl)) ?_ | refine valP_ok (ld28 (hS.cell 1 rfl rfl)) ?_ | refine valP_ok (ld28 (hS.cell 2 rfl rfl)) ?_ | refine valP_ok (ld28 (hS.cell 3 rfl rfl)) ?_ | refine valP_ok (ld28 (hS.cell 4 rfl rfl)) ?_ | refine valP_ok (ld28 (by assumption)) ?_
  refine builtin_ok (len28 _) ?_
  refine valP_ok (lss_ok _ _ _ _ _ _ _) ?_
  unfold m30_13
  refine cond_split (fun h => ?_) (fun h => ?_)
  · have hlt : p < s.M.length := by omega
    obtain ⟨g, hg⟩ := hS.row_ptr 2 rfl (by omega)
    obtain ⟨xm, cm, hh, ch, q, cq⟩ := X
    simp only at hg
    subst hg
    have hc := hS.row_cell 2 rfl (ints_get hlt)
    have htk : (s.M.take (p + 1)).filter (fun x => !decide (x = m)) = (s.M.take p).filter (fun x => !decide (x = m)) ++ (if s.M[p] = m then [] else [s.M[p]]) := by
      rw [List.take_succ_eq_append_getElem hlt, List.filter_append]
      congr 1
      by_cases e : s.M[p] = m <;> simp [e]
    have htl : ((s.M.take p).filter fun x => !decide (x = m)).length ≤ 8 := by
      have := List.length_filter_le (fun x => !decide (x = m)) (s.M.take p)
      rw [List.length_take] at this
      omega
    unfold m30_10
    refine nil_ok ?_
    first | refine valP_ok (fa55_1 _ _) ?_ | refine valP_ok (fao55_1 _ _ _) ?_
    first | refine valP_ok (ld28 (hS.cell 0 rfl rfl)) ?_ | refine valP_ok (ld28 (hS.cell 1 rfl rfl)) ?_ | refine valP_ok (ld28 (hS.cell 2 rfl rfl)) ?_ | refine valP_ok (ld28 (hS.cell 3 rfl rfl)) ?_ | refine valP_ok (ld28 (hS.cell 4 rfl rfl)) ?_ | refine valP_ok (ld28 (by assumption)) ?_
    first | refine valP_ok (ixz28 (by first | assumption | omega) _) ?_ | refine valP_ok (ix28 (by first | assumption | omega) _) ?_
    first | refine valP_ok (ld3 (hS.cell 0 rfl rfl)) ?_ | refine valP_ok (ld3 (hS.cell 1 rfl rfl)) ?_ | refine valP_ok (ld3 (hS.cell 2 rfl rfl)) ?_ | refine valP_ok (ld3 (hS.cell 3 rfl rfl)) ?_ | refine valP_ok (ld3 (hS.cell 4 rfl rfl)) ?_ | refine valP_ok (ld3 (by assumption)) ?_
    refine valP_ok (ne3 _ _ _ _ _) ?_
    unfold m30_12
    refine cond_split (fun e => ?_) (fun e => ?_)
    · rw [if_neg e] at htk
      refine nil_ok ?_
      first | refine valP_ok (fa55_1 _ _) ?_ | refine valP_ok (fao55_1 _ _ _) ?_
      first | refine valP_ok (ld28 (hS.cell 0 rfl rfl)) ?_ | refine valP_ok (ld28 (hS.cell 1 rfl rfl)) ?_ | refine valP_ok (ld28 (hS.cell 2 rfl rfl)) ?_ | refine valP_ok (ld28 (hS.cell 3 rfl rfl)) ?_ | refine valP_ok (ld28 (hS.cell 4 rfl rfl)) ?_ | refine valP_ok (ld28 (by assumption)) ?_
      first | refine valP_ok (ixz28 (by first | assumption | omega) _) ?_ | refine valP_ok (ix28 (by first | assumption | omega) _) ?_
      first | refine valP_ok (ld3 (hS.cell 0 rfl rfl)) ?_ | refine valP_ok (ld3 (hS.cell 1 rfl rfl)) ?_ | refine valP_ok (ld3 (hS.cell 2 rfl rfl)) ?_ | refine valP_ok (ld3 (hS.cell 3 rfl rfl)) ?_ | refine valP_ok (ld3 (hS.cell 4 rfl rfl)) ?_ | refine valP_ok (ld3 (by assumption)) ?_
      refine newslice_ok (bs28_1 rfl _) hS ?_
      intro b37 w hS
      refine append_one 0 (by omega) hS rfl ?_
      intro A2 c2 w' hS
      simp only [List.set_cons_zero] at hS
      unfold m30_11
      refine valP_ok (add_ok _ _ _ (by omega) (by omega) _) ?_
      exact ⟨⟨p + 1, A2, c2, by rw [htk]; rfl, by omega, by rw [htk]; exact hS⟩, by simp [intOf]; omega⟩
    · rw [if_pos (Decidable.not_not.1 e), List.append_nil] at htk
      unfold m30_11
      refine valP_ok (add_ok _ _ _ (by omega) (by omega) _) ?_
      exact ⟨⟨p + 1, A, c, by rw [htk]; rfl, by omega, by rw [htk]; exact hS⟩, by simp [intOf]; omega⟩
  · have hpe : p = s.M.length := by omega
    subst hpe
    rw [List.take_length] at hS ⊢
    unfold m30_4
    refine nil_ok ?_
    first | refine valP_ok (fa55_1 _ _) ?_ | refine valP_ok (fao55_1 _ _ _) ?_
    first | refine store_at 0 st28 hS rfl (by simp) rfl ?_ | refine store_at 1 st28 hS rfl (by simp) rfl ?_ | refine store_at 2 st28 hS rfl (by simp) rfl ?_ | refine store_at 3 st28 hS rfl (by simp) rfl ?_ | refine store_at 4 st28 hS rfl (by simp) rfl ?_
    intro w hS
    simp only [List.set_cons_zero, List.set_cons_succ] at hS
    have hS : St w0 F w (coopL 55 b { s with M := s.M.filter fun x => !decide (x = m) } ⟨A, c, X.h, X.ch, X.q, X.cq⟩ ++ L) := hS.pick 5 [1, 0, 3, 4] (by simp) (by decide)
    unfold m30_5
    refine callR (by kernel_rfl) (begin_ret (leave_pre hs m) hS) ?_
    rintro v w ⟨X', hS⟩
    unfold m30_6 m30_7
    exact ⟨rfl, X', hS⟩
theorem rrevoke_ret {w0 w : World} {F : List Nat} {L : List Res} {b : Nat} {s : CS} {X : CA} (m : Int) (hs : CPre s) (hS : St w0 F w (coopL 55 b s X ++ L)) :
    Ret Try.prog 31 #[.pointer (some ⟨b, 0, none⟩), .int .i64 m] w fun v w' => ∃ A c, v = .tuple #[.slice A (revL s m).length c, .int .i64 (if m ∈ s.M then 0 else 11)] ∧ St w0 F w' (irow (.slice A (revL s m).length c) (revL s m) :: (coopL 55 b s X ++ L)) := by
  have hM8 := hs.len
  have hp := hs.parts
  have hsame := hs.same
  refine s31 _ _ ?_
  unfold m31
  unfold m31_0
  unfold m31_1
  refine callR (by kernel_rfl) (ris_ret (by omega) hS m) ?_
  rintro v w ⟨rfl, rfl⟩
  first | refine valP_ok (not_ok _ _) ?_ | refine valP_ok (notb_ok _ _) ?_
  unfold m31_12
  unfold revL
  refine cond_split (fun h => ?_) (fun h => ?_)
  · rw [if_neg h, if_neg h]
    unfold m31_13
    exact ⟨none, 0, rfl, hS.row_nil 3 1⟩
  have h := Decidable.not_not.1 h
  rw [if_pos h, if_pos h]
  unfold m31_2
  have hS := hS.row_nil 3 1
  unfold m31_3
  unfold m31_6
  refine loop_in (fun u w' => ∃ (p : Nat) (A' : Option Addr) (c' : Nat), u = (.slice A' (revN s.H s.W m p).length c', .int .i64 p) ∧ p ≤ s.H.length ∧ St w0 F w' (irow (.slice A' (revN s.H s.W m p).length c') (revN s.H s.W m p) :: (coopL 55 b s X ++ L))) (fun u _ => s.H.length - (intOf u.2).toNat)
    ⟨0, none, 0, rfl, by omega, hS⟩ ?_
  clear hS
  rintro u w ⟨p, A1, c1, rfl, hp, hS⟩
  have hrl := revN_len s.H s.W m p
  unfold m31_7
  refine nil_ok ?_
  first | refine valP_ok (fa55_2 _ _) ?_ | refine valP_ok (fao55_2 _ _ _) ?_
  first | refine valP_ok (ld28 (hS.cell 0 rfl rfl)) ?_ | refine valP_ok (ld28 (hS.cell 1 rfl rfl)) ?_ | refine valP_ok (ld28 (hS.cell 2 rfl rfl)) ?_ | refine valP_ok (ld28 (hS.cell 3 rfl rfl)) ?_ | refine valP_ok (ld28 (hS.cell 4 rfl rfl)) ?_ | refine valP_ok (ld28 (by assumption)) ?_
  refine builtin_ok (len28 _) ?_
  refine valP_ok (lss_ok _ _ _ _ _ _ _) ?_
  unfold m31_11
  refine cond_split (fun h => ?_) (fun h => ?_)
  · have hlt : p < s.H.length := by omega
    have hlw : p < s.W.length := by omega
    have hst : revN s.H s.W m (p + 1) = if s.H[p] = m ∧ s.W[p] ≠ m then revN s.H s.W m p ++ [(p : Int)] else revN s.H s.W m p := by
      show (if s.H[p]! = m ∧ s.W[p]! ≠ m then _ else _) = _
      rw [getElem!_pos s.H p hlt, getElem!_pos s.W p hlw]
    obtain ⟨g, hg⟩ := hS.row_ptr 3 rfl (by omega)
    obtain ⟨xm, cm, hh, ch, q, cq⟩ := X
    simp only at hg
    subst hg
    obtain ⟨g2, hg2⟩ := hS.row_ptr 4 rfl (by omega)
    simp only at hg2
    subst hg2
    have hc := hS.row_cell 3 rfl (ints_get hlt)
    have hc4 := hS.row_cell 4 rfl (ints_get hlw)
    have fin : ∀ (t : Bool) R (K : Value × Value → World → Prop), (t = true ↔ (s.H[p] = m ∧ s.W[p] ≠ m)) →
        (∀ A' c' w', St w0 F w' (irow (.slice A' (revN s.H s.W m (p + 1)).length c') (revN s.H s.W m (p + 1)) :: (coopL 55 b s ⟨xm, cm, some ⟨g, 0, none⟩, ch, some ⟨g2, 0, none⟩, cq⟩ ++ L)) → K (.slice A' (revN s.H s.W m (p + 1)).length c', .int .i64 ((p + 1 : Nat) : Int)) w') →
        m31_10 R K (.pointer (some ⟨b, 0, none⟩)) (.int .i64 m) (.slice A1 (revN s.H s.W m p).length c1) (.int .i64 p) (.bool t) w := fun t R K ht hK => by
      unfold m31_10
      refine cond_bsplit (fun h1 => ?_) (fun h1 => ?_)
      · rw [if_pos (ht.1 h1)] at hst
        rw [hst] at hK
        refine newslice_ok (bs28_1 rfl _) hS ?_
        intro b43 w hS
        refine append_one 0 (by omega) hS rfl ?_
        intro A2 c2 w' hS
        simp only [List.set_cons_zero] at hS
        unfold m31_9
        refine valP_ok (add_ok _ _ _ (by omega) (by omega) _) ?_
        exact hK A2 c2 _ hS
      · rw [if_neg (fun h => by rw [ht.2 h] at h1; cases h1)] at hst
        rw [hst] at hK
        unfold m31_9
        refine valP_ok (add_ok _ _ _ (by omega) (by omega) _) ?_
        exact hK _ _ _ hS
    unfold m31_8
    refine nil_ok ?_
    first | refine valP_ok (fa55_2 _ _) ?_ | refine valP_ok (fao55_2 _ _ _) ?_
    first | refine valP_ok (ld28 (hS.cell 0 rfl rfl)) ?_ | refine valP_ok (ld28 (hS.cell 1 rfl rfl)) ?_ | refine valP_ok (ld28 (hS.cell 2 rfl rfl)) ?_ | refine valP_ok (ld28 (hS.cell 3 rfl rfl)) ?_ | refine valP_ok (ld28 (hS.cell 4 rfl rfl)) ?_ | refine valP_ok (ld28 (by assumption)) ?_
    first | refine valP_ok (ixz28 (by first | assumption | omega) _) ?_ | refine valP_ok (ix28 (by first | assumption | omega) _) ?_
    first | refine valP_ok (ld3 (hS.cell 0 rfl rfl)) ?_ | refine valP_ok (ld3 (hS.cell 1 rfl rfl)) ?_ | refine valP_ok (ld3 (hS.cell 2 rfl rfl)) ?_ | refine valP_ok (ld3 (hS.cell 3 rfl rfl)) ?_ | refine valP_ok (ld3 (hS.cell 4 rfl rfl)) ?_ | refine valP_ok (ld3 (by assumption)) ?_
    refine valP_ok (eq3 _ _ _ _ _) ?_
    refine cond_split (fun h1 => ?_) (fun h1 => ?_)
    · refine nil_ok ?_
      first | refine valP_ok (fa55_3 _ _) ?_ | refine valP_ok (fao55_3 _ _ _) ?_
      first | refine valP_ok (ld28 (hS.cell 0 rfl rfl)) ?_ | refine valP_ok (ld28 (hS.cell 1 rfl rfl)) ?_ | refine valP_ok (ld28 (hS.cell 2 rfl rfl)) ?_ | refine valP_ok (ld28 (hS.cell 3 rfl rfl)) ?_ | refine valP_ok (ld28 (hS.cell 4 rfl rfl)) ?_ | refine valP_ok (ld28 (by assumption)) ?_
      first | refine valP_ok (ixz28 (by first | assumption | omega) _) ?_ | refine valP_ok (ix28 (by first | assumption | omega) _) ?_
      first | refine valP_ok (ld3 (hS.cell 0 rfl rfl)) ?_ | refine valP_ok (ld3 (hS.cell 1 rfl rfl)) ?_ | refine valP_ok (ld3 (hS.cell 2 rfl rfl)) ?_ | refine valP_ok (ld3 (hS.cell 3 rfl rfl)) ?_ | refine valP_ok (ld3 (hS.cell 4 rfl rfl)) ?_ | refine valP_ok (ld3 (by assumption)) ?_
      refine valP_ok (ne3 _ _ _ _ _) ?_
      first | refine pick_dt (by first | assumption | omega) ?_ | refine pick_df (by first | assumption | omega) ?_ | refine pick_t (by first | rfl | assumption) ?_ | refine pick_f (by first | rfl | assumption) ?_ | refine pick_dt rfl ?_ | refine pick_df (not_not_intro rfl) ?_
      exact fin _ _ _ (by simp [h1]) (fun A' c' w' hS => ⟨⟨p + 1, A', c', rfl, by omega, hS⟩, by simp [intOf]; omega⟩)
    · first | refine pick_dt (by first | assumption | omega) ?_ | refine pick_df (by first | assumption | omega) ?_ | refine pick_t (by first | rfl | assumption) ?_ | refine pick_f (by first | rfl | assumption) ?_ | refine pick_dt rfl ?_ | refine pick_df (not_not_intro rfl) ?_
      exact fin _ _ _ (by simp [h1]) (fun A' c' w' hS => ⟨⟨p + 1, A', c', rfl, by omega, hS⟩, by simp [intOf]; omega⟩)
  · have hpe : p = s.H.length := by omega
    subst hpe
    unfold m31_4 m31_5
    exact ⟨A1, c1, rfl, hS⟩
theorem rdone_ret {w0 w : World} {F : List Nat} {L : List Res} {b : Nat} {s : CS} {X : CA} (m p : Int) (hs : CPre s) (hS : St w0 F w (coopL 55 b s X ++ L)) :
    Ret Try.prog 34 #[.pointer (some ⟨b, 0, none⟩), .int .i64 m, .int .i64 p] w (rjoinQ w0 F L b (doneS s m p)) := by
  have hM8 := hs.len
  have hpp := hs.parts
  have hsame := hs.same
  refine s34 _ _ _ ?_
  unfold m34
  unfold m34_0
  unfold m34_1
  refine callR (by kernel_rfl) (ris_ret (by omega) hS m) ?_
  rintro v w ⟨rfl, rfl⟩
  first | refine valP_ok (not_ok _ _) ?_ | refine valP_ok (notb_ok _ _) ?_
  unfold m34_12
  unfold doneS
  refine cond_split (fun h => ?_) (fun h => ?_)
  · rw [if_pos h]
    unfold m34_13
    exact ⟨rfl, X, hS⟩
  rw [if_neg h]
  unfold m34_2
  refine valP_ok (lss_ok _ _ _ _ _ _ _) ?_
  have bad : ∀ t : Bool, (p < 0 ∨ (s.H.length : Int) ≤ p) → t = true → m34_10 (rjoinQ w0 F L b (if p < 0 ∨ (s.H.length : Int) ≤ p then (6, s) else if s.H[p.toNat]! ≠ m ∨ s.W[p.toNat]! = m then (13, s) else (0, { s with H := giveL (s.H.set p.toNat 0) s.W }))) (.pointer (some ⟨b, 0, none⟩)) (.int .i64 m) (.int .i64 p) (.bool t) w := fun t hb ht => by
    unfold m34_10
    refine cond_t ht ?_
    unfold m34_11
    rw [if_pos hb]
    exact ⟨rfl, X, hS⟩
  refine cond_split (fun h1 => ?_) (fun h1 => ?_)
  · first | refine pick_dt (by first | assumption | omega) ?_ | refine pick_df (by first | assumption | omega) ?_ | refine pick_t (by first | rfl | assumption) ?_ | refine pick_f (by first | rfl | assumption) ?_ | refine pick_dt rfl ?_ | refine pick_df (not_not_intro rfl) ?_
    exact bad _ (.inl h1) rfl
  refine nil_ok ?_
  first | refine valP_ok (fa55_2 _ _) ?_ | refine valP_ok (fao55_2 _ _ _) ?_
  first | refine valP_ok (ld28 (hS.cell 0 rfl rfl)) ?_ | refine valP_ok (ld28 (hS.cell 1 rfl rfl)) ?_ | refine valP_ok (ld28 (hS.cell 2 rfl rfl)) ?_ | refine valP_ok (ld28 (hS.cell 3 rfl rfl)) ?_ | refine valP_ok (ld28 (hS.cell 4 rfl rfl)) ?_ | refine valP_ok (ld28 (by assumption)) ?_
  refine builtin_ok (len28 _) ?_
  refine valP_ok (geq_ok _ _ _ _ _ _ _) ?_
  first | refine pick_dt (by first | assumption | omega) ?_ | refine pick_df (by first | assumption | omega) ?_ | refine pick_t (by first | rfl | assumption) ?_ | refine pick_f (by first | rfl | assumption) ?_ | refine pick_dt rfl ?_ | refine pick_df (not_not_intro rfl) ?_
  by_cases h2 : (s.H.length : Int) ≤ p
  · exact bad _ (.inr h2) (decide_eq_true h2)
  rw [if_neg (by omega)]
  obtain ⟨k, rfl⟩ : ∃ k : Nat, p = k := ⟨p.toNat, by omega⟩
  have hlt : k < s.H.length := by omega
  have hlw : k < s.W.length := by omega
  rw [Int.toNat_natCast, getElem!_pos s.H k hlt, getElem!_pos s.W k hlw]
  unfold m34_10
  refine cond_df h2 ?_
  obtain ⟨g, hg⟩ := hS.row_ptr 2 rfl (by omega)
  obtain ⟨xm, cm, hh, ch, q, cq⟩ := X
  simp only at hg
  subst hg
  obtain ⟨g2, hg2⟩ := hS.row_ptr 3 rfl (by omega)
  simp only at hg2
  subst hg2
  have hc := hS.row_cell 2 rfl (ints_get hlt)
  have hc4 := hS.row_cell 3 rfl (ints_get hlw)
  have fin : ∀ t : Bool, (t = true ↔ (s.H[k] ≠ m ∨ s.W[k] = m)) → m34_8 (rjoinQ w0 F L b (if s.H[k] ≠ m ∨ s.W[k] = m then (13, s) else (0, { s with H := giveL (s.H.set k 0) s.W }))) (.pointer (some ⟨b, 0, none⟩)) (.int .i64 k) (.bool t) w := fun t ht => by
    unfold m34_8
    refine cond_bsplit (fun h1 => ?_) (fun h1 => ?_)
    · unfold m34_9
      rw [if_pos (ht.1 h1)]
      exact ⟨rfl, _, hS⟩
    · rw [if_neg (fun h => by rw [ht.2 h] at h1; cases h1)]
      unfold m34_4
      refine nil_ok ?_
      first | refine valP_ok (fa55_2 _ _) ?_ | refine valP_ok (fao55_2 _ _ _) ?_
      first | refine valP_ok (ld28 (hS.cell 0 rfl rfl)) ?_ | refine valP_ok (ld28 (hS.cell 1 rfl rfl)) ?_ | refine valP_ok (ld28 (hS.cell 2 rfl rfl)) ?_ | refine valP_ok (ld28 (hS.cell 3 rfl rfl)) ?_ | refine valP_ok (ld28 (hS.cell 4 rfl rfl)) ?_ | refine valP_ok (ld28 (by assumption)) ?_
      first | refine valP_ok (ixz28 (by first | assumption | omega) _) ?_ | refine valP_ok (ix28 (by first | assumption | omega) _) ?_
      refine set_irow 2 hS rfl hlt ?_
      intro w hS
      simp only [List.set_cons_zero, List.set_cons_succ, List.cons_append, List.nil_append] at hS
      have hS : St w0 F w (coopL 55 b { s with H := s.H.set k 0 } ⟨xm, cm, some ⟨g, 0, none⟩, ch, some ⟨g2, 0, none⟩, cq⟩ ++ L) := by
        show St w0 F w ([_, _, _, _] ++ L)
        simp only [coopC, List.length_set] at hS ⊢
        exact hS
      unfold m34_5
      refine callR (by kernel_rfl) (given_ret (by simp; omega) (by simp; omega) hS) ?_
      intro v w hS
      unfold m34_6 m34_7
      exact ⟨rfl, _, hS⟩
  unfold m34_3
  refine nil_ok ?_
  first | refine valP_ok (fa55_2 _ _) ?_ | refine valP_ok (fao55_2 _ _ _) ?_
  first | refine valP_ok (ld28 (hS.cell 0 rfl rfl)) ?_ | refine valP_ok (ld28 (hS.cell 1 rfl rfl)) ?_ | refine valP_ok (ld28 (hS.cell 2 rfl rfl)) ?_ | refine valP_ok (ld28 (hS.cell 3 rfl rfl)) ?_ | refine valP_ok (ld28 (hS.cell 4 rfl rfl)) ?_ | refine valP_ok (ld28 (by assumption)) ?_
  first | refine valP_ok (ixz28 (by first | assumption | omega) _) ?_ | refine valP_ok (ix28 (by first | assumption | omega) _) ?_
  first | refine valP_ok (ld3 (hS.cell 0 rfl rfl)) ?_ | refine valP_ok (ld3 (hS.cell 1 rfl rfl)) ?_ | refine valP_ok (ld3 (hS.cell 2 rfl rfl)) ?_ | refine valP_ok (ld3 (hS.cell 3 rfl rfl)) ?_ | refine valP_ok (ld3 (hS.cell 4 rfl rfl)) ?_ | refine valP_ok (ld3 (by assumption)) ?_
  refine valP_ok (ne3 _ _ _ _ _) ?_
  refine cond_split (fun h3 => ?_) (fun h3 => ?_)
  · first | refine pick_dt (by first | assumption | omega) ?_ | refine pick_df (by first | assumption | omega) ?_ | refine pick_t (by first | rfl | assumption) ?_ | refine pick_f (by first | rfl | assumption) ?_ | refine pick_dt rfl ?_ | refine pick_df (not_not_intro rfl) ?_
    exact fin true ⟨fun _ => .inl h3, fun _ => rfl⟩
  · refine nil_ok ?_
    first | refine valP_ok (fa55_3 _ _) ?_ | refine valP_ok (fao55_3 _ _ _) ?_
    first | refine valP_ok (ld28 (hS.cell 0 rfl rfl)) ?_ | refine valP_ok (ld28 (hS.cell 1 rfl rfl)) ?_ | refine valP_ok (ld28 (hS.cell 2 rfl rfl)) ?_ | refine valP_ok (ld28 (hS.cell 3 rfl rfl)) ?_ | refine valP_ok (ld28 (hS.cell 4 rfl rfl)) ?_ | refine valP_ok (ld28 (by assumption)) ?_
    first | refine valP_ok (ixz28 (by first | assumption | omega) _) ?_ | refine valP_ok (ix28 (by first | assumption | omega) _) ?_
    first | refine valP_ok (ld3 (hS.cell 0 rfl rfl)) ?_ | refine valP_ok (ld3 (hS.cell 1 rfl rfl)) ?_ | refine valP_ok (ld3 (hS.cell 2 rfl rfl)) ?_ | refine valP_ok (ld3 (hS.cell 3 rfl rfl)) ?_ | refine valP_ok (ld3 (hS.cell 4 rfl rfl)) ?_ | refine valP_ok (ld3 (by assumption)) ?_
    refine valP_ok (eq3 _ _ _ _ _) ?_
    first | refine pick_dt (by first | assumption | omega) ?_ | refine pick_df (by first | assumption | omega) ?_ | refine pick_t (by first | rfl | assumption) ?_ | refine pick_f (by first | rfl | assumption) ?_ | refine pick_dt rfl ?_ | refine pick_df (not_not_intro rfl) ?_
    exact fin _ (by simp; intro h; exact absurd h h3)
theorem sortL_self {M : List Int} (h : M.Pairwise (· < ·)) : sortL M = M := sorted_unique _ _ (sortL_rise (h.imp fun h e => by omega)) h fun x => sortL_mem
def ex0 : CS := ⟨0, [], [0, 0, 0, 0], [0, 0, 0, 0]⟩
def ex1 : CS := ⟨1, [1], [1, 1, 1, 1], [1, 1, 1, 1]⟩
def ex2 : CS := ⟨2, [1, 2], [1, 1, 1, 1], [1, 1, 2, 2]⟩
def ex3 : CS := ⟨2, [1, 2], [1, 1, 2, 1], [1, 1, 2, 2]⟩
theorem ex_join1 : joinS ex0 [1] = (0, ex1) := by
  have h : joinS ex0 [1] = (0, turned { ex0 with M := sortL [1] }) := rfl
  have h2 : turned { ex0 with M := [1] } = ex1 := by kernel_rfl
  rw [h, sortL_self (by simp), h2]
theorem ex_join2 : joinS ex1 [2] = (0, ex2) := by
  have h : joinS ex1 [2] = (0, turned { ex1 with M := sortL [1, 2] }) := rfl
  have h2 : turned { ex1 with M := [1, 2] } = ex2 := by kernel_rfl
  rw [h, sortL_self (by simp), h2]
theorem ex_pre0 : CPre ex0 := ⟨by simp [ex0], by simp [ex0], by simp [ex0], by simp [ex0], by simp [ex0], by simp [ex0], by simp [ex0], by simp [ex0]⟩
theorem ex_pre1 : CPre ex1 := ⟨by simp [ex1], by simp [ex1], by simp [ex1], by simp [ex1], by simp [ex1], by simp [ex1], by simp [ex1], by simp [ex1]⟩
theorem ex_pre2 : CPre ex2 := ⟨by simp [ex2], by simp [ex2], by simp [ex2], by simp [ex2], by simp [ex2], by simp [ex2], by simp [ex2], by simp [ex2]⟩
theorem cawake_ret {w0 w : World} {F : List Nat} {L : List Res} (hS : St w0 F w L) : Ret Try.prog 22 #[] w fun v w' => v = .bool true ∧ St w0 F w' L := by
  refine s22 ?_
  unfold m22 m22_0
  unfold m22_1
  refine callR (by kernel_rfl) (new_ret (parts := 4) (by omega) (by omega) hS) ?_
  intro v w hv
  rw [if_pos (by omega)] at hv
  obtain ⟨b, X, rfl, hS⟩ := hv
  have hS : St w0 F w (coopL 94 b ex0 X ++ L) := hS
  refine valP_ok (extract_ok _ 0 rfl _) ?_
  refine valP_ok (extract_ok _ 1 rfl _) ?_
  unfold m22_2
  refine valP_ok (ne26 _ _ _ _ _) ?_
  refine cond_df (by decide) ?_
  first | refine valP_ok (eq23n _ _ _) ?_ | refine valP_ok (eq23s _ _ _ _) ?_
  first | refine pick_dt (by first | assumption | omega) ?_ | refine pick_df (by first | assumption | omega) ?_ | refine pick_t (by first | rfl | assumption) ?_ | refine pick_f (by first | rfl | assumption) ?_ | refine pick_dt rfl ?_ | refine pick_df (not_not_intro rfl) ?_
  unfold m22_11
  refine cond_f rfl ?_
  unfold m22_3
  refine newslice_ok (bs28_1 rfl _) hS ?_
  intro b19 w hS
  have hS := hS.pick 5 [1, 2, 3, 4, 0] (by simp) (by decide)
  refine callR (by kernel_rfl) (join_ret (s := ex0) (l := [1]) (L := Res.cells b19 3 [.int .i64 1] :: L) ex_pre0 (by simp) hS (Bes.of_cells 4 rfl rfl)) ?_
  rintro v w ⟨rfl, X1, hS⟩
  rw [ex_join1] at hS
  unfold m22_4
  refine callR (by kernel_rfl) (have_clone (by simp [ex1]) hS) ?_
  rintro v w ⟨A1, c1, rfl, hS⟩
  unfold m22_5
  refine newslice_ok (bs28_1 rfl _) hS ?_
  intro b24 w hS
  have hS := hS.pick 6 [2, 3, 4, 5, 0, 1] (by simp) (by decide)
  refine callR (by kernel_rfl) (join_ret (s := ex1) (l := [2]) (L := Res.cells b24 3 [.int .i64 2] :: irow (.slice A1 4 c1) [1, 1, 1, 1] :: Res.cells b19 3 [.int .i64 1] :: L) ex_pre1 (by simp) hS (Bes.of_cells 4 rfl rfl)) ?_
  rintro v w ⟨rfl, X2, hS⟩
  rw [ex_join2] at hS
  unfold m22_6
  refine callR (by kernel_rfl) (have_clone (by simp [ex2]) hS) ?_
  rintro v w ⟨A2, c2, rfl, hS⟩
  unfold m22_7
  have hS := hS.pick 5 [1, 2, 3, 4, 0] (by simp) (by decide)
  refine callR (by kernel_rfl) (revoke_ret (s := ex2) (L := irow (.slice A2 4 c2) [1, 1, 1, 1] :: Res.cells b24 3 [.int .i64 2] :: irow (.slice A1 4 c1) [1, 1, 1, 1] :: Res.cells b19 3 [.int .i64 1] :: L) 1 ex_pre2 hS) ?_
  rintro v w ⟨A3, c3, rfl, hS⟩
  have hrev : revL ex2 1 = [2, 3] := by kernel_rfl
  rw [hrev] at hS ⊢
  refine valP_ok (extract_ok _ 0 rfl _) ?_
  refine valP_ok (extract_ok _ 1 rfl _) ?_
  unfold m22_8
  have hS := hS.pick 5 [1, 2, 3, 4, 0] (by simp) (by decide)
  refine callR (by kernel_rfl) (done_ret (s := ex2) (L := irow (.slice A3 2 c3) [2, 3] :: irow (.slice A2 4 c2) [1, 1, 1, 1] :: Res.cells b24 3 [.int .i64 2] :: irow (.slice A1 4 c1) [1, 1, 1, 1] :: Res.cells b19 3 [.int .i64 1] :: L) 1 2 ex_pre2 hS) ?_
  rintro v w ⟨rfl, X3, hS⟩
  have hdone : doneS ex2 1 2 = (0, ex3) := by kernel_rfl
  rw [hdone] at hS ⊢
  unfold m22_9
  refine newslice_ok (bs28_4 rfl rfl rfl rfl _) hS ?_
  intro b36 w hS
  refine callR (by kernel_rfl) (same_ret (a := [1, 1, 1, 1]) (b := [1, 1, 1, 1]) (by simp) hS (Bes.of_row 8 rfl) (Bes.of_cells 0 rfl rfl)) ?_
  rintro v w ⟨rfl, hS⟩
  refine cond_dt rfl ?_
  refine newslice_ok (bs28_4 rfl rfl rfl rfl _) hS ?_
  intro b40 w hS
  refine callR (by kernel_rfl) (same_ret (a := [1, 1, 1, 1]) (b := [1, 1, 1, 1]) (by simp) hS (Bes.of_row 7 rfl) (Bes.of_cells 0 rfl rfl)) ?_
  rintro v w ⟨rfl, hS⟩
  refine pick_dt rfl ?_
  refine cond_dt rfl ?_
  refine newslice_ok (bs28_2 rfl rfl _) hS ?_
  intro b45 w hS
  refine callR (by kernel_rfl) (same_ret (a := [2, 3]) (b := [2, 3]) (by simp) hS (Bes.of_row 7 rfl) (Bes.of_cells 0 rfl rfl)) ?_
  rintro v w ⟨rfl, hS⟩
  refine pick_dt rfl ?_
  refine cond_dt rfl ?_
  refine valP_ok (eq26 _ _ _ _ _) ?_
  first | refine pick_dt (by first | assumption | omega) ?_ | refine pick_df (by first | assumption | omega) ?_ | refine pick_t (by first | rfl | assumption) ?_ | refine pick_f (by first | rfl | assumption) ?_ | refine pick_dt rfl ?_ | refine pick_df (not_not_intro rfl) ?_
  refine cond_dt rfl ?_
  refine valP_ok (eq26 _ _ _ _ _) ?_
  first | refine pick_dt (by first | assumption | omega) ?_ | refine pick_df (by first | assumption | omega) ?_ | refine pick_t (by first | rfl | assumption) ?_ | refine pick_f (by first | rfl | assumption) ?_ | refine pick_dt rfl ?_ | refine pick_df (not_not_intro rfl) ?_
  refine cond_dt rfl ?_
  have hS := hS.pick 7 [3, 4, 5, 6, 0, 1, 2] (by simp) (by decide)
  refine callR (by kernel_rfl) (have_clone (s := ex3) (by simp [ex3]) (L := Res.cells b45 3 [.int .i64 2, .int .i64 3] :: Res.cells b40 3 [.int .i64 1, .int .i64 1, .int .i64 1, .int .i64 1] :: Res.cells b36 3 [.int .i64 1, .int .i64 1, .int .i64 1, .int .i64 1] :: _) hS) ?_
  rintro v w ⟨A4, c4, rfl, hS⟩
  refine newslice_ok (bs28_4 rfl rfl rfl rfl _) hS ?_
  intro b59 w hS
  refine callR (by kernel_rfl) (same_ret (a := [1, 1, 2, 1]) (b := [1, 1, 2, 1]) (by simp) hS (Bes.of_row 1 rfl) (Bes.of_cells 0 rfl rfl)) ?_
  rintro v w ⟨rfl, hS⟩
  refine pick_dt rfl ?_
  unfold m22_10
  exact ⟨rfl, hS.pick 14 [] (by simp) (by decide)⟩
structure Dd where
  k : Int
  a : Int
  p : Int
  near : Bool
  A : Option Addr
  c : Nat
  l : List Int
def encD (x : Dd) : List Value := [.int .i64 x.k, .int .i64 x.a, .int .i64 x.p, .bool x.near, .slice x.A x.l.length x.c]
theorem encD_len (x : Dd) : (encD x).length = 5 := rfl
theorem encD_one (x : Dd) : ∀ u ∈ encD x, u.oneCell' = true := by simp [encD, Value.oneCell']
structure DOk (w0 : World) (x : Dd) : Prop where
  k : -9223372036854775808 ≤ x.k ∧ x.k ≤ 9223372036854775807
  a : -9223372036854775808 ≤ x.a ∧ x.a ≤ 9223372036854775807
  p : -9223372036854775808 ≤ x.p ∧ x.p ≤ 9223372036854775807
  rd : Rd w0 1 x.A x.l.length (ints x.l)
  cap : x.l.length ≤ x.c
  nil : x.A = none → x.c = 0
  each : ∀ y ∈ x.l, -9223372036854775808 ≤ y ∧ y ≤ 9223372036854775807
def cutD (x : Dd) : Dd := { x with l := x.l.take 12 }
theorem DOk.cut {w0 : World} {x : Dd} (h : DOk w0 x) : DOk w0 (cutD x) := ⟨h.k, h.a, h.p, Rd.take_ints h.rd 12, by have := h.cap; simp [cutD]; omega, h.nil, fun y hy => h.each y (List.mem_of_mem_take hy)⟩
abbrev drow (v : Value) (l : List Dd) : Res := Res.row 30 5 v l.length (l.flatMap encD)
theorem Rd.take_flat {α : Type} {enc : α → List Value} {k : Nat} (hk : ∀ x, (enc x).length = k) {w : World} {A : Option Addr} {l : List α} (h : Rd w k A l.length (l.flatMap enc)) (n : Nat) : Rd w k A (l.take n).length ((l.take n).flatMap enc) := by
  refine ⟨flat_len enc k hk _, fun hp => ?_⟩
  have e := flat_take enc k hk l n
  have hp' : 0 < (l.flatMap enc).length := by
    rw [← e, List.length_take] at hp
    omega
  obtain ⟨g, o, hA, hc⟩ := h.2 hp'
  refine ⟨g, o, hA, fun j u hj => hc j u ?_⟩
  rw [← e, List.getElem?_take] at hj
  split at hj
  · exact hj
  · cases hj
theorem dsome_ret {w0 w : World} {L : List Res} {A : Option Addr} {c : Nat} {l : List Dd} (hl : Rd w0 5 A l.length (l.flatMap encD)) (hc : l.length ≤ c) (hok : ∀ x ∈ l, DOk w0 x) (hS : St w0 [] w L) :
    Ret Try.prog 15 #[.slice A l.length c] w fun v w' => ∃ A' c', v = .slice A' ((l.take 100).map cutD).length c' ∧ St w0 [] w' (drow (.slice A' ((l.take 100).map cutD).length c') ((l.take 100).map cutD) :: L) := by
  have main : ∀ (l : List Dd), l.length ≤ 100 → Rd w0 5 A l.length (l.flatMap encD) → (∀ x ∈ l, DOk w0 x) → ∀ R : Value → World → Prop, (∀ A' c' w', St w0 [] w' (drow (.slice A' (l.map cutD).length c') (l.map cutD) :: L) → R (.slice A' (l.map cutD).length c') w') → m15_2 R (.slice A l.length c) w := fun l hl100 hl hok R hR => by
    unfold m15_2
    have hS := hS.row_nil 30 5
    unfold m15_3
    unfold m15_6
    refine loop_in (fun u w' => ∃ (i : Nat) (A' : Option Addr) (c' : Nat), u = (.slice A' ((l.take i).map cutD).length c', .int .i64 i) ∧ i ≤ l.length ∧ St w0 [] w' (drow (.slice A' ((l.take i).map cutD).length c') ((l.take i).map cutD) :: L)) (fun u _ => l.length - (intOf u.2).toNat) ⟨0, none, 0, rfl, by omega, hS⟩ ?_
    clear hS
    rintro u w ⟨i, A1, c1, rfl, hi, hS⟩
    unfold m15_7
    refine builtin_ok (len22 _) ?_
    refine valP_ok (lss_ok _ _ _ _ _ _ _) ?_
    unfold m15_13
    refine cond_split (fun h => ?_) (fun h => ?_)
    · have hlt : i < l.length := by omega
      have hr := hl.old0 hS
      obtain ⟨g, o, rfl⟩ := hr.some_ (by omega) (by omega)
      have h0 := hr.struct encD_len hlt (j := 0) (by omega) rfl
      have h1 := hr.struct encD_len hlt (j := 1) (by omega) rfl
      have h2 := hr.struct encD_len hlt (j := 2) (by omega) rfl
      have h3 := hr.struct encD_len hlt (j := 3) (by omega) rfl
      have h4 := hr.struct encD_len hlt (j := 4) (by omega) rfl
      have hx := hok _ (List.getElem_mem hlt)
      have htk : (l.take (i + 1)).map cutD = (l.take i).map cutD ++ [cutD l[i]] := by rw [List.take_succ_eq_append_getElem hlt, List.map_append]; rfl
      have htl : ((l.take i).map cutD).length ≤ 1000 := by rw [List.length_map, List.length_take]; omega
      generalize l[i] = x at *
      have fin : ∀ (y : Dd) (b w) R (K : Value × Value → World → Prop), St w0 [] w (Res.cells b 30 (encD y) :: drow (.slice A1 ((l.take i).map cutD).length c1) ((l.take i).map cutD) :: L) → (∀ A' c' w', St w0 [] w' (drow (.slice A' ((l.take i).map cutD ++ [y]).length c') ((l.take i).map cutD ++ [y]) :: L) → K (.slice A' ((l.take i).map cutD ++ [y]).length c', .int .i64 ((i + 1 : Nat) : Int)) w') →
          m15_11 R K (.slice (some ⟨g, o, none⟩) l.length c) (.slice A1 ((l.take i).map cutD).length c1) (.int .i64 i) (.pointer (some ⟨b, 0, none⟩)) w := fun y b w R K hS hK => by
        unfold m15_11
        first | refine ls30 0 hS rfl ?_ | refine ls30 1 hS rfl ?_ | refine ls30 2 hS rfl ?_ | refine ls30 3 hS rfl ?_ | refine ls30 4 hS rfl ?_ | refine valP_ok (ld30 (by assumption) (by assumption) (by assumption) (by assumption) (by assumption)) ?_
        refine newslice_ok (bs22_1 _) hS ?_
        intro b31 w hS
        refine append_oneS (enc := encD) (x := y) 1 sl22 encD_len (encD_one y) (by omega) (by omega) hS rfl ?_
        intro A2 c2 w' hS
        simp only [List.set_cons_zero, List.set_cons_succ] at hS
        unfold m15_9
        refine valP_ok (add_ok _ _ _ (by omega) (by omega) _) ?_
        exact hK A2 c2 _ hS.tail
      unfold m15_8
      first | refine valP_ok (ixz22 (by first | assumption | omega) _) ?_ | refine valP_ok (ix22 (by first | assumption | omega) _) ?_
      first | refine ls30 0 hS rfl ?_ | refine ls30 1 hS rfl ?_ | refine ls30 2 hS rfl ?_ | refine ls30 3 hS rfl ?_ | refine ls30 4 hS rfl ?_ | refine valP_ok (ld30 (by assumption) (by assumption) (by assumption) (by assumption) (by assumption)) ?_
      refine new_ok (al30 _) hS ?_
      intro b5 w hS
      first | refine ss30 0 hS rfl rfl rfl rfl rfl rfl ?_ | refine ss30 1 hS rfl rfl rfl rfl rfl rfl ?_ | refine ss30 2 hS rfl rfl rfl rfl rfl rfl ?_ | refine ss30 3 hS rfl rfl rfl rfl rfl rfl ?_ | refine ss30 4 hS rfl rfl rfl rfl rfl rfl ?_
      intro w hS
      simp only [List.set_cons_zero, List.set_cons_succ] at hS
      unfold m15_10
      first | refine valP_ok (fa30_4 _ _) ?_ | refine valP_ok (fao30_4 _ _ _) ?_
      first | refine valP_ok (ld28 (hS.cell 0 rfl rfl)) ?_ | refine valP_ok (ld28 (hS.cell 1 rfl rfl)) ?_ | refine valP_ok (ld28 (hS.cell 2 rfl rfl)) ?_ | refine valP_ok (ld28 (hS.cell 3 rfl rfl)) ?_ | refine valP_ok (ld28 (hS.cell 4 rfl rfl)) ?_ | refine valP_ok (ld28 (by assumption)) ?_
      refine builtin_ok (len28 _) ?_
      refine valP_ok (gtr_ok _ _ _ _ _ _ _) ?_
      unfold m15_12
      refine cond_split (fun h12 => ?_) (fun h12 => ?_)
      · first | refine valP_ok (fa30_4 _ _) ?_ | refine valP_ok (fao30_4 _ _ _) ?_
        first | refine valP_ok (ld28 (hS.cell 0 rfl rfl)) ?_ | refine valP_ok (ld28 (hS.cell 1 rfl rfl)) ?_ | refine valP_ok (ld28 (hS.cell 2 rfl rfl)) ?_ | refine valP_ok (ld28 (hS.cell 3 rfl rfl)) ?_ | refine valP_ok (ld28 (hS.cell 4 rfl rfl)) ?_ | refine valP_ok (ld28 (by assumption)) ?_
        have hcap := hx.cap
        refine valP_ok (sh28 (k := 12) (by omega) _) ?_
        first | refine valP_ok (fa30_4 _ _) ?_ | refine valP_ok (fao30_4 _ _ _) ?_
        first | refine store_at 0 st28 hS rfl (by simp) rfl ?_ | refine store_at 1 st28 hS rfl (by simp) rfl ?_ | refine store_at 2 st28 hS rfl (by simp) rfl ?_ | refine store_at 3 st28 hS rfl (by simp) rfl ?_ | refine store_at 4 st28 hS rfl (by simp) rfl ?_
        intro w hS
        simp only [List.set_cons_zero, List.set_cons_succ] at hS
        have hlen : (x.l.take 12).length = 12 := by rw [List.length_take]; omega
        have hS : St w0 [] w (Res.cells b5 30 (encD (cutD x)) :: drow (.slice A1 ((l.take i).map cutD).length c1) ((l.take i).map cutD) :: L) := by
          show St w0 [] w (Res.cells b5 30 [_, _, _, _, .slice x.A (x.l.take 12).length x.c] :: _)
          rw [hlen]
          exact hS
        exact fin _ _ _ _ _ hS (fun A' c' w' hS => ⟨⟨i + 1, A', c', by rw [htk], by omega, by rw [htk]; exact hS⟩, by simp [intOf]; omega⟩)
      · have hcx : cutD x = x := by
          unfold cutD
          rw [List.take_of_length_le (by omega)]
        rw [hcx] at htk
        exact fin x _ _ _ _ hS (fun A' c' w' hS => ⟨⟨i + 1, A', c', by rw [htk], by omega, by rw [htk]; exact hS⟩, by simp [intOf]; omega⟩)
    · have hie : i = l.length := by omega
      subst hie
      rw [List.take_length] at hS ⊢
      unfold m15_4 m15_5
      exact hR A1 c1 _ hS
  refine s15 _ ?_
  unfold m15
  unfold m15_0
  unfold m15_1
  refine builtin_ok (len22 _) ?_
  refine valP_ok (gtr_ok _ _ _ _ _ _ _) ?_
  unfold m15_14
  refine cond_split (fun h => ?_) (fun h => ?_)
  · refine valP_ok (sh22 (k := 100) (by omega) _) ?_
    have hlen : (l.take 100).length = 100 := by rw [List.length_take]; omega
    have := main (l.take 100) (by omega) (Rd.take_flat encD_len hl 100) (fun x hx => hok x (List.mem_of_mem_take hx))
    rw [hlen] at this
    exact this _ (fun A' c' w' hS => ⟨A', c', rfl, hS⟩)
  · have := main l (by omega) hl hok
    rw [List.take_of_length_le (by omega)]
    exact this _ (fun A' c' w' hS => ⟨A', c', rfl, hS⟩)
def deedS (s : CS) (x : Dd) : Int × CS :=
  if x.k = 0 ∨ x.k = 1 then joinS s x.l else if x.k = 2 then leaveS s x.a else if x.k = 3 then (if x.a ∈ s.M then 0 else 11, s) else doneS s x.a x.p
theorem does_ret {w0 w : World} {L : List Res} {b : Nat} {s : CS} {X : CA} {x : Dd} (hs : CPre s) (hx : DOk w0 x) (hl : x.l.length ≤ 1000) (hS : St w0 [] w (coopL 94 b s X ++ L)) :
    Ret Try.prog 16 #[.pointer (some ⟨b, 0, none⟩), .agg (encD x).toArray] w (joinQ w0 [] L b (deedS s x)) := by
  refine s16 _ _ ?_
  unfold m16
  unfold m16_0
  refine new_ok (bx30 _ _ _ _ _ _) hS ?_
  intro b3 w hS
  have hS : St w0 [] w (coopL 94 b s X ++ Res.cells b3 30 [.int .i64 x.k, .int .i64 x.a, .int .i64 x.p, .bool x.near, .slice x.A x.l.length x.c] :: L) := hS.pick 5 [1, 2, 3, 4, 0] (by simp) (by decide)
  have back : ∀ {r : Int × CS} {v : Value} {w : World}, joinQ w0 [] (Res.cells b3 30 [.int .i64 x.k, .int .i64 x.a, .int .i64 x.p, .bool x.near, .slice x.A x.l.length x.c] :: L) b r v w → joinQ w0 [] L b r v w := fun ⟨hv, X', hS⟩ => ⟨hv, X', hS.pick 5 [0, 1, 2, 3] (by simp) (by decide)⟩
  unfold m16_1
  first | refine valP_ok (fa30_0 _ _) ?_ | refine valP_ok (fao30_0 _ _ _) ?_
  first | refine valP_ok (ld3 (hS.cell 0 rfl rfl)) ?_ | refine valP_ok (ld3 (hS.cell 1 rfl rfl)) ?_ | refine valP_ok (ld3 (hS.cell 2 rfl rfl)) ?_ | refine valP_ok (ld3 (hS.cell 3 rfl rfl)) ?_ | refine valP_ok (ld3 (hS.cell 4 rfl rfl)) ?_ | refine valP_ok (ld3 (by assumption)) ?_
  unfold m16_4
  refine valP_ok (eq3 _ _ _ _ _) ?_
  unfold deedS
  have join : ∀ t : Value, t = .bool true → (x.k = 0 ∨ x.k = 1) → m16_5 (joinQ w0 [] L b (if x.k = 0 ∨ x.k = 1 then joinS s x.l else if x.k = 2 then leaveS s x.a else if x.k = 3 then (if x.a ∈ s.M then 0 else 11, s) else doneS s x.a x.p)) (.pointer (some ⟨b, 0, none⟩)) (.pointer (some ⟨b3, 0, none⟩)) (.int .i64 x.k) t w := fun t ht hk => by
    subst ht
    rw [if_pos hk]
    unfold m16_5
    refine cond_t rfl ?_
    first | refine valP_ok (fa30_4 _ _) ?_ | refine valP_ok (fao30_4 _ _ _) ?_
    first | refine valP_ok (ld28 (hS.cell 0 rfl rfl)) ?_ | refine valP_ok (ld28 (hS.cell 1 rfl rfl)) ?_ | refine valP_ok (ld28 (hS.cell 2 rfl rfl)) ?_ | refine valP_ok (ld28 (hS.cell 3 rfl rfl)) ?_ | refine valP_ok (ld28 (hS.cell 4 rfl rfl)) ?_ | refine valP_ok (ld28 (by assumption)) ?_
    refine callR (by kernel_rfl) (join_ret hs hl hS (Bes.of_old0 hx.rd)) ?_
    intro v w hq
    unfold m16_6
    exact back hq
  unfold m16_12
  refine cond_split (fun h0 => ?_) (fun h0 => ?_)
  · rw [decide_eq_true h0]
    exact join _ rfl (.inl h0)
  refine valP_ok (eq3 _ _ _ _ _) ?_
  by_cases h1 : x.k = 1
  · exact join _ (by rw [decide_eq_true h1]) (.inr h1)
  rw [if_neg (by omega)]
  unfold m16_5
  refine cond_df h1 ?_
  refine valP_ok (eq3 _ _ _ _ _) ?_
  unfold m16_7
  refine cond_split (fun h2 => ?_) (fun h2 => ?_)
  · rw [if_pos h2]
    first | refine valP_ok (fa30_1 _ _) ?_ | refine valP_ok (fao30_1 _ _ _) ?_
    first | refine valP_ok (ld3 (hS.cell 0 rfl rfl)) ?_ | refine valP_ok (ld3 (hS.cell 1 rfl rfl)) ?_ | refine valP_ok (ld3 (hS.cell 2 rfl rfl)) ?_ | refine valP_ok (ld3 (hS.cell 3 rfl rfl)) ?_ | refine valP_ok (ld3 (hS.cell 4 rfl rfl)) ?_ | refine valP_ok (ld3 (by assumption)) ?_
    refine callR (by kernel_rfl) (leave_ret x.a hs hS) ?_
    intro v w hq
    unfold m16_8
    exact back hq
  rw [if_neg h2]
  refine valP_ok (eq3 _ _ _ _ _) ?_
  unfold m16_9
  refine cond_split (fun h3 => ?_) (fun h3 => ?_)
  · rw [if_pos h3]
    first | refine valP_ok (fa30_1 _ _) ?_ | refine valP_ok (fao30_1 _ _ _) ?_
    first | refine valP_ok (ld3 (hS.cell 0 rfl rfl)) ?_ | refine valP_ok (ld3 (hS.cell 1 rfl rfl)) ?_ | refine valP_ok (ld3 (hS.cell 2 rfl rfl)) ?_ | refine valP_ok (ld3 (hS.cell 3 rfl rfl)) ?_ | refine valP_ok (ld3 (hS.cell 4 rfl rfl)) ?_ | refine valP_ok (ld3 (by assumption)) ?_
    refine callR (by kernel_rfl) (revoke_ret x.a hs hS) ?_
    rintro v w ⟨A, c, rfl, hS⟩
    refine valP_ok (extract_ok _ 0 rfl _) ?_
    refine valP_ok (extract_ok _ 1 rfl _) ?_
    unfold m16_10 m16_11
    exact back ⟨rfl, X, hS.tail⟩
  · rw [if_neg h3]
    unfold m16_2
    first | refine valP_ok (fa30_1 _ _) ?_ | refine valP_ok (fao30_1 _ _ _) ?_
    first | refine valP_ok (ld3 (hS.cell 0 rfl rfl)) ?_ | refine valP_ok (ld3 (hS.cell 1 rfl rfl)) ?_ | refine valP_ok (ld3 (hS.cell 2 rfl rfl)) ?_ | refine valP_ok (ld3 (hS.cell 3 rfl rfl)) ?_ | refine valP_ok (ld3 (hS.cell 4 rfl rfl)) ?_ | refine valP_ok (ld3 (by assumption)) ?_
    first | refine valP_ok (fa30_2 _ _) ?_ | refine valP_ok (fao30_2 _ _ _) ?_
    first | refine valP_ok (ld3 (hS.cell 0 rfl rfl)) ?_ | refine valP_ok (ld3 (hS.cell 1 rfl rfl)) ?_ | refine valP_ok (ld3 (hS.cell 2 rfl rfl)) ?_ | refine valP_ok (ld3 (hS.cell 3 rfl rfl)) ?_ | refine valP_ok (ld3 (hS.cell 4 rfl rfl)) ?_ | refine valP_ok (ld3 (by assumption)) ?_
    refine callR (by kernel_rfl) (done_ret x.a x.p hs hS) ?_
    intro v w hq
    unfold m16_3
    exact back hq
/-- One of these, whatever the number is. -/
def oneOf (a : Int) (l : List Int) : Int := l[((a.tmod l.length + l.length) % l.length).toNat]!
def aimP (s : CS) (x : Dd) : Dd := if 0 < (revL s x.a).length then { x with p := oneOf x.p (revL s x.a) } else x
def aimD (s : CS) (x : Dd) : Dd := if x.near = false ∨ s.M.length = 0 ∨ x.k < 2 then x else aimP s { x with a := oneOf x.a s.M }
theorem oneOf_ix {a : Int} {l : List Int} (hl : 0 < l.length) : ∃ i : Nat, i < l.length ∧ (a.tmod l.length + l.length) % l.length = i ∧ 0 ≤ a.tmod l.length + l.length ∧ a.tmod l.length + l.length < 2 * l.length ∧ oneOf a l = l[i]! := by
  have h := tmod_bounds a (b := l.length) (by omega)
  have h1 := Int.emod_nonneg (a.tmod l.length + l.length) (b := l.length) (by omega)
  have h2 := Int.emod_lt_of_pos (a.tmod l.length + l.length) (b := l.length) (by omega)
  refine ⟨((a.tmod l.length + l.length) % l.length).toNat, by omega, by omega, by omega, by omega, rfl⟩
theorem oneOf_mem {a : Int} {l : List Int} (hl : 0 < l.length) : oneOf a l ∈ l := by
  obtain ⟨i, hi, _, _, _, e⟩ := oneOf_ix (a := a) hl
  rw [e, getElem!_pos l i hi]
  exact List.getElem_mem hi
theorem revN_bound {H W : List Int} {m : Int} : ∀ p, ∀ x ∈ revN H W m p, 0 ≤ x ∧ x < p
  | 0, x, hx => by simp [revN] at hx
  | p + 1, x, hx => by
    unfold revN at hx
    have ih := revN_bound (H := H) (W := W) (m := m) p x
    split at hx
    · rcases List.mem_append.1 hx with hx | hx
      · have := ih hx; omega
      · have := List.mem_singleton.1 hx; omega
    · have := ih hx; omega
theorem revL_bound {s : CS} {m : Int} : ∀ x ∈ revL s m, 0 ≤ x ∧ x < s.H.length := fun x hx => by
  unfold revL at hx
  split at hx
  · exact revN_bound _ _ hx
  · cases hx
theorem aimD_ok {w0 : World} {s : CS} {x : Dd} (hs : CPre s) (hx : DOk w0 x) : DOk w0 (aimD s x) ∧ (aimD s x).l = x.l := by
  unfold aimD
  split
  · exact ⟨hx, rfl⟩
  · rename_i h
    have h1 : DOk w0 { x with a := oneOf x.a s.M } := ⟨hx.k, hs.bM _ (oneOf_mem (by omega)), hx.p, hx.rd, hx.cap, hx.nil, hx.each⟩
    unfold aimP
    split
    · rename_i h2
      refine ⟨⟨h1.k, h1.a, ?_, h1.rd, h1.cap, h1.nil, h1.each⟩, rfl⟩
      have := revL_bound _ (oneOf_mem (a := x.p) h2)
      have := hs.parts
      simp only at *
      omega
    · exact ⟨h1, rfl⟩
theorem lenI (l : List Int) : (l.length : Int) ≤ 9223372036854775807 → (l.length : Int) = l.length := fun _ => rfl
theorem aimed_ret {w0 w : World} {L : List Res} {b : Nat} {s : CS} {X : CA} {x : Dd} (hs : CPre s) (hx : DOk w0 x) (hS : St w0 [] w (coopL 94 b s X ++ L)) :
    Ret Try.prog 17 #[.agg (encD x).toArray, .pointer (some ⟨b, 0, none⟩)] w fun v w' => v = .agg (encD (aimD s x)).toArray ∧ St w0 [] w' (coopL 94 b s X ++ L) := by
  have hM8 := hs.len
  have hpp := hs.parts
  refine s17 _ _ ?_
  unfold m17
  unfold m17_0
  refine new_ok (bx30 _ _ _ _ _ _) hS ?_
  intro b2 w hS
  refine new_ok (al30 _) hS ?_
  intro b4 w hS
  have hS : St w0 [] w (coopL 94 b s X ++ Res.cells b2 30 [.int .i64 x.k, .int .i64 x.a, .int .i64 x.p, .bool x.near, .slice x.A x.l.length x.c] :: Res.cells b4 30 [.int .i64 0, .int .i64 0, .int .i64 0, .bool false, .slice none 0 0] :: L) := hS.pick 6 [2, 3, 4, 5, 1, 0] (by simp) (by decide)
  unfold m17_1
  refine callR (by kernel_rfl) (members_clone (by omega) hS) ?_
  rintro v w ⟨A, c, rfl, hS⟩
  have hS : St w0 [] w (Res.cells b2 30 [.int .i64 x.k, .int .i64 x.a, .int .i64 x.p, .bool x.near, .slice x.A x.l.length x.c] :: Res.cells b4 30 [.int .i64 0, .int .i64 0, .int .i64 0, .bool false, .slice none 0 0] :: irow (.slice A s.M.length c) s.M :: (coopL 94 b s X ++ L)) := hS.pick 7 [5, 6, 0, 1, 2, 3, 4] (by simp) (by decide)
  have h9 : ∀ t : Bool, (t = true ↔ (x.near = false ∨ s.M.length = 0 ∨ x.k < 2)) → m17_9 (fun v w' => v = .agg (encD (aimD s x)).toArray ∧ St w0 [] w' (coopL 94 b s X ++ L)) (.pointer (some ⟨b, 0, none⟩)) (.pointer (some ⟨b2, 0, none⟩)) (.pointer (some ⟨b4, 0, none⟩)) (.slice A s.M.length c) (.bool t) w := fun t ht => by
    unfold m17_9
    refine cond_bsplit (fun h => ?_) (fun h => ?_)
    · have e : aimD s x = x := by unfold aimD; rw [if_pos (ht.1 h)]
      rw [e]
      first | refine ls30 0 hS rfl ?_ | refine ls30 1 hS rfl ?_ | refine ls30 2 hS rfl ?_ | refine ls30 3 hS rfl ?_ | refine ls30 4 hS rfl ?_ | refine valP_ok (ld30 (by assumption) (by assumption) (by assumption) (by assumption) (by assumption)) ?_
      first | refine ss30 0 hS rfl rfl rfl rfl rfl rfl ?_ | refine ss30 1 hS rfl rfl rfl rfl rfl rfl ?_ | refine ss30 2 hS rfl rfl rfl rfl rfl rfl ?_ | refine ss30 3 hS rfl rfl rfl rfl rfl rfl ?_ | refine ss30 4 hS rfl rfl rfl rfl rfl rfl ?_
      intro w hS
      simp only [List.set_cons_zero, List.set_cons_succ] at hS
      unfold m17_10
      refine valS_ok (lc30 (hS.cell 1 rfl rfl) (hS.cell 1 rfl rfl) (hS.cell 1 rfl rfl) (hS.cell 1 rfl rfl) (hS.cell 1 rfl rfl)) ?_
      exact ⟨rfl, hS.pick 7 [3, 4, 5, 6] (by simp) (by decide)⟩
    have hn : ¬ (x.near = false ∨ s.M.length = 0 ∨ x.k < 2) := fun hh => by rw [ht.2 hh] at h; cases h
    have hML : 0 < s.M.length := by omega
    have e : aimD s x = aimP s { x with a := oneOf x.a s.M } := by unfold aimD; rw [if_neg hn]
    obtain ⟨i, hi, he, h1, h2, h3⟩ := oneOf_ix (a := x.a) hML
    obtain ⟨g, rfl⟩ := hS.row_ptr 2 rfl (by omega)
    have hxa := hx.a
    have hxp := hx.p
    unfold m17_3
    first | refine valP_ok (fa30_1 _ _) ?_ | refine valP_ok (fao30_1 _ _ _) ?_
    first | refine valP_ok (ld3 (hS.cell 0 rfl rfl)) ?_ | refine valP_ok (ld3 (hS.cell 1 rfl rfl)) ?_ | refine valP_ok (ld3 (hS.cell 2 rfl rfl)) ?_ | refine valP_ok (ld3 (hS.cell 3 rfl rfl)) ?_ | refine valP_ok (ld3 (hS.cell 4 rfl rfl)) ?_ | refine valP_ok (ld3 (by assumption)) ?_
    refine builtin_ok (len28 _) ?_
    refine valP_ok (rem_any _ _ _ hxa.1 hxa.2 (by omega) (by omega) _) ?_
    refine builtin_ok (len28 _) ?_
    refine valP_ok (add_ok _ _ _ (by omega) (by omega) _) ?_
    refine builtin_ok (len28 _) ?_
    refine valP_ok (rem_ok _ _ _ h1 (by omega) (by omega) _) ?_
    rw [he]
    have hc := hS.row_cell 2 rfl (ints_get hi)
    first | refine valP_ok (ixz28 (by first | assumption | omega) _) ?_ | refine valP_ok (ix28 (by first | assumption | omega) _) ?_
    first | refine valP_ok (ld3 (hS.cell 0 rfl rfl)) ?_ | refine valP_ok (ld3 (hS.cell 1 rfl rfl)) ?_ | refine valP_ok (ld3 (hS.cell 2 rfl rfl)) ?_ | refine valP_ok (ld3 (hS.cell 3 rfl rfl)) ?_ | refine valP_ok (ld3 (hS.cell 4 rfl rfl)) ?_ | refine valP_ok (ld3 (by assumption)) ?_
    first | refine valP_ok (fa30_1 _ _) ?_ | refine valP_ok (fao30_1 _ _ _) ?_
    first | refine store_at 0 st3 hS rfl (by simp) rfl ?_ | refine store_at 1 st3 hS rfl (by simp) rfl ?_ | refine store_at 2 st3 hS rfl (by simp) rfl ?_ | refine store_at 3 st3 hS rfl (by simp) rfl ?_ | refine store_at 4 st3 hS rfl (by simp) rfl ?_
    intro w hS
    simp only [List.set_cons_zero, List.set_cons_succ] at hS
    rw [getElem!_pos s.M i hi] at h3
    rw [← h3] at hS
    rw [e]
    have ha2 : DOk w0 { x with a := oneOf x.a s.M } := ⟨hx.k, hs.bM _ (oneOf_mem (by omega)), hx.p, hx.rd, hx.cap, hx.nil, hx.each⟩
    unfold m17_4
    first | refine valP_ok (fa30_1 _ _) ?_ | refine valP_ok (fao30_1 _ _ _) ?_
    first | refine valP_ok (ld3 (hS.cell 0 rfl rfl)) ?_ | refine valP_ok (ld3 (hS.cell 1 rfl rfl)) ?_ | refine valP_ok (ld3 (hS.cell 2 rfl rfl)) ?_ | refine valP_ok (ld3 (hS.cell 3 rfl rfl)) ?_ | refine valP_ok (ld3 (hS.cell 4 rfl rfl)) ?_ | refine valP_ok (ld3 (by assumption)) ?_
    have hS : St w0 [] w (coopL 94 b s X ++ Res.cells b2 30 (encD { x with a := oneOf x.a s.M }) :: Res.cells b4 30 [.int .i64 0, .int .i64 0, .int .i64 0, .bool false, .slice none 0 0] :: irow (.slice (some ⟨g, 0, none⟩) s.M.length c) s.M :: L) := hS.pick 7 [3, 4, 5, 6, 0, 1, 2] (by simp) (by decide)
    refine callR (by kernel_rfl) (revoke_ret (oneOf x.a s.M) hs hS) ?_
    rintro v w ⟨A2, c2, rfl, hS⟩
    have hS : St w0 [] w (Res.cells b2 30 [.int .i64 x.k, .int .i64 (oneOf x.a s.M), .int .i64 x.p, .bool x.near, .slice x.A x.l.length x.c] :: Res.cells b4 30 [.int .i64 0, .int .i64 0, .int .i64 0, .bool false, .slice none 0 0] :: irow (.slice A2 (revL s (oneOf x.a s.M)).length c2) (revL s (oneOf x.a s.M)) :: irow (.slice (some ⟨g, 0, none⟩) s.M.length c) s.M :: (coopL 94 b s X ++ L)) := hS.pick 8 [5, 6, 0, 7, 1, 2, 3, 4] (by simp) (by decide)
    refine valP_ok (extract_ok _ 0 rfl _) ?_
    refine valP_ok (extract_ok _ 1 rfl _) ?_
    unfold m17_5
    refine builtin_ok (len28 _) ?_
    refine valP_ok (gtr_ok _ _ _ _ _ _ _) ?_
    unfold m17_8
    have hrl : (revL s (oneOf x.a s.M)).length ≤ 16 := by
      unfold revL
      split
      · have := revN_len s.H s.W (oneOf x.a s.M) s.H.length; omega
      · simp
    unfold aimP
    refine cond_split (fun hr => ?_) (fun hr => ?_)
    · have hr : 0 < (revL s (oneOf x.a s.M)).length := by omega
      rw [if_pos hr]
      obtain ⟨j, hj, he2, h4, h5, h6⟩ := oneOf_ix (a := x.p) hr
      obtain ⟨g2, rfl⟩ := hS.row_ptr 2 rfl hr
      first | refine valP_ok (fa30_2 _ _) ?_ | refine valP_ok (fao30_2 _ _ _) ?_
      first | refine valP_ok (ld3 (hS.cell 0 rfl rfl)) ?_ | refine valP_ok (ld3 (hS.cell 1 rfl rfl)) ?_ | refine valP_ok (ld3 (hS.cell 2 rfl rfl)) ?_ | refine valP_ok (ld3 (hS.cell 3 rfl rfl)) ?_ | refine valP_ok (ld3 (hS.cell 4 rfl rfl)) ?_ | refine valP_ok (ld3 (by assumption)) ?_
      refine builtin_ok (len28 _) ?_
      refine valP_ok (rem_any _ _ _ hxp.1 hxp.2 (by omega) (by omega) _) ?_
      refine builtin_ok (len28 _) ?_
      refine valP_ok (add_ok _ _ _ (by omega) (by omega) _) ?_
      refine builtin_ok (len28 _) ?_
      refine valP_ok (rem_ok _ _ _ h4 (by omega) (by omega) _) ?_
      rw [he2]
      have hc := hS.row_cell 2 rfl (ints_get hj)
      first | refine valP_ok (ixz28 (by first | assumption | omega) _) ?_ | refine valP_ok (ix28 (by first | assumption | omega) _) ?_
      first | refine valP_ok (ld3 (hS.cell 0 rfl rfl)) ?_ | refine valP_ok (ld3 (hS.cell 1 rfl rfl)) ?_ | refine valP_ok (ld3 (hS.cell 2 rfl rfl)) ?_ | refine valP_ok (ld3 (hS.cell 3 rfl rfl)) ?_ | refine valP_ok (ld3 (hS.cell 4 rfl rfl)) ?_ | refine valP_ok (ld3 (by assumption)) ?_
      first | refine valP_ok (fa30_2 _ _) ?_ | refine valP_ok (fao30_2 _ _ _) ?_
      first | refine store_at 0 st3 hS rfl (by simp) rfl ?_ | refine store_at 1 st3 hS rfl (by simp) rfl ?_ | refine store_at 2 st3 hS rfl (by simp) rfl ?_ | refine store_at 3 st3 hS rfl (by simp) rfl ?_ | refine store_at 4 st3 hS rfl (by simp) rfl ?_
      intro w hS
      simp only [List.set_cons_zero, List.set_cons_succ] at hS
      rw [getElem!_pos _ j hj] at h6
      rw [← h6] at hS
      unfold m17_6
      first | refine ls30 0 hS rfl ?_ | refine ls30 1 hS rfl ?_ | refine ls30 2 hS rfl ?_ | refine ls30 3 hS rfl ?_ | refine ls30 4 hS rfl ?_ | refine valP_ok (ld30 (by assumption) (by assumption) (by assumption) (by assumption) (by assumption)) ?_
      first | refine ss30 0 hS rfl rfl rfl rfl rfl rfl ?_ | refine ss30 1 hS rfl rfl rfl rfl rfl rfl ?_ | refine ss30 2 hS rfl rfl rfl rfl rfl rfl ?_ | refine ss30 3 hS rfl rfl rfl rfl rfl rfl ?_ | refine ss30 4 hS rfl rfl rfl rfl rfl rfl ?_
      intro w hS
      simp only [List.set_cons_zero, List.set_cons_succ] at hS
      unfold m17_7
      refine valS_ok (lc30 (hS.cell 1 rfl rfl) (hS.cell 1 rfl rfl) (hS.cell 1 rfl rfl) (hS.cell 1 rfl rfl) (hS.cell 1 rfl rfl)) ?_
      exact ⟨rfl, hS.pick 8 [4, 5, 6, 7] (by simp) (by decide)⟩
    · rw [if_neg (by simp only; omega)]
      unfold m17_6
      first | refine ls30 0 hS rfl ?_ | refine ls30 1 hS rfl ?_ | refine ls30 2 hS rfl ?_ | refine ls30 3 hS rfl ?_ | refine ls30 4 hS rfl ?_ | refine valP_ok (ld30 (by assumption) (by assumption) (by assumption) (by assumption) (by assumption)) ?_
      first | refine ss30 0 hS rfl rfl rfl rfl rfl rfl ?_ | refine ss30 1 hS rfl rfl rfl rfl rfl rfl ?_ | refine ss30 2 hS rfl rfl rfl rfl rfl rfl ?_ | refine ss30 3 hS rfl rfl rfl rfl rfl rfl ?_ | refine ss30 4 hS rfl rfl rfl rfl rfl rfl ?_
      intro w hS
      simp only [List.set_cons_zero, List.set_cons_succ] at hS
      unfold m17_7
      refine valS_ok (lc30 (hS.cell 1 rfl rfl) (hS.cell 1 rfl rfl) (hS.cell 1 rfl rfl) (hS.cell 1 rfl rfl) (hS.cell 1 rfl rfl)) ?_
      exact ⟨rfl, hS.pick 8 [4, 5, 6, 7] (by simp) (by decide)⟩
  unfold m17_2
  first | refine valP_ok (fa30_3 _ _) ?_ | refine valP_ok (fao30_3 _ _ _) ?_
  first | refine valP_ok (ld4 (hS.cell 0 rfl rfl)) ?_ | refine valP_ok (ld4 (hS.cell 1 rfl rfl)) ?_ | refine valP_ok (ld4 (hS.cell 2 rfl rfl)) ?_ | refine valP_ok (ld4 (hS.cell 3 rfl rfl)) ?_ | refine valP_ok (ld4 (hS.cell 4 rfl rfl)) ?_ | refine valP_ok (ld4 (by assumption)) ?_
  first | refine valP_ok (not_ok _ _) ?_ | refine valP_ok (notb_ok _ _) ?_
  refine cond_bsplit (fun h1 => ?_) (fun h1 => ?_)
  · rw [h1]
    refine pick_t rfl ?_
    refine cond_t rfl ?_
    refine pick_t rfl ?_
    exact h9 true ⟨fun _ => .inl (by simpa using h1), fun _ => rfl⟩
  · rw [h1]
    refine builtin_ok (len28 _) ?_
    refine valP_ok (eq3 _ _ _ _ _) ?_
    refine pick_f rfl ?_
    refine cond_split (fun h2 => ?_) (fun h2 => ?_)
    · refine pick_dt h2 ?_
      exact h9 true ⟨fun _ => .inr (.inl (by omega)), fun _ => rfl⟩
    · first | refine valP_ok (fa30_0 _ _) ?_ | refine valP_ok (fao30_0 _ _ _) ?_
      first | refine valP_ok (ld3 (hS.cell 0 rfl rfl)) ?_ | refine valP_ok (ld3 (hS.cell 1 rfl rfl)) ?_ | refine valP_ok (ld3 (hS.cell 2 rfl rfl)) ?_ | refine valP_ok (ld3 (hS.cell 3 rfl rfl)) ?_ | refine valP_ok (ld3 (hS.cell 4 rfl rfl)) ?_ | refine valP_ok (ld3 (by assumption)) ?_
      refine valP_ok (lss_ok _ _ _ _ _ _ _) ?_
      refine pick_df h2 ?_
      refine h9 _ ?_
      refine ⟨fun h => .inr (.inr (of_decide_eq_true h)), fun h => decide_eq_true ?_⟩
      rcases h with h | h | h
      · rw [h] at h1; cases h1
      · omega
      · exact h
structure CFull (s : CS) : Prop where
  none : s.M.length = 0 → (∀ x ∈ s.H, x = 0) ∧ ∀ x ∈ s.W, x = 0
  some : 0 < s.M.length → (∀ x ∈ s.H, x ∈ s.M) ∧ Fair s.H.length s.M s.W
structure CInv (s : CS) (k : Nat) : Prop where
  pre : CPre s
  g : s.g ≤ k
  full : CFull s
theorem turned_inv {s : CS} {k : Nat} (hs : CPre s) (hg : s.g ≤ k) (hk : k ≤ 1000000) : CInv (turned s) (k + 1) := by
  have hg0 := hs.g0
  have hwl := hs.wlen
  have hkl := keepH_len s
  have hp := hs.parts
  have hgl : (giveL (keepH s) (turnW s)).length = s.H.length := by rw [giveL_len (by omega)]; omega
  have hk0 : ∀ x ∈ keepH s, x = 0 ∨ x ∈ s.M := fun x hx => by
    obtain ⟨y, hy, rfl⟩ := List.mem_map.1 hx
    by_cases h : y ∈ s.M
    · rw [if_pos h]; exact .inr h
    · rw [if_neg h]; exact .inl rfl
  have hfair := fun h => sticky_fair (parts := s.H.length) (M := s.M) (old := giveL (keepH s) s.W) h hs.bad hs.rise (by have := hs.len; omega) hs.bM hs.pos
  have hw0 : ∀ x ∈ turnW s, (s.M.length = 0 ∧ x = 0) ∨ (0 < s.M.length ∧ x ∈ s.M) := fun x hx => by
    by_cases h : s.M.length = 0
    · unfold turnW stickyL at hx
      rw [if_pos h] at hx
      exact .inl ⟨h, List.eq_of_mem_replicate hx⟩
    · exact .inr ⟨by omega, (hfair (by omega)).inM x hx⟩
  have hin : ∀ x ∈ giveL (keepH s) (turnW s), (s.M.length = 0 ∧ x = 0) ∨ (0 < s.M.length ∧ x ∈ s.M) := fun x hx => by
    obtain ⟨i, hi, rfl⟩ := List.mem_iff_getElem.1 hx
    rw [giveL_at i hi (by omega) (by omega)]
    split
    · exact hw0 _ (List.getElem_mem _)
    · rename_i h
      rcases hk0 _ (List.getElem_mem (show i < (keepH s).length by omega)) with h2 | h2
      · exact absurd h2 h
      · exact .inr ⟨List.length_pos_of_mem h2, h2⟩
  have hb : ∀ x, ((s.M.length = 0 ∧ x = 0) ∨ (0 < s.M.length ∧ x ∈ s.M)) → 0 ≤ x ∧ x ≤ 1099511627776 := fun x h => by
    rcases h with ⟨_, h⟩ | ⟨_, h⟩
    · omega
    · have := hs.each x h; omega
  refine ⟨⟨hs.rise, hs.len, hs.each, by show 1 ≤ (giveL (keepH s) (turnW s)).length ∧ (giveL (keepH s) (turnW s)).length ≤ 16; omega, by show (turnW s).length = (giveL (keepH s) (turnW s)).length; omega, fun x hx => hb x (hin x hx), fun x hx => hb x (hw0 x hx), by show 0 ≤ s.g + 1 ∧ s.g + 1 ≤ 1000000000; omega⟩, by show s.g + 1 ≤ _; omega, ⟨fun h => ⟨fun x hx => ?_, fun x hx => ?_⟩, fun h => ⟨fun x hx => ?_, ?_⟩⟩⟩
  · rcases hin x hx with h2 | h2
    · exact h2.2
    · have h : s.M.length = 0 := h; omega
  · rcases hw0 x hx with h2 | h2
    · exact h2.2
    · have h : s.M.length = 0 := h; omega
  · rcases hin x hx with h2 | h2
    · have h : 0 < s.M.length := h; omega
    · exact h2.2
  · show Fair ((giveL (keepH s) (turnW s)).length : Int) s.M (turnW s)
    rw [hgl]
    exact hfair h
theorem CInv.up {s : CS} {k : Nat} (h : CInv s k) : CInv s (k + 1) := ⟨h.pre, by have := h.g; omega, h.full⟩
theorem join_inv {s : CS} {k : Nat} {l : List Int} (h : CInv s k) (hk : k ≤ 1000000) : CInv (joinS s l).2 (k + 1) := by
  unfold joinS
  split
  · exact h.up
  · unfold joinF
    split
    · exact h.up
    · rename_i h0
      split
      · exact h.up
      · rename_i h8
        exact turned_inv (add_pre h.pre (Decidable.not_not.1 h0) h8) h.g hk
theorem leave_inv {s : CS} {k : Nat} {m : Int} (h : CInv s k) (hk : k ≤ 1000000) : CInv (leaveS s m).2 (k + 1) := by
  unfold leaveS
  split
  · exact turned_inv (leave_pre h.pre m) h.g hk
  · exact h.up
theorem done_inv {s : CS} {k : Nat} {m p : Int} (h : CInv s k) : CInv (doneS s m p).2 (k + 1) := by
  unfold doneS
  split
  · exact h.up
  · rename_i hm
    have hm := Decidable.not_not.1 hm
    split
    · exact h.up
    · split
      · exact h.up
      · have hp := h.pre
        have hf := h.full.some (List.length_pos_of_mem hm)
        have hgl : (giveL (s.H.set p.toNat 0) s.W).length = s.H.length := by rw [giveL_len (by rw [List.length_set]; exact hp.same), List.length_set]
        have hsame := hp.same
        have hin : ∀ x ∈ giveL (s.H.set p.toNat 0) s.W, x ∈ s.M := fun x hx => by
          obtain ⟨i, hi, rfl⟩ := List.mem_iff_getElem.1 hx
          rw [giveL_at i hi (by rw [List.length_set]; omega) (by omega)]
          split
          · exact hf.2.inM _ (List.getElem_mem _)
          · rename_i h0
            rcases List.mem_or_eq_of_mem_set (List.getElem_mem (show i < (s.H.set p.toNat 0).length by rw [List.length_set]; omega)) with h2 | h2
            · exact hf.1 _ h2
            · exact absurd h2 h0
        refine ⟨⟨hp.rise, hp.len, hp.each, by show 1 ≤ (giveL (s.H.set p.toNat 0) s.W).length ∧ _; rw [hgl]; exact hp.parts, by show s.W.length = (giveL (s.H.set p.toNat 0) s.W).length; omega, fun x hx => by have := hp.each x (hin x hx); omega, hp.bW, hp.g0⟩, by show s.g ≤ _; have := h.g; omega, ⟨fun h0 => ?_, fun _ => ⟨hin, ?_⟩⟩⟩
        · have h0 : s.M.length = 0 := h0
          have := List.length_pos_of_mem hm
          omega
        · show Fair ((giveL (s.H.set p.toNat 0) s.W).length : Int) s.M s.W
          rw [hgl]
          exact hf.2
theorem deed_inv {s : CS} {k : Nat} {x : Dd} (h : CInv s k) (hk : k ≤ 1000000) : CInv (deedS s x).2 (k + 1) := by
  unfold deedS
  split
  · exact join_inv h hk
  · split
    · exact leave_inv h hk
    · split
      · exact h.up
      · exact done_inv h
theorem new_inv {n : Nat} (h : 1 ≤ n ∧ n ≤ 16) : CInv ⟨0, [], List.replicate n 0, List.replicate n 0⟩ 0 := by
  have hz : ∀ x ∈ List.replicate n (0 : Int), x = 0 := fun x hx => List.eq_of_mem_replicate hx
  refine ⟨⟨.nil, by simp, by simp, by simpa using h, by simp, fun x hx => by have := hz x hx; omega, fun x hx => by have := hz x hx; omega, by simp⟩, by simp, ⟨fun _ => ⟨hz, hz⟩, fun h => by simp at h⟩⟩
def ofN (parts : Int) : Nat := 1 + ((parts.tmod 16 + 16) % 16).toNat
theorem ofN_le (parts : Int) : 1 ≤ ofN parts ∧ ofN parts ≤ 16 := by unfold ofN; omega
theorem of_ret {w0 w : World} {F : List Nat} {L : List Res} {parts : Int} (hp : -9223372036854775808 ≤ parts) (hp' : parts ≤ 9223372036854775807) (hS : St w0 F w L) :
    Ret Try.prog 14 #[.int .i64 parts] w fun v w' => ∃ b X, v = .pointer (some ⟨b, 0, none⟩) ∧ St w0 F w' (coopL 94 b ⟨0, [], List.replicate (ofN parts) 0, List.replicate (ofN parts) 0⟩ X ++ L) := by
  have h := tmod_bounds parts (b := 16) (by omega)
  have hn := ofN_le parts
  refine s14 _ ?_
  unfold m14
  unfold m14_0
  unfold m14_1
  refine valP_ok (rem_any _ _ _ hp hp' (by omega) (by omega) _) ?_
  refine valP_ok (add_ok _ _ _ (by omega) (by omega) _) ?_
  refine valP_ok (rem_ok _ _ _ (by omega) (by omega) (by omega) _) ?_
  refine valP_ok (add_ok _ _ _ (by omega) (by omega) _) ?_
  have e : (1 : Int) + (parts.tmod 16 + 16) % 16 = (ofN parts : Int) := by unfold ofN; omega
  rw [e]
  refine callR (by kernel_rfl) (new_ret (by omega) (by omega) hS) ?_
  intro v w hv
  rw [if_pos (by omega)] at hv
  obtain ⟨b, X, rfl, hS⟩ := hv
  rw [Int.toNat_natCast] at hS
  refine valP_ok (extract_ok _ 0 rfl _) ?_
  refine valP_ok (extract_ok _ 1 rfl _) ?_
  unfold m14_2
  refine valP_ok (ne26 _ _ _ _ _) ?_
  unfold m14_5
  refine cond_df (by decide) ?_
  unfold m14_3 m14_4
  exact ⟨b, X, rfl, hS⟩
theorem tm_one {M : List Int} (h : M.Pairwise (· < ·)) {x : Int} (hx : x ∈ M) : tm M x = 1 := by
  have hn : M.Nodup := h.imp fun h e => by omega
  unfold tm
  have h1 := List.count_pos_iff.2 hx
  have h2 := List.nodup_iff_count.1 hn x
  omega
theorem cut_facts {w : World} {l : List Dd} (hok : ∀ x ∈ l, DOk w x) : ((l.take 100).map cutD).length ≤ 100 ∧ ∀ x ∈ (l.take 100).map cutD, DOk w x ∧ x.l.length ≤ 12 := by
  refine ⟨by rw [List.length_map, List.length_take]; omega, fun x hx => ?_⟩
  obtain ⟨y, hy, rfl⟩ := List.mem_map.1 hx
  exact ⟨(hok y (List.mem_of_mem_take hy)).cut, by simp [cutD]; omega⟩

end Go.Proofs.Ytjjmlopmemmobaa.M
