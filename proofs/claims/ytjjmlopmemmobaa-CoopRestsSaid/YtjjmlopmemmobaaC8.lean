/- What the document's coop comes to: its beginning, who is a member, what is given, a generation. -/
import Derived.Test.YtjjmlopmemmobaaC7
namespace Go.Proofs.Ytjjmlopmemmobaa.M
open Go.Proofs.Ytjjmlopmemmobaa.F Go.RowKit
set_option linter.unusedVariables false
set_option linter.unusedSimpArgs false
set_option maxRecDepth 100000
set_option maxHeartbeats 2000000
attribute [local irreducible] Res.cells Res.row Res.map Res.any World.cell? World.frozen? Instr.fieldAt Instr.loadAt Instr.storeAt Instr.indexAt Instr.lookup Instr.mapUpdate Instr.box Instr.build Instr.buildSlice Instr.extract Instr.alloc Instr.field Instr.index Instr.sliceAt Instr.makeSlice Instr.makeMap Instr.makeFunc binS Op.unary Sem.run
open Go.Proofs.Ytjjmlopmemmobaa.L Go.Shelf
theorem ris_ret {w0 w : World} {F : List Nat} {L : List Res} {b : Nat} {s : CS} {X : CA} (hl : s.M.length ≤ 1000) (hS : St w0 F w (coopL 55 b s X ++ L)) (m : Int) :
    Ret Try.prog 62 #[.pointer (some ⟨b, 0, none⟩), .int .i64 m] w fun v w' => v = .bool (decide (m ∈ s.M)) ∧ w' = w := by
  refine s62 _ _ ?_
  unfold m62
  unfold m62_0
  unfold m62_1
  refine nil_ok ?_
  first | refine valP_ok (fa55_1 _ _) ?_ | refine valP_ok (fao55_1 _ _ _) ?_
  first | refine valP_ok (ld28 (hS.cell 0 rfl rfl)) ?_ | refine valP_ok (ld28 (hS.cell 1 rfl rfl)) ?_ | refine valP_ok (ld28 (hS.cell 2 rfl rfl)) ?_ | refine valP_ok (ld28 (hS.cell 3 rfl rfl)) ?_ | refine valP_ok (ld28 (hS.cell 4 rfl rfl)) ?_ | refine valP_ok (ld28 (by assumption)) ?_
  refine callR (by kernel_rfl) (count_ret _ _ s.M m w (hS.row_rd 1 rfl) (by omega)) ?_
  rintro v w ⟨rfl, rfl⟩
  refine valP_ok (gtr_ok _ _ _ _ _ _ _) ?_
  unfold m62_2
  refine ⟨?_, rfl⟩
  congr 1
  by_cases h : m ∈ s.M
  · rw [decide_eq_true h, decide_eq_true]
    have := List.count_pos_iff.2 h
    unfold tm
    omega
  · rw [decide_eq_false h, decide_eq_false]
    have := List.count_eq_zero.2 h
    unfold tm
    omega
theorem given_ret {w0 w : World} {F : List Nat} {L : List Res} {b : Nat} {s : CS} {X : CA} (hl : s.H.length ≤ 1000) (hw : s.W.length = s.H.length) (hS : St w0 F w (coopL 55 b s X ++ L)) :
    Ret Try.prog 68 #[.pointer (some ⟨b, 0, none⟩)] w fun v w' => St w0 F w' (coopL 55 b { s with H := giveL s.H s.W } X ++ L) := by
  have hgl := giveL_len hw
  refine s68 _ ?_
  unfold m68
  unfold m68_0
  unfold m68_1
  refine loop_in (fun u w' => ∃ p : Nat, u = .int .i64 p ∧ p ≤ s.H.length ∧ St w0 F w' (coopL 55 b { s with H := partW s.H (giveL s.H s.W) p } X ++ L)) (fun u _ => s.H.length - (intOf u).toNat) ⟨0, rfl, by omega, by rw [partW_zero]; exact hS⟩ ?_
  clear hS
  rintro u w ⟨p, rfl, hp, hS⟩
  have hpl := partW_len hgl hp
  unfold m68_2
  refine nil_ok ?_
  first | refine valP_ok (fa55_2 _ _) ?_ | refine valP_ok (fao55_2 _ _ _) ?_
  first | refine valP_ok (ld28 (hS.cell 0 rfl rfl)) ?_ | refine valP_ok (ld28 (hS.cell 1 rfl rfl)) ?_ | refine valP_ok (ld28 (hS.cell 2 rfl rfl)) ?_ | refine valP_ok (ld28 (hS.cell 3 rfl rfl)) ?_ | refine valP_ok (ld28 (hS.cell 4 rfl rfl)) ?_ | refine valP_ok (ld28 (by assumption)) ?_
  refine builtin_ok (len28 _) ?_
  refine valP_ok (lss_ok _ _ _ _ _ _ _) ?_
  unfold m68_6
  simp only
  refine cond_split (fun h => ?_) (fun h => ?_)
  · have hlt : p < s.H.length := by omega
    have hlw : p < s.W.length := by omega
    have hpt : p < (partW s.H (giveL s.H s.W) p).length := by omega
    obtain ⟨g, hg⟩ := hS.row_ptr 2 rfl (by simp only; omega)
    obtain ⟨m, cm, hh, ch, q, cq⟩ := X
    simp only at hg
    subst hg
    obtain ⟨g2, hg2⟩ := hS.row_ptr 3 rfl (by simp only; omega)
    simp only at hg2
    subst hg2
    have hc := hS.row_cell 2 rfl (ints_get hpt)
    rw [partW_at hgl hlt] at hc
    have hga := giveL_at (H := s.H) (W := s.W) p (by omega) hlt hlw
    unfold m68_3
    refine nil_ok ?_
    first | refine valP_ok (fa55_2 _ _) ?_ | refine valP_ok (fao55_2 _ _ _) ?_
    first | refine valP_ok (ld28 (hS.cell 0 rfl rfl)) ?_ | refine valP_ok (ld28 (hS.cell 1 rfl rfl)) ?_ | refine valP_ok (ld28 (hS.cell 2 rfl rfl)) ?_ | refine valP_ok (ld28 (hS.cell 3 rfl rfl)) ?_ | refine valP_ok (ld28 (hS.cell 4 rfl rfl)) ?_ | refine valP_ok (ld28 (by assumption)) ?_
    first | refine valP_ok (ixz28 (by first | assumption | omega) _) ?_ | refine valP_ok (ix28 (by first | assumption | omega) _) ?_
    first | refine valP_ok (ld3 (hS.cell 0 rfl rfl)) ?_ | refine valP_ok (ld3 (hS.cell 1 rfl rfl)) ?_ | refine valP_ok (ld3 (hS.cell 2 rfl rfl)) ?_ | refine valP_ok (ld3 (hS.cell 3 rfl rfl)) ?_ | refine valP_ok (ld3 (hS.cell 4 rfl rfl)) ?_ | refine valP_ok (ld3 (by assumption)) ?_
    refine valP_ok (eq3 _ _ _ _ _) ?_
    unfold m68_5
    refine cond_split (fun e => ?_) (fun e => ?_)
    · refine drawn_ok hS ?_
      intro w hS
      have hc3 := hS.row_cell 3 rfl (ints_get hlw)
      refine nil_ok ?_
      first | refine valS_ok (fa55_2 _ _) ?_ | refine valS_ok (fao55_2 _ _ _) ?_
      first | refine valS_ok (ld28 (hS.cell 0 rfl rfl)) ?_ | refine valS_ok (ld28 (hS.cell 1 rfl rfl)) ?_ | refine valS_ok (ld28 (hS.cell 2 rfl rfl)) ?_ | refine valS_ok (ld28 (hS.cell 3 rfl rfl)) ?_ | refine valS_ok (ld28 (hS.cell 4 rfl rfl)) ?_ | refine valS_ok (ld28 (by assumption)) ?_
      refine nil_ok ?_
      first | refine valS_ok (fa55_3 _ _) ?_ | refine valS_ok (fao55_3 _ _ _) ?_
      first | refine valS_ok (ld28 (hS.cell 0 rfl rfl)) ?_ | refine valS_ok (ld28 (hS.cell 1 rfl rfl)) ?_ | refine valS_ok (ld28 (hS.cell 2 rfl rfl)) ?_ | refine valS_ok (ld28 (hS.cell 3 rfl rfl)) ?_ | refine valS_ok (ld28 (hS.cell 4 rfl rfl)) ?_ | refine valS_ok (ld28 (by assumption)) ?_
      first | refine valS_ok (ixz28 (by first | assumption | omega) _) ?_ | refine valS_ok (ix28 (by first | assumption | omega) _) ?_
      first | refine valS_ok (ld3 (hS.cell 0 rfl rfl)) ?_ | refine valS_ok (ld3 (hS.cell 1 rfl rfl)) ?_ | refine valS_ok (ld3 (hS.cell 2 rfl rfl)) ?_ | refine valS_ok (ld3 (hS.cell 3 rfl rfl)) ?_ | refine valS_ok (ld3 (hS.cell 4 rfl rfl)) ?_ | refine valS_ok (ld3 (by assumption)) ?_
      first | refine valS_ok (ixz28 (by first | assumption | omega) _) ?_ | refine valS_ok (ix28 (by first | assumption | omega) _) ?_
      refine set_irow 2 hS rfl hpt ?_
      intro w hS
      simp only [List.set_cons_zero, List.set_cons_succ, List.cons_append, List.nil_append] at hS
      rw [if_pos e] at hga
      unfold m68_4
      refine valP_ok (add_ok _ _ _ (by omega) (by omega) _) ?_
      refine ⟨⟨p + 1, rfl, by omega, ?_⟩, by simp [intOf]; omega⟩
      rw [partW_succ hgl hlt, hga]
      show St w0 F w ([_, _, _, _] ++ L)
      simp only [coopC, List.length_set] at hS ⊢
      exact hS
    · rw [if_neg e] at hga
      unfold m68_4
      refine valP_ok (add_ok _ _ _ (by omega) (by omega) _) ?_
      refine ⟨⟨p + 1, rfl, by omega, ?_⟩, by simp [intOf]; omega⟩
      rw [partW_same hgl hlt hga]
      exact hS
  · have hpe : p = s.H.length := by omega
    subst hpe
    rw [partW_all hgl] at hS
    exact hS
theorem begin_ret {w0 w : World} {F : List Nat} {L : List Res} {b : Nat} {s : CS} {X : CA} (hs : CPre s) (hS : St w0 F w (coopL 55 b s X ++ L)) :
    Ret Try.prog 64 #[.pointer (some ⟨b, 0, none⟩)] w fun v w' => ∃ X', St w0 F w' (coopL 55 b (turned s) X' ++ L) := by
  have hg := hs.g0
  have hp := hs.parts
  have hkl := keepH_len s
  have hsame := hs.same
  have hwl := hs.wlen
  have hlen : s.M.length ≤ 8 := hs.len
  have hgk : (giveL (keepH s) s.W).length = s.H.length := by rw [giveL_len (by omega)]; omega
  refine s64 _ ?_
  unfold m64
  unfold m64_0
  refine nil_ok ?_
  first | refine valP_ok (fa55_0 _ _) ?_ | refine valP_ok (fao55_0 _ _ _) ?_
  first | refine valP_ok (ld3 (hS.cell 0 rfl rfl)) ?_ | refine valP_ok (ld3 (hS.cell 1 rfl rfl)) ?_ | refine valP_ok (ld3 (hS.cell 2 rfl rfl)) ?_ | refine valP_ok (ld3 (hS.cell 3 rfl rfl)) ?_ | refine valP_ok (ld3 (hS.cell 4 rfl rfl)) ?_ | refine valP_ok (ld3 (by assumption)) ?_
  refine valP_ok (add_ok _ _ _ (by omega) (by omega) _) ?_
  refine nil_ok ?_
  first | refine valP_ok (fa55_0 _ _) ?_ | refine valP_ok (fao55_0 _ _ _) ?_
  first | refine store_at 0 st3 hS rfl (by simp) rfl ?_ | refine store_at 1 st3 hS rfl (by simp) rfl ?_ | refine store_at 2 st3 hS rfl (by simp) rfl ?_ | refine store_at 3 st3 hS rfl (by simp) rfl ?_ | refine store_at 4 st3 hS rfl (by simp) rfl ?_
  intro w hS
  simp only [List.set_cons_zero, List.set_cons_succ] at hS
  unfold m64_1
  have hS : St w0 F w (coopL 55 b { s with g := s.g + 1 } X ++ L) := hS
  have hS := hS.row_nil 3 1
  unfold m64_2
  unfold m64_6
  refine loop_in (fun u w' => ∃ (p : Nat) (A : Option Addr) (c : Nat), u = (.slice A ((giveL (keepH s) s.W).take p).length c, .int .i64 p) ∧ p ≤ s.H.length ∧ St w0 F w' (irow (.slice A ((giveL (keepH s) s.W).take p).length c) ((giveL (keepH s) s.W).take p) :: (coopL 55 b { s with g := s.g + 1, H := partW s.H (keepH s) p } X ++ L))) (fun u _ => s.H.length - (intOf u.2).toNat)
    ⟨0, none, 0, rfl, by omega, by rw [partW_zero]; exact hS⟩ ?_
  clear hS
  rintro u w ⟨p, A, c, rfl, hpp, hS⟩
  have hpl := partW_len hkl hpp
  unfold m64_7
  refine nil_ok ?_
  first | refine valP_ok (fa55_2 _ _) ?_ | refine valP_ok (fao55_2 _ _ _) ?_
  first | refine valP_ok (ld28 (hS.cell 0 rfl rfl)) ?_ | refine valP_ok (ld28 (hS.cell 1 rfl rfl)) ?_ | refine valP_ok (ld28 (hS.cell 2 rfl rfl)) ?_ | refine valP_ok (ld28 (hS.cell 3 rfl rfl)) ?_ | refine valP_ok (ld28 (hS.cell 4 rfl rfl)) ?_ | refine valP_ok (ld28 (by assumption)) ?_
  refine builtin_ok (len28 _) ?_
  refine valP_ok (lss_ok _ _ _ _ _ _ _) ?_
  unfold m64_13
  simp only
  refine cond_split (fun h => ?_) (fun h => ?_)
  · have hlt : p < s.H.length := by omega
    have hlw : p < s.W.length := by omega
    have hpt : p < (partW s.H (keepH s) p).length := by omega
    have hpg : p < (giveL (keepH s) s.W).length := by omega
    have hpk : p < (keepH s).length := by omega
    obtain ⟨g, hg2⟩ := hS.row_ptr 3 rfl (by simp only; omega)
    obtain ⟨m, cm, hh, ch, q, cq⟩ := X
    simp only at hg2
    subst hg2
    obtain ⟨g3, hg3⟩ := hS.row_ptr 4 rfl (by simp only; omega)
    simp only at hg3
    subst hg3
    have hc := hS.row_cell 3 rfl (ints_get hpt)
    rw [partW_at hkl hlt] at hc
    have hka := keepH_at s p hpk hlt
    have hga := giveL_at (H := keepH s) (W := s.W) p hpg hpk hlw
    have hps := partW_succ hkl hlt
    have hpq := fun e => partW_same hkl hlt e
    have hb := hs.bH _ (List.getElem_mem hlt)
    have htk : (giveL (keepH s) s.W).take (p + 1) = (giveL (keepH s) s.W).take p ++ [(giveL (keepH s) s.W)[p]] := List.take_succ_eq_append_getElem hpg
    have htl : ((giveL (keepH s) s.W).take p).length ≤ 1000 := by rw [List.length_take]; omega
    have fin : ∀ w R (K : Value × Value → World → Prop), St w0 F w (irow (.slice A ((giveL (keepH s) s.W).take p).length c) ((giveL (keepH s) s.W).take p) :: (coopL 55 b { s with g := s.g + 1, H := partW s.H (keepH s) (p + 1) } ⟨m, cm, some ⟨g, 0, none⟩, ch, some ⟨g3, 0, none⟩, cq⟩ ++ L)) →
        (∀ A' c' w', St w0 F w' (irow (.slice A' ((giveL (keepH s) s.W).take (p + 1)).length c') ((giveL (keepH s) s.W).take (p + 1)) :: (coopL 55 b { s with g := s.g + 1, H := partW s.H (keepH s) (p + 1) } ⟨m, cm, some ⟨g, 0, none⟩, ch, some ⟨g3, 0, none⟩, cq⟩ ++ L)) → K (.slice A' ((giveL (keepH s) s.W).take (p + 1)).length c', .int .i64 ((p + 1 : Nat) : Int)) w') →
        m64_10 R K (.pointer (some ⟨b, 0, none⟩)) (.slice A ((giveL (keepH s) s.W).take p).length c) (.int .i64 p) w := fun w R K hS hK => by
      have hpt1 : p < (partW s.H (keepH s) (p + 1)).length := by rw [partW_len hkl (by omega)]; omega
      have hat : (partW s.H (keepH s) (p + 1))[p] = (keepH s)[p] := by simp only [hps]; rw [List.getElem_set_self]
      have hc := hS.row_cell 3 rfl (ints_get hpt1)
      rw [hat] at hc
      have hc4 := hS.row_cell 4 rfl (ints_get hlw)
      rw [htk] at hK
      unfold m64_10
      refine nil_ok ?_
      first | refine valP_ok (fa55_2 _ _) ?_ | refine valP_ok (fao55_2 _ _ _) ?_
      first | refine valP_ok (ld28 (hS.cell 0 rfl rfl)) ?_ | refine valP_ok (ld28 (hS.cell 1 rfl rfl)) ?_ | refine valP_ok (ld28 (hS.cell 2 rfl rfl)) ?_ | refine valP_ok (ld28 (hS.cell 3 rfl rfl)) ?_ | refine valP_ok (ld28 (hS.cell 4 rfl rfl)) ?_ | refine valP_ok (ld28 (by assumption)) ?_
      first | refine valP_ok (ixz28 (by first | assumption | omega) _) ?_ | refine valP_ok (ix28 (by first | assumption | omega) _) ?_
      first | refine valP_ok (ld3 (hS.cell 0 rfl rfl)) ?_ | refine valP_ok (ld3 (hS.cell 1 rfl rfl)) ?_ | refine valP_ok (ld3 (hS.cell 2 rfl rfl)) ?_ | refine valP_ok (ld3 (hS.cell 3 rfl rfl)) ?_ | refine valP_ok (ld3 (hS.cell 4 rfl rfl)) ?_ | refine valP_ok (ld3 (by assumption)) ?_
      refine valP_ok (gtr_ok _ _ _ _ _ _ _) ?_
      unfold m64_11
      refine cond_split (fun e => ?_) (fun e => ?_)
      · rw [hga, if_neg (by omega)] at hK
        refine nil_ok ?_
        first | refine valP_ok (fa55_2 _ _) ?_ | refine valP_ok (fao55_2 _ _ _) ?_
        first | refine valP_ok (ld28 (hS.cell 0 rfl rfl)) ?_ | refine valP_ok (ld28 (hS.cell 1 rfl rfl)) ?_ | refine valP_ok (ld28 (hS.cell 2 rfl rfl)) ?_ | refine valP_ok (ld28 (hS.cell 3 rfl rfl)) ?_ | refine valP_ok (ld28 (hS.cell 4 rfl rfl)) ?_ | refine valP_ok (ld28 (by assumption)) ?_
        first | refine valP_ok (ixz28 (by first | assumption | omega) _) ?_ | refine valP_ok (ix28 (by first | assumption | omega) _) ?_
        first | refine valP_ok (ld3 (hS.cell 0 rfl rfl)) ?_ | refine valP_ok (ld3 (hS.cell 1 rfl rfl)) ?_ | refine valP_ok (ld3 (hS.cell 2 rfl rfl)) ?_ | refine valP_ok (ld3 (hS.cell 3 rfl rfl)) ?_ | refine valP_ok (ld3 (hS.cell 4 rfl rfl)) ?_ | refine valP_ok (ld3 (by assumption)) ?_
        refine newslice_ok (bs28_1 rfl _) hS ?_
        intro b55 w hS
        refine append_one 0 (by omega) hS rfl ?_
        intro A2 c2 w' hS
        simp only [List.set_cons_zero] at hS
        unfold m64_9
        refine valP_ok (add_ok _ _ _ (by omega) (by omega) _) ?_
        exact hK A2 c2 _ hS
      · have hk0 : (keepH s)[p] = 0 := by
          rw [hka] at e ⊢
          split at e <;> rename_i hm
          · rw [if_pos hm]; omega
          · rw [if_neg hm]
        rw [hga, if_pos hk0] at hK
        refine nil_ok ?_
        first | refine valP_ok (fa55_3 _ _) ?_ | refine valP_ok (fao55_3 _ _ _) ?_
        first | refine valP_ok (ld28 (hS.cell 0 rfl rfl)) ?_ | refine valP_ok (ld28 (hS.cell 1 rfl rfl)) ?_ | refine valP_ok (ld28 (hS.cell 2 rfl rfl)) ?_ | refine valP_ok (ld28 (hS.cell 3 rfl rfl)) ?_ | refine valP_ok (ld28 (hS.cell 4 rfl rfl)) ?_ | refine valP_ok (ld28 (by assumption)) ?_
        first | refine valP_ok (ixz28 (by first | assumption | omega) _) ?_ | refine valP_ok (ix28 (by first | assumption | omega) _) ?_
        first | refine valP_ok (ld3 (hS.cell 0 rfl rfl)) ?_ | refine valP_ok (ld3 (hS.cell 1 rfl rfl)) ?_ | refine valP_ok (ld3 (hS.cell 2 rfl rfl)) ?_ | refine valP_ok (ld3 (hS.cell 3 rfl rfl)) ?_ | refine valP_ok (ld3 (hS.cell 4 rfl rfl)) ?_ | refine valP_ok (ld3 (by assumption)) ?_
        refine newslice_ok (bs28_1 rfl _) hS ?_
        intro b65 w hS
        refine append_one 0 (by omega) hS rfl ?_
        intro A2 c2 w' hS
        simp only [List.set_cons_zero] at hS
        unfold m64_9
        refine valP_ok (add_ok _ _ _ (by omega) (by omega) _) ?_
        exact hK A2 c2 _ hS
    unfold m64_8
    refine nil_ok ?_
    first | refine valP_ok (fa55_2 _ _) ?_ | refine valP_ok (fao55_2 _ _ _) ?_
    first | refine valP_ok (ld28 (hS.cell 0 rfl rfl)) ?_ | refine valP_ok (ld28 (hS.cell 1 rfl rfl)) ?_ | refine valP_ok (ld28 (hS.cell 2 rfl rfl)) ?_ | refine valP_ok (ld28 (hS.cell 3 rfl rfl)) ?_ | refine valP_ok (ld28 (hS.cell 4 rfl rfl)) ?_ | refine valP_ok (ld28 (by assumption)) ?_
    first | refine valP_ok (ixz28 (by first | assumption | omega) _) ?_ | refine valP_ok (ix28 (by first | assumption | omega) _) ?_
    first | refine valP_ok (ld3 (hS.cell 0 rfl rfl)) ?_ | refine valP_ok (ld3 (hS.cell 1 rfl rfl)) ?_ | refine valP_ok (ld3 (hS.cell 2 rfl rfl)) ?_ | refine valP_ok (ld3 (hS.cell 3 rfl rfl)) ?_ | refine valP_ok (ld3 (hS.cell 4 rfl rfl)) ?_ | refine valP_ok (ld3 (by assumption)) ?_
    refine callR (by kernel_rfl) (ris_ret (by simp only; omega) (hS.pick 5 [1, 2, 3, 4, 0] (by simp) (by decide)) _) ?_
    rintro v w ⟨rfl, rfl⟩
    first | refine valP_ok (not_ok _ _) ?_ | refine valP_ok (notb_ok _ _) ?_
    unfold m64_12
    simp only
    refine cond_split (fun e => ?_) (fun e => ?_)
    · rw [if_neg e] at hka
      refine nil_ok ?_
      first | refine valP_ok (fa55_2 _ _) ?_ | refine valP_ok (fao55_2 _ _ _) ?_
      first | refine valP_ok (ld28 (hS.cell 0 rfl rfl)) ?_ | refine valP_ok (ld28 (hS.cell 1 rfl rfl)) ?_ | refine valP_ok (ld28 (hS.cell 2 rfl rfl)) ?_ | refine valP_ok (ld28 (hS.cell 3 rfl rfl)) ?_ | refine valP_ok (ld28 (hS.cell 4 rfl rfl)) ?_ | refine valP_ok (ld28 (by assumption)) ?_
      first | refine valP_ok (ixz28 (by first | assumption | omega) _) ?_ | refine valP_ok (ix28 (by first | assumption | omega) _) ?_
      refine set_irow 3 hS rfl hpt ?_
      intro w hS
      simp only [List.set_cons_zero, List.set_cons_succ, List.cons_append, List.nil_append] at hS
      refine fin _ _ _ ?_ (fun A' c' w' hS => ⟨⟨p + 1, A', c', rfl, by omega, hS⟩, by simp [intOf]; omega⟩)
      rw [hps, hka]
      show St w0 F w (irow _ _ :: ([_, _, _, _] ++ L))
      simp only [coopC, List.length_set] at hS ⊢
      exact hS
    · rw [if_pos (Decidable.not_not.1 e)] at hka
      refine fin _ _ _ ?_ (fun A' c' w' hS => ⟨⟨p + 1, A', c', rfl, by omega, hS⟩, by simp [intOf]; omega⟩)
      rw [hpq hka]
      exact hS
  have hpe : p = s.H.length := by omega
  have htk : (giveL (keepH s) s.W).take p = giveL (keepH s) s.W := by rw [List.take_of_length_le (by omega)]
  rw [htk, hpe, partW_all hkl] at hS
  rw [htk]
  clear hpl h hpp htk hpe p
  unfold m64_3
  refine drawn_ok hS ?_
  intro w hS
  refine held_St [coopC 55 b { s with g := s.g + 1, H := keepH s } X] hS (by simp) ?_
  refine nil_ok ?_
  first | refine valJ_ok (fa55_2 _) ?_ | refine valJ_ok (fao55_2 _ _) ?_
  first | refine valJ_load ld28 (AllH.cell 0 rfl rfl) ?_ | refine valJ_load ld28 (AllH.cell 1 rfl rfl) ?_ | refine valJ_load ld28 (AllH.cell 2 rfl rfl) ?_ | refine valJ_load ld28 (AllH.cell 3 rfl rfl) ?_ | refine valJ_load ld28 (AllH.cell 4 rfl rfl) ?_ | refine valJ_load ld28 (by assumption) ?_
  refine builtinJ_ok (len28) ?_
  refine nil_ok ?_
  first | refine valJ_ok (fa55_1 _) ?_ | refine valJ_ok (fao55_1 _ _) ?_
  first | refine valJ_load ld28 (AllH.cell 0 rfl rfl) ?_ | refine valJ_load ld28 (AllH.cell 1 rfl rfl) ?_ | refine valJ_load ld28 (AllH.cell 2 rfl rfl) ?_ | refine valJ_load ld28 (AllH.cell 3 rfl rfl) ?_ | refine valJ_load ld28 (AllH.cell 4 rfl rfl) ?_ | refine valJ_load ld28 (by assumption) ?_
  refine callR (by kernel_rfl) (rsticky_ret hS (Bes.of_row 2 rfl) (Bes.of_row 0 rfl) (by simp only; omega) hs.bM) ?_
  intro v w hv
  have hbad : ¬ badParts ((keepH s).length : Int) := by rw [hkl]; exact hs.bad
  rw [if_neg hbad, hs.mem] at hv
  have eW : stickyL ((keepH s).length : Int) s.M (giveL (keepH s) s.W) = turnW s := by rw [hkl]; rfl
  rw [eW] at hv
  obtain ⟨A2, c2, rfl, hS⟩ := hv
  refine stay_St hS (by simp) ?_
  refine valJ_ok (extract_ok _ 0 rfl) ?_
  refine valJ_ok (extract_ok _ 1 rfl) ?_
  unfold m64_4
  refine nil_ok ?_
  first | refine valP_ok (fa55_3 _ _) ?_ | refine valP_ok (fao55_3 _ _ _) ?_
  first | refine store_at 0 st28 hS rfl (by simp) rfl ?_ | refine store_at 1 st28 hS rfl (by simp) rfl ?_ | refine store_at 2 st28 hS rfl (by simp) rfl ?_ | refine store_at 3 st28 hS rfl (by simp) rfl ?_ | refine store_at 4 st28 hS rfl (by simp) rfl ?_
  intro w hS
  simp only [List.set_cons_zero, List.set_cons_succ] at hS
  have hS : St w0 F w (coopL 55 b ⟨s.g + 1, s.M, keepH s, turnW s⟩ ⟨X.m, X.cm, X.h, X.ch, A2, c2⟩ ++ L) := hS.pick 6 [2, 3, 4, 0] (by simp) (by decide)
  unfold m64_5
  refine callR (by kernel_rfl) (given_ret (by simp only; omega) (by simp only; omega) hS) ?_
  intro v w hS
  exact ⟨_, hS⟩

end Go.Proofs.Ytjjmlopmemmobaa.M
