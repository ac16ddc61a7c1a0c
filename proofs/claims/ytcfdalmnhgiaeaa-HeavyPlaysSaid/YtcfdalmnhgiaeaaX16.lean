/- What is told is the document's. -/
import Derived.Test.YtcfdalmnhgiaeaaX15
namespace Go.Proofs.Ytcfdalmnhgiaeaa.M
open Go.Proofs.Ytcfdalmnhgiaeaa.F Go.RowKit
set_option linter.unusedVariables false
set_option linter.unusedSimpArgs false
set_option maxRecDepth 100000
set_option maxHeartbeats 2000000
attribute [local irreducible] Res.cells Res.row Res.map Res.any World.cell? World.frozen? Instr.fieldAt Instr.loadAt Instr.storeAt Instr.indexAt Instr.lookup Instr.mapUpdate Instr.box Instr.build Instr.buildSlice Instr.extract Instr.alloc Instr.field Instr.index Instr.sliceAt Instr.makeSlice Instr.makeMap Instr.makeFunc binS Op.unary Sem.run
theorem Rd.drop_ints {w : World} {A : Option Addr} {c : Nat} {l : List Int} (h : Rd w 1 A l.length (ints l)) {k : Nat} (hk : k ≤ l.length) (hc : l.length ≤ c) : Rd w 1 (if c = k then A else A.map (·.add k)) (l.drop k).length (ints (l.drop k)) := by
  refine ⟨by simp, fun hp => ?_⟩
  have hp' : 0 < l.length - k := by simpa using hp
  obtain ⟨g, o, hA, hcell⟩ := h.2 (by simp; omega)
  subst hA
  rw [if_neg (by omega)]
  refine ⟨g, o + k, by simp [add_none], fun j u hj => ?_⟩
  rw [Nat.add_assoc]
  refine hcell _ _ ?_
  have e : ints (l.drop k) = (ints l).drop k := by simp [ints, List.map_drop]
  rw [e, List.getElem?_drop] at hj
  exact hj
theorem perm5 (a b c d e : Res) (L : List Res) : (a :: b :: c :: d :: e :: L).Perm (d :: e :: b :: c :: a :: L) := by
  have h1 : (a :: b :: c :: d :: e :: L).Perm (b :: c :: a :: d :: e :: L) := perm3 a b c _
  have h2 : (a :: d :: e :: L).Perm (d :: e :: a :: L) := perm3 a d e L
  have h3 : (b :: c :: a :: d :: e :: L).Perm (b :: c :: d :: e :: a :: L) := (h2.cons c).cons b
  exact (h1.trans h3).trans (perm4 b c d e _)
theorem perm5b (d e b c a : Res) (L : List Res) : (d :: e :: b :: c :: a :: L).Perm (b :: c :: d :: e :: a :: L) := perm4 d e b c _
theorem addk_ret {w0 w : World} {F : List Nat} {L : List Res} {b : Nat} {most n : Int} {A Ak : Option Addr} {c ck k : Nat} {l : List Ta} {keys : List Int} (hlen : keys.length = k) (hS : St w0 F w (hcl b most n (.slice A l.length c) :: hrow (.slice A l.length c) l :: L))
    (hok : HOk most n l) (hk : Bes w0 F L 1 Ak keys.length (ints keys)) (hkl : k ≤ 1000000) (hle : n + k ≤ 1099511627776) :
    Ret Try.prog 13 #[.pointer (some ⟨b, 0, none⟩), .slice Ak k ck] w fun v w' =>
      v = .int .i64 0 ∧ ∃ A' c', St w0 F w' (hcl b most (n + k) (.slice A' (addAll most l keys).length c') :: hrow (.slice A' (addAll most l keys).length c') (addAll most l keys) :: L) := by
  subst hlen
  refine (add_ret hS hok hk hkl).mono fun v w' h => ?_
  rw [if_neg (by omega)] at h
  exact h
theorem raddk_ret {w0 w : World} {F : List Nat} {L : List Res} {b : Nat} {most n : Int} {A Ak : Option Addr} {c ck k : Nat} {l : List Ta} {keys : List Int} (hlen : keys.length = k) (hS : St w0 F w (rcl b most n (.slice A l.length c) :: hrow (.slice A l.length c) l :: L))
    (hok : HOk most n l) (hk : Bes w0 F L 1 Ak keys.length (ints keys)) (hkl : k ≤ 1000000) (hle : n + k ≤ 1099511627776) :
    Ret Try.prog 14 #[.pointer (some ⟨b, 0, none⟩), .slice Ak k ck] w fun v w' =>
      v = .int .i64 0 ∧ ∃ A' c', St w0 F w' (rcl b most (n + k) (.slice A' (addAll most l keys).length c') :: hrow (.slice A' (addAll most l keys).length c') (addAll most l keys) :: L) := by
  subst hlen
  refine (radd_ret hS hok hk hkl).mono fun v w' h => ?_
  rw [if_neg (by omega)] at h
  exact h
theorem plays_ret {w : World} {A : Option Addr} {c : Nat} {l : List Int} (most key m : Int) (hc : l.length ≤ c) (hr : Rd w 1 A l.length (ints l)) :
    Ret Try.prog 3 #[.int .i64 most, .slice A l.length c, .int .i64 key, .int .i64 m] w fun v w' => v = .bool true ∧ Below w.heap.size w w' := by
  refine s3 _ _ _ _ ?_
  unfold m3 m3_0
  unfold m3_1
  refine callR (by kernel_rfl) (some_ret A c l w hc) ?_
  rintro v w ⟨rfl, rfl⟩
  have hS := St.start w
  have hr := Rd.take_ints hr 400
  have hlc : (l.take 400).length ≤ c := by rw [List.length_take]; omega
  have hl : (l.take 400).length ≤ 400 := by rw [List.length_take]; omega
  generalize l.take 400 = l at hr hl hlc ⊢
  unfold m3_2
  refine callR (by kernel_rfl) (new_ret (most := most) hS) ?_
  intro v w1 hv
  by_cases hbad : most < 1 ∨ 64 < most
  · rw [if_pos hbad] at hv
    obtain ⟨rfl, hS⟩ := hv
    refine valP_ok (extract_ok _ 0 rfl _) ?_
    refine valP_ok (extract_ok _ 1 rfl _) ?_
    unfold m3_3
    refine callR (by kernel_rfl) (rnew_ret most hS) ?_
    rintro v w2 ⟨rfl, hS⟩
    rw [if_pos hbad]
    refine valP_ok (extract_ok _ 0 rfl _) ?_
    refine valP_ok (extract_ok _ 1 rfl _) ?_
    refine new_ok (al30 _) hS ?_
    intro b11 w hS
    first | refine ss30 0 hS rfl rfl rfl rfl ?_ | refine ss30 1 hS rfl rfl rfl rfl ?_ | refine ss30 2 hS rfl rfl rfl rfl ?_ | refine ss30 3 hS rfl rfl rfl rfl ?_ | refine ss30 4 hS rfl rfl rfl rfl ?_
    intro w hS
    simp only [List.set_cons_zero, List.set_cons_succ] at hS
    unfold m3_4
    refine valP_ok (ne3 _ _ _ _ _) ?_
    refine cond_df (by simp) ?_
    first | refine valP_ok (eq24n _ _ _) ?_ | refine valP_ok (eq24s _ _ _ _) ?_
    refine valP_ok (ne3 _ _ _ _ _) ?_
    refine valP_ok (ne4 _ _ _ _ _) ?_
    refine pick_df (by simp) ?_
    unfold m3_16
    refine cond_df (by simp) ?_
    unfold m3_5
    first | refine valP_ok (eq24n _ _ _) ?_ | refine valP_ok (eq24s _ _ _ _) ?_
    unfold m3_14
    refine cond_t rfl ?_
    refine callR (by kernel_rfl) (awake_ret hS) ?_
    rintro v w6 ⟨rfl, hS⟩
    unfold m3_15
    exact ⟨rfl, hS.below⟩
  · rw [if_neg hbad] at hv
    obtain ⟨b, rfl, hS⟩ := hv
    refine valP_ok (extract_ok _ 0 rfl _) ?_
    refine valP_ok (extract_ok _ 1 rfl _) ?_
    unfold m3_3
    refine callR (by kernel_rfl) (rnew_ret most hS) ?_
    rintro v w2 ⟨rfl, hS⟩
    rw [if_neg hbad]
    refine valP_ok (extract_ok _ 0 rfl _) ?_
    refine valP_ok (extract_ok _ 1 rfl _) ?_
    refine new_ok (al30 _) hS ?_
    intro b11 w hS
    first | refine ss30 0 hS rfl rfl rfl rfl ?_ | refine ss30 1 hS rfl rfl rfl rfl ?_ | refine ss30 2 hS rfl rfl rfl rfl ?_ | refine ss30 3 hS rfl rfl rfl rfl ?_ | refine ss30 4 hS rfl rfl rfl rfl ?_
    intro w hS
    simp only [List.set_cons_zero, List.set_cons_succ] at hS
    unfold m3_4
    refine valP_ok (ne3 _ _ _ _ _) ?_
    refine cond_df (by simp) ?_
    first | refine valP_ok (eq24n _ _ _) ?_ | refine valP_ok (eq24s _ _ _ _) ?_
    refine valP_ok (ne3 _ _ _ _ _) ?_
    refine valP_ok (ne4 _ _ _ _ _) ?_
    refine pick_df (by simp) ?_
    unfold m3_16
    refine cond_df (by simp) ?_
    unfold m3_5
    first | refine valP_ok (eq24n _ _ _) ?_ | refine valP_ok (eq24s _ _ _ _) ?_
    unfold m3_14
    refine cond_f rfl ?_
    unfold m3_6
    refine builtin_ok (len22 _) ?_
    refine valP_ok (quo_ok _ _ _ (by omega) (by omega) (by omega) _) ?_
    have hS := ((hS.row_nil 45 3).perm (perm4 _ _ _ _ _)).perm (((List.Perm.swap _ _ _).cons _).cons _)
    have e1 : (l.length : Int) / 2 = ((l.length / 2 : Nat) : Int) := by omega
    rw [e1]
    have hh : l.length / 2 ≤ l.length := by omega
    have len1 : (l.take (l.length / 2)).length = l.length / 2 := by rw [List.length_take]; omega
    have len2 : (l.drop (l.length / 2)).length = l.length - l.length / 2 := by rw [List.length_drop]
    have r1 := Rd.take_ints hr (l.length / 2)
    have r2 := Rd.drop_ints hr hh hlc
    have eapp : l.take (l.length / 2) ++ l.drop (l.length / 2) = l := List.take_append_drop _ _
    have hok0 := HOk.start (most := most) (by omega) (by omega)
    have hok1 := hok0.all (l.take (l.length / 2)) (by omega)
    have hok2 := hok1.all (l.drop (l.length / 2)) (by omega)
    unfold m3_7
    refine drawn_ok hS ?_
    intro w hS
    refine pureP_ok (sh22 (by omega)) ?_
    refine pureP_ok (sh22 (by omega)) ?_
    refine callR (by kernel_rfl) (addk_ret (l := []) len1 hS hok0 (Bes.of_old0 r1) (by omega) (by omega)) ?_
    rintro v w3 ⟨rfl, A1, c1, hS⟩
    have hS := hS.perm (perm4 _ _ _ _ _)
    refine callR (by kernel_rfl) (raddk_ret (l := []) len1 hS hok0 (Bes.of_old0 r1) (by omega) (by omega)) ?_
    rintro v w4 ⟨rfl, A2, c2, hS⟩
    refine pureP_ok (ne3 _ _ _ _) ?_
    refine cond_df (by simp) ?_
    refine pureP_ok (so22 hh hlc) ?_
    refine pureP_ok (so22 hh hlc) ?_
    rw [len1] at hok1 hok2
    have hS := hS.perm (perm4 _ _ _ _ _)
    refine callR (by kernel_rfl) (addk_ret len2 hS hok1 (Bes.of_old0 r2) (by omega) (by omega)) ?_
    rintro v w5 ⟨rfl, A3, c3, hS⟩
    have hS := hS.perm (perm4 _ _ _ _ _)
    refine callR (by kernel_rfl) (raddk_ret len2 hS hok1 (Bes.of_old0 r2) (by omega) (by omega)) ?_
    rintro v w6 ⟨rfl, A4, c4, hS⟩
    refine pureP_ok (ne3 _ _ _ _) ?_
    refine pick_df (by simp) ?_
    unfold m3_12
    refine cond_df (by simp) ?_
    rw [len2] at hok2
    have hS := hS.perm (perm4 _ _ _ _ _)
    generalize addAll most (addAll most [] (l.take (l.length / 2))) (l.drop (l.length / 2)) = T at hS hok2
    generalize 0 + ((l.length / 2 : Nat) : Int) + ((l.length - l.length / 2 : Nat) : Int) = n at hS hok2
    have hok := hok2
    have hTl : (topL T).length ≤ 64 := by have := hok.len; rw [(topL_perm _).length_eq]; omega
    unfold m3_8
    refine callR (by kernel_rfl) (count_ret hok hS) ?_
    rintro v w7 ⟨rfl, hS⟩
    refine valP_ok (extract_ok _ 0 rfl _) ?_
    refine valP_ok (extract_ok _ 1 rfl _) ?_
    unfold m3_9
    have hS := hS.perm (perm4 _ _ _ _ _)
    refine callR (by kernel_rfl) (rcount_ret hok hS) ?_
    rintro v w8 ⟨rfl, hS⟩
    refine valP_ok (extract_ok _ 0 rfl _) ?_
    refine valP_ok (extract_ok _ 1 rfl _) ?_
    have hS := hS.perm (perm4 _ _ _ _ _)
    unfold m3_10
    refine drawn_ok hS ?_
    intro w hS
    refine pureP_ok (eq3 _ _ _ _) ?_
    refine cond_dt rfl ?_
    refine pureP_ok (eq3 _ _ _ _) ?_
    refine pick_dt rfl ?_
    refine cond_dt rfl ?_
    first | refine pureP_ok (fa30_1 _) ?_ | refine pureP_ok (fao30_1 _ _) ?_
    refine ⟨?_, ?_⟩
    · refine callR (by kernel_rfl) (seen_ret hS) ?_
      rintro v w ⟨rfl, rfl⟩
      refine valP_ok (ld3 (hS.cell 2 rfl rfl)) ?_
      refine pureP_ok (eq3 _ _ _ _) ?_
      refine pick_dt rfl ?_
      refine cond_dt rfl ?_
      refine callR (by kernel_rfl) (top_ret m hok hS) ?_
      rintro v w ⟨A4, c4, rfl, hS⟩
      refine callR (by kernel_rfl) (rtop_ret m hok (hS.perm (perm5 _ _ _ _ _ _))) ?_
      rintro v w ⟨A5, c5, rfl, hS⟩
      refine callR (by kernel_rfl) (same_ret (a := (topL T).take m.toNat) (b := (topL T).take m.toNat) (by rw [List.length_take]; omega) hS (Bes.of_row 5 rfl) (Bes.of_row 0 rfl)) ?_
      rintro v w ⟨rfl, hS⟩
      refine pick_dt rfl ?_
      refine cond_dt rfl ?_
      have hS := hS.tail.perm (perm5b _ _ _ _ _ _)
      refine callR (by kernel_rfl) (top_ret 64 hok hS) ?_
      rintro v w ⟨A6, c6, rfl, hS⟩
      refine callR (by kernel_rfl) (rtop_ret 64 hok (hS.perm (perm5 _ _ _ _ _ _))) ?_
      rintro v w ⟨A7, c7, rfl, hS⟩
      refine callR (by kernel_rfl) (same_ret (a := (topL T).take (64 : Int).toNat) (b := (topL T).take (64 : Int).toNat) (by rw [List.length_take]; omega) hS (Bes.of_row 5 rfl) (Bes.of_row 0 rfl)) ?_
      rintro v w ⟨rfl, hS⟩
      refine pick_dt rfl ?_
      refine cond_dt rfl ?_
      refine callR (by kernel_rfl) (awake_ret hS) ?_
      rintro v w ⟨rfl, hS⟩
      refine pick_dt rfl ?_
      unfold m3_11
      exact ⟨rfl, hS.below⟩
    · refine valP_ok (ld3 (hS.cell 2 rfl rfl)) ?_
      refine callR (by kernel_rfl) (seen_ret hS) ?_
      rintro v w ⟨rfl, rfl⟩
      refine pureP_ok (eq3 _ _ _ _) ?_
      refine pick_dt rfl ?_
      refine cond_dt rfl ?_
      refine callR (by kernel_rfl) (top_ret m hok hS) ?_
      rintro v w ⟨A4, c4, rfl, hS⟩
      refine callR (by kernel_rfl) (rtop_ret m hok (hS.perm (perm5 _ _ _ _ _ _))) ?_
      rintro v w ⟨A5, c5, rfl, hS⟩
      refine callR (by kernel_rfl) (same_ret (a := (topL T).take m.toNat) (b := (topL T).take m.toNat) (by rw [List.length_take]; omega) hS (Bes.of_row 5 rfl) (Bes.of_row 0 rfl)) ?_
      rintro v w ⟨rfl, hS⟩
      refine pick_dt rfl ?_
      refine cond_dt rfl ?_
      have hS := hS.tail.perm (perm5b _ _ _ _ _ _)
      refine callR (by kernel_rfl) (top_ret 64 hok hS) ?_
      rintro v w ⟨A6, c6, rfl, hS⟩
      refine callR (by kernel_rfl) (rtop_ret 64 hok (hS.perm (perm5 _ _ _ _ _ _))) ?_
      rintro v w ⟨A7, c7, rfl, hS⟩
      refine callR (by kernel_rfl) (same_ret (a := (topL T).take (64 : Int).toNat) (b := (topL T).take (64 : Int).toNat) (by rw [List.length_take]; omega) hS (Bes.of_row 5 rfl) (Bes.of_row 0 rfl)) ?_
      rintro v w ⟨rfl, hS⟩
      refine pick_dt rfl ?_
      refine cond_dt rfl ?_
      refine callR (by kernel_rfl) (awake_ret hS) ?_
      rintro v w ⟨rfl, hS⟩
      refine pick_dt rfl ?_
      unfold m3_11
      exact ⟨rfl, hS.below⟩

end Go.Proofs.Ytcfdalmnhgiaeaa.M
