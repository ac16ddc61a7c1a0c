/- The example; any key came at least, and at most, as often as is told. -/
import Derived.Test.YtcfdalmnhgiaeaaX8
namespace Go.Proofs.Ytcfdalmnhgiaeaa.M
open Go.Proofs.Ytcfdalmnhgiaeaa.F Go.RowKit
set_option linter.unusedVariables false
set_option linter.unusedSimpArgs false
set_option maxRecDepth 100000
set_option maxHeartbeats 2000000
attribute [local irreducible] Res.cells Res.row Res.map Res.any World.cell? World.frozen? Instr.fieldAt Instr.loadAt Instr.storeAt Instr.indexAt Instr.lookup Instr.mapUpdate Instr.box Instr.build Instr.buildSlice Instr.extract Instr.alloc Instr.field Instr.index Instr.sliceAt Instr.makeSlice Instr.makeMap Instr.makeFunc binS Op.unary Sem.run
theorem perm3 (a b c : Res) (L : List Res) : (a :: b :: c :: L).Perm (b :: c :: a :: L) := (List.Perm.swap b a _).trans ((List.Perm.swap c a _).cons b)
theorem Rd.take_ints {w : World} {A : Option Addr} {l : List Int} (h : Rd w 1 A l.length (ints l)) (k : Nat) : Rd w 1 A (l.take k).length (ints (l.take k)) := by
  refine ⟨by simp, fun hp => ?_⟩
  have hp' : 0 < (ints l).length := by simp at hp ⊢; omega
  obtain ⟨g, o, hA, hc⟩ := h.2 hp'
  refine ⟨g, o, hA, fun j u hj => hc j u ?_⟩
  have e : ints (l.take k) = (ints l).take k := by simp [ints, List.map_take]
  rw [e, List.getElem?_take] at hj
  split at hj
  · exact hj
  · cases hj
theorem awake_top : (topL (addAll 2 [] [1, 1, 2, 3])).take 2 = [⟨1, 2, 0⟩, ⟨3, 2, 1⟩] := by
  have e : addAll 2 [] [1, 1, 2, 3] = [⟨1, 2, 0⟩, ⟨3, 2, 1⟩] := by decide
  rw [e]
  have : topL [⟨1, 2, 0⟩, ⟨3, 2, 1⟩] = [⟨1, 2, 0⟩, ⟨3, 2, 1⟩] := by
    refine heaviest_eq (l := [⟨1, 2, 0⟩, ⟨3, 2, 1⟩]) (by simp) (topL_perm _) (.refl _) (topL_sorted _) ?_
    unfold Heaviest
    simp [topI_lt]
  rw [this]
  rfl
theorem awake_ret {w0 w : World} {F : List Nat} {L : List Res} (hS : St w0 F w L) : Ret Try.prog 12 #[] w fun v w' => v = .bool true ∧ St w0 F w' L := by
  refine s12 ?_
  unfold m12 m12_0
  unfold m12_1
  refine callR (by kernel_rfl) (new_ret (most := 2) hS) ?_
  intro v w hv
  rw [if_neg (by omega)] at hv
  obtain ⟨b, rfl, hS⟩ := hv
  refine valP_ok (extract_ok _ 0 rfl _) ?_
  refine valP_ok (extract_ok _ 1 rfl _) ?_
  unfold m12_2
  refine valP_ok (ne25 _ _ _ _ _) ?_
  refine cond_df (by simp) ?_
  first | refine valP_ok (eq24n _ _ _) ?_ | refine valP_ok (eq24s _ _ _ _) ?_
  first | refine pick_dt (by first | assumption | omega) ?_ | refine pick_df (by first | assumption | omega) ?_ | refine pick_t (by first | rfl | assumption) ?_ | refine pick_f (by first | rfl | assumption) ?_
  unfold m12_7
  refine cond_f rfl ?_
  unfold m12_3
  refine newslice_ok (bs22_4 rfl rfl rfl rfl _) hS ?_
  intro b17 w hS
  have hS := hS.perm (perm3 _ _ _ _)
  refine callR (by kernel_rfl) (add_ret (l := []) (keys := [1, 1, 2, 3]) hS (HOk.start (by omega) (by omega)) (Bes.of_cells 0 rfl rfl) (by simp)) ?_
  intro v w hv
  rw [if_neg (by simp)] at hv
  obtain ⟨rfl, A', c', hS⟩ := hv
  have hok := (HOk.start (most := 2) (by omega) (by omega)).all [1, 1, 2, 3] (by simp)
  unfold m12_4
  refine callR (by kernel_rfl) (count_ret hok hS) ?_
  rintro v w ⟨rfl, hS⟩
  refine valP_ok (extract_ok _ 0 rfl _) ?_
  refine valP_ok (extract_ok _ 1 rfl _) ?_
  unfold m12_5
  refine valP_ok (eq25 _ _ _ _ _) ?_
  refine cond_dt (by decide) ?_
  refine callR (by kernel_rfl) (top_ret 2 hok hS) ?_
  rintro v w ⟨A2, c2, rfl, hS⟩
  refine valP_ok (bd45_0_1 rfl rfl _) ?_
  refine valP_ok (bd45_0_1_2 rfl rfl rfl _) ?_
  refine newslice_ok (bs28_2 _) hS ?_
  intro b31 w hS
  refine callR (by kernel_rfl) (same_ret (a := (topL (addAll 2 [] [1, 1, 2, 3])).take 2) (b := [⟨1, 2, 0⟩, ⟨3, 2, 1⟩]) (by rw [awake_top]; simp) hS (Bes.of_row 1 rfl) (Bes.of_cells 0 rfl rfl)) ?_
  rintro v w ⟨rfl, hS⟩
  have ht := awake_top
  first | refine pick_dt (by first | assumption | omega) ?_ | refine pick_df (by first | assumption | omega) ?_ | refine pick_t (by first | rfl | assumption) ?_ | refine pick_f (by first | rfl | assumption) ?_
  refine cond_dt ht ?_
  refine valP_ok (eq3 _ _ _ _ _) ?_
  first | refine pick_dt (by first | assumption | omega) ?_ | refine pick_df (by first | assumption | omega) ?_ | refine pick_t (by first | rfl | assumption) ?_ | refine pick_f (by first | rfl | assumption) ?_
  refine cond_dt (by decide) ?_
  refine valP_ok (eq3 _ _ _ _ _) ?_
  first | refine pick_dt (by first | assumption | omega) ?_ | refine pick_df (by first | assumption | omega) ?_ | refine pick_t (by first | rfl | assumption) ?_ | refine pick_f (by first | rfl | assumption) ?_
  refine cond_dt (by decide) ?_
  have hS := (hS.tail.tail)
  refine callR (by kernel_rfl) (seen_ret hS) ?_
  rintro v w ⟨rfl, rfl⟩
  refine valP_ok (eq3 _ _ _ _ _) ?_
  first | refine pick_dt (by first | assumption | omega) ?_ | refine pick_df (by first | assumption | omega) ?_ | refine pick_t (by first | rfl | assumption) ?_ | refine pick_f (by first | rfl | assumption) ?_
  unfold m12_6
  exact ⟨rfl, hS.tail.tail.tail⟩
theorem topL_all {k n : Int} {l : List Ta} (hok : HOk k n l) : (topL l).take (64 : Int).toNat = topL l := by
  have := hok.len
  have := hok.most2
  exact List.take_of_length_le (by rw [(topL_perm l).length_eq]; show l.length ≤ 64; omega)
theorem bounds_ret {w : World} {A : Option Addr} {c : Nat} {l : List Int} {most : Int} (key : Int) (hm : -9223372036854775808 ≤ most) (hm' : most ≤ 9223372036854775807) (hc : l.length ≤ c) (hr : Rd w 1 A l.length (ints l)) :
    Ret Try.prog 4 #[.int .i64 most, .slice A l.length c, .int .i64 key] w fun v w' => v = .bool true ∧ Below w.heap.size w w' := by
  refine s4 _ _ _ ?_
  unfold m4 m4_0
  unfold m4_1
  refine callR (by kernel_rfl) (some_ret A c l w hc) ?_
  rintro v w ⟨rfl, rfl⟩
  have hS := St.start w
  have hr := Rd.take_ints hr 400
  have hl : (l.take 400).length ≤ 400 := by rw [List.length_take]; omega
  generalize l.take 400 = l at hr hl ⊢
  have hin := manyI_in most
  unfold m4_2
  refine callR (by kernel_rfl) (made_ret hm hm' hl hS (Bes.of_old0 hr)) ?_
  rintro v w1 ⟨b, A1, c1, rfl, hok, hS⟩
  have hinv : Inv (manyI most) l (madeL most l) := inv_all hin.1 (by omega) l (by omega)
  have hb := fun q => count_bounds hin.1 hinv q
  unfold m4_3
  first | refine valP_ok (eq24n _ _ _) ?_ | refine valP_ok (eq24s _ _ _ _) ?_
  unfold m4_22
  refine cond_f rfl ?_
  unfold m4_4
  refine callR (by kernel_rfl) (count_ret hok hS) ?_
  rintro v w2 ⟨rfl, hS⟩
  refine valP_ok (extract_ok _ 0 rfl _) ?_
  refine valP_ok (extract_ok _ 1 rfl _) ?_
  unfold m4_5
  refine callR (by kernel_rfl) (times_ret _ _ _ _ _ (hr.old0 hS) (by omega)) ?_
  rintro v w3 ⟨rfl, rfl⟩
  have hbk := hb key
  unfold m4_6
  refine valP_ok (lss_ok _ _ _ _ _ _ _) ?_
  refine cond_df (by omega) ?_
  refine valP_ok (gtr_ok _ _ _ _ _ _ _) ?_
  first | refine pick_dt (by first | assumption | omega) ?_ | refine pick_df (by first | assumption | omega) ?_ | refine pick_t (by first | rfl | assumption) ?_ | refine pick_f (by first | rfl | assumption) ?_
  unfold m4_20
  refine cond_df (by omega) ?_
  unfold m4_7
  refine callR (by kernel_rfl) (top_ret 64 hok hS) ?_
  rintro v w4 ⟨A2, c2, rfl, hS⟩
  rw [topL_all hok] at hS ⊢
  have hS := hS.perm (perm3 _ _ _ _)
  clear hbk
  have hmem : ∀ t ∈ topL (madeL most l), t ∈ madeL most l := fun t ht => (topL_perm _).mem_iff.1 ht
  have hTl : (topL (madeL most l)).length ≤ 64 := by have := hok.len; rw [(topL_perm _).length_eq]; omega
  generalize topL (madeL most l) = T at hS hmem hTl ⊢
  unfold m4_8
  unfold m4_11
  refine loop_in (fun s w' => ∃ i : Nat, s = .int .i64 i ∧ i ≤ T.length ∧ St w [] w' (hcl b (manyI most) l.length (.slice A1 (madeL most l).length c1) :: hrow (.slice A1 (madeL most l).length c1) (madeL most l) :: hrow (.slice A2 T.length c2) T :: []))
    (fun s _ => T.length - (intOf s).toNat) ⟨0, rfl, by omega, hS⟩ ?_
  clear hS
  rintro s w5 ⟨i, rfl, hi, hS⟩
  unfold m4_12
  refine builtin_ok (len28 _) ?_
  refine valP_ok (lss_ok _ _ _ _ _ _ _) ?_
  unfold m4_19
  refine cond_split (fun h => ?_) (fun h => ?_)
  · have hlt : i < T.length := by omega
    obtain ⟨g, rfl⟩ := hS.row_ptr 2 rfl (by omega)
    obtain ⟨h0, h1, h2⟩ := tally_at 2 hS rfl hlt
    unfold m4_13
    first | refine valP_ok (ixz28 (by first | assumption | omega) _) ?_ | refine valP_ok (ix28 (by first | assumption | omega) _) ?_
    first | refine valP_ok (fa45_0 _ _) ?_ | refine valP_ok (fao45_0 _ _ _) ?_
    first | refine valP_ok (ld3 (hS.cell 0 rfl rfl)) ?_ | refine valP_ok (ld3 (hS.cell 1 rfl rfl)) ?_ | refine valP_ok (ld3 (hS.cell 2 rfl rfl)) ?_ | refine valP_ok (ld3 (hS.cell 3 rfl rfl)) ?_ | refine valP_ok (ld3 (hS.cell 4 rfl rfl)) ?_ | refine valP_ok (ld3 (by assumption)) ?_
    refine callR (by kernel_rfl) (count_ret hok hS) ?_
    rintro v w6 ⟨rfl, hS⟩
    refine valP_ok (extract_ok _ 0 rfl _) ?_
    refine valP_ok (extract_ok _ 1 rfl _) ?_
    clear h0 h1 h2
    obtain ⟨h0, h1, h2⟩ := tally_at 2 hS rfl hlt
    unfold m4_15
    first | refine valP_ok (ixz28 (by first | assumption | omega) _) ?_ | refine valP_ok (ix28 (by first | assumption | omega) _) ?_
    first | refine valP_ok (fa45_0 _ _) ?_ | refine valP_ok (fao45_0 _ _ _) ?_
    first | refine valP_ok (ld3 (hS.cell 0 rfl rfl)) ?_ | refine valP_ok (ld3 (hS.cell 1 rfl rfl)) ?_ | refine valP_ok (ld3 (hS.cell 2 rfl rfl)) ?_ | refine valP_ok (ld3 (hS.cell 3 rfl rfl)) ?_ | refine valP_ok (ld3 (hS.cell 4 rfl rfl)) ?_ | refine valP_ok (ld3 (by assumption)) ?_
    refine callR (by kernel_rfl) (times_ret _ _ _ _ _ (hr.old0 hS) (by omega)) ?_
    rintro v w7 ⟨rfl, rfl⟩
    have hbk := hb T[i].key
    have hm := hmem _ (List.getElem_mem hlt)
    have hx := hok.each _ hm
    have hn2 := hok.n2
    rw [count_of_mem hok hm] at hbk ⊢
    simp only at hbk ⊢
    unfold m4_16
    refine valQ_ok (lss_ok _ _ _ _ _ _) ?_
    refine cond_df (by omega) ?_
    refine valQ_ok (gtr_ok _ _ _ _ _ _) ?_
    first | refine pick_dt (by first | assumption | omega) ?_ | refine pick_df (by first | assumption | omega) ?_ | refine pick_t (by first | rfl | assumption) ?_ | refine pick_f (by first | rfl | assumption) ?_
    refine cond_df (by omega) ?_
    first | refine valQ_ok (ixz28 (by first | assumption | omega)) ?_ | refine valQ_ok (ix28 (by first | assumption | omega)) ?_
    first | refine valQ_ok (fa45_1 _) ?_ | refine valQ_ok (fao45_1 _ _) ?_
    first | refine valQ_load ld3 (hS.cell 0 rfl rfl) ?_ | refine valQ_load ld3 (hS.cell 1 rfl rfl) ?_ | refine valQ_load ld3 (hS.cell 2 rfl rfl) ?_ | refine valQ_load ld3 (hS.cell 3 rfl rfl) ?_ | refine valQ_load ld3 (hS.cell 4 rfl rfl) ?_ | refine valQ_load ld3 (by assumption) ?_
    first | refine valQ_ok (ixz28 (by first | assumption | omega)) ?_ | refine valQ_ok (ix28 (by first | assumption | omega)) ?_
    first | refine valQ_ok (fa45_2 _) ?_ | refine valQ_ok (fao45_2 _ _) ?_
    first | refine valQ_load ld3 (hS.cell 0 rfl rfl) ?_ | refine valQ_load ld3 (hS.cell 1 rfl rfl) ?_ | refine valQ_load ld3 (hS.cell 2 rfl rfl) ?_ | refine valQ_load ld3 (hS.cell 3 rfl rfl) ?_ | refine valQ_load ld3 (hS.cell 4 rfl rfl) ?_ | refine valQ_load ld3 (by assumption) ?_
    refine valQ_ok (sub_ok _ _ _ (by omega) (by omega)) ?_
    refine valQ_ok (ne3 _ _ _ _) ?_
    first | refine pick_dt (by first | assumption | omega) ?_ | refine pick_df (by first | assumption | omega) ?_ | refine pick_t (by first | rfl | assumption) ?_ | refine pick_f (by first | rfl | assumption) ?_
    refine cond_df (by simp) ?_
    first | refine valQ_ok (ixz28 (by first | assumption | omega)) ?_ | refine valQ_ok (ix28 (by first | assumption | omega)) ?_
    first | refine valQ_ok (fa45_1 _) ?_ | refine valQ_ok (fao45_1 _ _) ?_
    first | refine valQ_load ld3 (hS.cell 0 rfl rfl) ?_ | refine valQ_load ld3 (hS.cell 1 rfl rfl) ?_ | refine valQ_load ld3 (hS.cell 2 rfl rfl) ?_ | refine valQ_load ld3 (hS.cell 3 rfl rfl) ?_ | refine valQ_load ld3 (hS.cell 4 rfl rfl) ?_ | refine valQ_load ld3 (by assumption) ?_
    refine valQ_ok (ne3 _ _ _ _) ?_
    first | refine pick_dt (by first | assumption | omega) ?_ | refine pick_df (by first | assumption | omega) ?_ | refine pick_t (by first | rfl | assumption) ?_ | refine pick_f (by first | rfl | assumption) ?_
    refine drawn_ok hS ?_
    intro w hS
    unfold m4_17
    refine cond_df (by simp) ?_
    unfold m4_14
    refine valP_ok (add_ok _ _ _ (by omega) (by omega) _) ?_
    exact ⟨⟨i + 1, rfl, by omega, hS⟩, by simp [intOf]; omega⟩
  · unfold m4_9
    refine callR (by kernel_rfl) (awake_ret hS) ?_
    rintro v w6 ⟨rfl, hS⟩
    unfold m4_10
    exact ⟨rfl, hS.below⟩

end Go.Proofs.Ytcfdalmnhgiaeaa.M
