/- What the document's group comes to: New, at, begin, heard; lists of members compared. -/
import Derived.Test.YtjjmlopmemmobaaG6
namespace Go.Proofs.Ytjjmlopmemmobaa.M
open Go.Proofs.Ytjjmlopmemmobaa.F Go.RowKit
set_option linter.unusedVariables false
set_option linter.unusedSimpArgs false
set_option maxRecDepth 100000
set_option maxHeartbeats 2000000
attribute [local irreducible] Res.cells Res.row Res.map Res.any World.cell? World.frozen? Instr.fieldAt Instr.loadAt Instr.storeAt Instr.indexAt Instr.lookup Instr.mapUpdate Instr.box Instr.build Instr.buildSlice Instr.extract Instr.alloc Instr.field Instr.index Instr.sliceAt Instr.makeSlice Instr.makeMap Instr.makeFunc binS Op.unary Sem.run
open Go.Proofs.Ytjjmlopmemmobaa.L Go.Shelf
theorem rnew_ret {w0 w : World} {F : List Nat} {L : List Res} {parts gen next : Int} {sticky : Bool} (hS : St w0 F w L) :
    Ret Try.prog 50 #[.int .i64 parts, .bool sticky, .int .i64 gen, .int .i64 next] w fun v w' => if newBad parts gen next then v = .tuple #[.pointer none, .int .i64 1] ∧ St w0 F w' L
      else ∃ b X, v = .tuple #[.pointer (some ⟨b, 0, none⟩), .int .i64 0] ∧ St w0 F w' (grpL 86 b (newS parts sticky gen next) X ++ L) := by
  refine s50 _ _ _ _ ?_
  unfold m50
  unfold m50_0
  have bad : newBad parts gen next → ∀ w, St w0 F w L → ∀ t, t = true → m50_11 (fun v w' => if newBad parts gen next then v = .tuple #[.pointer none, .int .i64 1] ∧ St w0 F w' L
      else ∃ b X, v = .tuple #[.pointer (some ⟨b, 0, none⟩), .int .i64 0] ∧ St w0 F w' (grpL 86 b (newS parts sticky gen next) X ++ L)) (.int .i64 parts) (.bool sticky) (.int .i64 gen) (.int .i64 next) (.bool t) w := fun hb w hS t ht => by
    unfold m50_11
    refine cond_t ht ?_
    unfold m50_12
    show ite _ _ _
    rw [if_pos hb]
    exact ⟨rfl, hS⟩
  unfold m50_1
  refine valP_ok (lss_ok _ _ _ _ _ _ _) ?_
  refine cond_split (fun h => ?_) (fun h => ?_)
  · first | refine pick_dt (by first | assumption | omega) ?_ | refine pick_df (by first | assumption | omega) ?_ | refine pick_t (by first | rfl | assumption) ?_ | refine pick_f (by first | rfl | assumption) ?_ | refine pick_dt rfl ?_ | refine pick_df (not_not_intro rfl) ?_
    first | refine pick_dt (by first | assumption | omega) ?_ | refine pick_df (by first | assumption | omega) ?_ | refine pick_t (by first | rfl | assumption) ?_ | refine pick_f (by first | rfl | assumption) ?_ | refine pick_dt rfl ?_ | refine pick_df (not_not_intro rfl) ?_
    first | refine pick_dt (by first | assumption | omega) ?_ | refine pick_df (by first | assumption | omega) ?_ | refine pick_t (by first | rfl | assumption) ?_ | refine pick_f (by first | rfl | assumption) ?_ | refine pick_dt rfl ?_ | refine pick_df (not_not_intro rfl) ?_
    first | refine pick_dt (by first | assumption | omega) ?_ | refine pick_df (by first | assumption | omega) ?_ | refine pick_t (by first | rfl | assumption) ?_ | refine pick_f (by first | rfl | assumption) ?_ | refine pick_dt rfl ?_ | refine pick_df (not_not_intro rfl) ?_
    first | refine pick_dt (by first | assumption | omega) ?_ | refine pick_df (by first | assumption | omega) ?_ | refine pick_t (by first | rfl | assumption) ?_ | refine pick_f (by first | rfl | assumption) ?_ | refine pick_dt rfl ?_ | refine pick_df (not_not_intro rfl) ?_
    exact bad (by unfold newBad; omega) _ hS _ (by simp [h])
  refine valP_ok (gtr_ok _ _ _ _ _ _ _) ?_
  first | refine pick_dt (by first | assumption | omega) ?_ | refine pick_df (by first | assumption | omega) ?_ | refine pick_t (by first | rfl | assumption) ?_ | refine pick_f (by first | rfl | assumption) ?_ | refine pick_dt rfl ?_ | refine pick_df (not_not_intro rfl) ?_
  refine cond_split (fun h1 => ?_) (fun h1 => ?_)
  · first | refine pick_dt (by first | assumption | omega) ?_ | refine pick_df (by first | assumption | omega) ?_ | refine pick_t (by first | rfl | assumption) ?_ | refine pick_f (by first | rfl | assumption) ?_ | refine pick_dt rfl ?_ | refine pick_df (not_not_intro rfl) ?_
    first | refine pick_dt (by first | assumption | omega) ?_ | refine pick_df (by first | assumption | omega) ?_ | refine pick_t (by first | rfl | assumption) ?_ | refine pick_f (by first | rfl | assumption) ?_ | refine pick_dt rfl ?_ | refine pick_df (not_not_intro rfl) ?_
    first | refine pick_dt (by first | assumption | omega) ?_ | refine pick_df (by first | assumption | omega) ?_ | refine pick_t (by first | rfl | assumption) ?_ | refine pick_f (by first | rfl | assumption) ?_ | refine pick_dt rfl ?_ | refine pick_df (not_not_intro rfl) ?_
    first | refine pick_dt (by first | assumption | omega) ?_ | refine pick_df (by first | assumption | omega) ?_ | refine pick_t (by first | rfl | assumption) ?_ | refine pick_f (by first | rfl | assumption) ?_ | refine pick_dt rfl ?_ | refine pick_df (not_not_intro rfl) ?_
    exact bad (by unfold newBad; omega) _ hS _ (by simp [h1])
  refine valP_ok (lss_ok _ _ _ _ _ _ _) ?_
  first | refine pick_dt (by first | assumption | omega) ?_ | refine pick_df (by first | assumption | omega) ?_ | refine pick_t (by first | rfl | assumption) ?_ | refine pick_f (by first | rfl | assumption) ?_ | refine pick_dt rfl ?_ | refine pick_df (not_not_intro rfl) ?_
  refine cond_split (fun h2 => ?_) (fun h2 => ?_)
  · first | refine pick_dt (by first | assumption | omega) ?_ | refine pick_df (by first | assumption | omega) ?_ | refine pick_t (by first | rfl | assumption) ?_ | refine pick_f (by first | rfl | assumption) ?_ | refine pick_dt rfl ?_ | refine pick_df (not_not_intro rfl) ?_
    first | refine pick_dt (by first | assumption | omega) ?_ | refine pick_df (by first | assumption | omega) ?_ | refine pick_t (by first | rfl | assumption) ?_ | refine pick_f (by first | rfl | assumption) ?_ | refine pick_dt rfl ?_ | refine pick_df (not_not_intro rfl) ?_
    first | refine pick_dt (by first | assumption | omega) ?_ | refine pick_df (by first | assumption | omega) ?_ | refine pick_t (by first | rfl | assumption) ?_ | refine pick_f (by first | rfl | assumption) ?_ | refine pick_dt rfl ?_ | refine pick_df (not_not_intro rfl) ?_
    exact bad (by unfold newBad; omega) _ hS _ (by simp [h2])
  refine valP_ok (gtr_ok _ _ _ _ _ _ _) ?_
  first | refine pick_dt (by first | assumption | omega) ?_ | refine pick_df (by first | assumption | omega) ?_ | refine pick_t (by first | rfl | assumption) ?_ | refine pick_f (by first | rfl | assumption) ?_ | refine pick_dt rfl ?_ | refine pick_df (not_not_intro rfl) ?_
  refine cond_split (fun h3 => ?_) (fun h3 => ?_)
  · first | refine pick_dt (by first | assumption | omega) ?_ | refine pick_df (by first | assumption | omega) ?_ | refine pick_t (by first | rfl | assumption) ?_ | refine pick_f (by first | rfl | assumption) ?_ | refine pick_dt rfl ?_ | refine pick_df (not_not_intro rfl) ?_
    first | refine pick_dt (by first | assumption | omega) ?_ | refine pick_df (by first | assumption | omega) ?_ | refine pick_t (by first | rfl | assumption) ?_ | refine pick_f (by first | rfl | assumption) ?_ | refine pick_dt rfl ?_ | refine pick_df (not_not_intro rfl) ?_
    exact bad (by unfold newBad; omega) _ hS _ (by simp [h3])
  refine valP_ok (lss_ok _ _ _ _ _ _ _) ?_
  first | refine pick_dt (by first | assumption | omega) ?_ | refine pick_df (by first | assumption | omega) ?_ | refine pick_t (by first | rfl | assumption) ?_ | refine pick_f (by first | rfl | assumption) ?_ | refine pick_dt rfl ?_ | refine pick_df (not_not_intro rfl) ?_
  refine cond_split (fun h4 => ?_) (fun h4 => ?_)
  · first | refine pick_dt (by first | assumption | omega) ?_ | refine pick_df (by first | assumption | omega) ?_ | refine pick_t (by first | rfl | assumption) ?_ | refine pick_f (by first | rfl | assumption) ?_ | refine pick_dt rfl ?_ | refine pick_df (not_not_intro rfl) ?_
    exact bad (by unfold newBad; omega) _ hS _ (by simp [h4])
  refine valP_ok (gtr_ok _ _ _ _ _ _ _) ?_
  first | refine pick_dt (by first | assumption | omega) ?_ | refine pick_df (by first | assumption | omega) ?_ | refine pick_t (by first | rfl | assumption) ?_ | refine pick_f (by first | rfl | assumption) ?_ | refine pick_dt rfl ?_ | refine pick_df (not_not_intro rfl) ?_
  by_cases h5 : next > 1099511627776
  · exact bad (by unfold newBad; omega) _ hS _ (by simp [h5])
  unfold m50_11
  refine cond_df h5 ?_
  unfold m50_2
  refine valP_ok (bd86_0_1_2_3 rfl rfl rfl rfl _) ?_
  refine new_ok (bx86 _ _ _ _ _ _ _ _) hS ?_
  intro b w hS
  have hS := (hS.row_nil 69 3).row_nil 3 1
  have hS := hS.pick 3 [2, 1, 0] (by simp) (by decide)
  unfold m50_3 m50_6
  refine loop_in (fun u w' => ∃ (i : Nat) (A : Option Addr) (c : Nat), u = .int .i64 i ∧ i ≤ parts.toNat ∧ St w0 F w' (Res.cells b 86 [.int .i64 parts, .bool sticky, .int .i64 gen, .int .i64 next, .int .i64 0, .slice none 0 0, .slice A (List.replicate i (0 : Int)).length c] :: Res.row 69 3 (.slice none 0 0) 0 [] :: irow (.slice A (List.replicate i (0 : Int)).length c) (List.replicate i 0) :: L))
    (fun u _ => parts.toNat - (intOf u).toNat) ⟨0, none, 0, rfl, by omega, hS⟩ ?_
  clear hS
  rintro u w ⟨i, A, c, rfl, hi, hS⟩
  unfold m50_7
  refine valP_ok (lss_ok _ _ _ _ _ _ _) ?_
  unfold m50_10
  refine cond_split (fun h => ?_) (fun h => ?_)
  · unfold m50_8
    refine nil_ok ?_
    first | refine valP_ok (fa86_6 _ _) ?_ | refine valP_ok (fao86_6 _ _ _) ?_
    first | refine valP_ok (ld28 (hS.cell 0 rfl rfl)) ?_ | refine valP_ok (ld28 (hS.cell 1 rfl rfl)) ?_ | refine valP_ok (ld28 (hS.cell 2 rfl rfl)) ?_ | refine valP_ok (ld28 (hS.cell 3 rfl rfl)) ?_ | refine valP_ok (ld28 (hS.cell 4 rfl rfl)) ?_ | refine valP_ok (ld28 (by assumption)) ?_
    refine newslice_ok (bs28_1 rfl _) hS ?_
    intro b50 w hS
    refine append_one 2 (by simp; omega) hS rfl ?_
    intro A' c' w hS
    have e : List.replicate i (0 : Int) ++ [0] = List.replicate (i + 1) 0 := List.replicate_succ'.symm
    rw [e] at hS
    rw [e]
    simp only [List.set_cons_zero, List.set_cons_succ] at hS
    refine nil_ok ?_
    first | refine valP_ok (fa86_6 _ _) ?_ | refine valP_ok (fao86_6 _ _ _) ?_
    first | refine store_at 0 st28 hS rfl (by simp) rfl ?_ | refine store_at 1 st28 hS rfl (by simp) rfl ?_ | refine store_at 2 st28 hS rfl (by simp) rfl ?_ | refine store_at 3 st28 hS rfl (by simp) rfl ?_ | refine store_at 4 st28 hS rfl (by simp) rfl ?_
    intro w hS
    simp only [List.set_cons_zero, List.set_cons_succ] at hS
    unfold m50_9
    refine valP_ok (add_ok _ _ _ (by omega) (by omega) _) ?_
    exact ⟨⟨i + 1, A', c', rfl, by omega, hS⟩, by simp [intOf]; omega⟩
  · have hi2 : i = parts.toNat := by omega
    subst hi2
    unfold m50_4 m50_5
    show ite _ _ _
    rw [if_neg (by unfold newBad; omega)]
    exact ⟨b, ⟨none, 0, A, c⟩, rfl, hS⟩
theorem at_ret {w0 w : World} {F : List Nat} {L : List Res} {b : Nat} {s : GS} {X : GA} (hl : s.L.length ≤ 1000) (hS : St w0 F w (grpL 86 b s X ++ L)) (id : Int) :
    Ret Try.prog 94 #[.pointer (some ⟨b, 0, none⟩), .int .i64 id] w fun v w' => (v = match atL s.L id with | none => .int .i64 (-1) | some i => .int .i64 (i : Int)) ∧ w' = w := by
  refine s94 _ _ ?_
  unfold m94
  unfold m94_0
  unfold m94_1 m94_4
  refine loop_in (fun u w' => ∃ i : Nat, u = .int .i64 i ∧ i ≤ s.L.length ∧ (∀ m ∈ s.L.take i, m.id ≠ id) ∧ w' = w) (fun u _ => s.L.length - (intOf u).toNat) ⟨0, rfl, by omega, by simp, rfl⟩ ?_
  rintro u w ⟨i, rfl, hi, hn, rfl⟩
  unfold m94_5
  refine nil_ok ?_
  first | refine valP_ok (fa86_5 _ _) ?_ | refine valP_ok (fao86_5 _ _ _) ?_
  first | refine valP_ok (ld66 (hS.cell 0 rfl rfl)) ?_ | refine valP_ok (ld66 (hS.cell 1 rfl rfl)) ?_ | refine valP_ok (ld66 (hS.cell 2 rfl rfl)) ?_ | refine valP_ok (ld66 (hS.cell 3 rfl rfl)) ?_ | refine valP_ok (ld66 (hS.cell 4 rfl rfl)) ?_ | refine valP_ok (ld66 (by assumption)) ?_
  refine builtin_ok (len66 _) ?_
  refine valP_ok (lss_ok _ _ _ _ _ _ _) ?_
  unfold m94_10
  refine cond_split (fun h => ?_) (fun h => ?_)
  · have hlt : i < s.L.length := by omega
    obtain ⟨m, cm, o, co⟩ := X
    obtain ⟨g, hg⟩ := hS.row_ptr 1 rfl (by omega)
    simp only at hg
    subst hg
    have h0 := hS.row_struct 1 encM_len rfl hlt (j := 0) (by omega) rfl
    rw [Nat.add_zero] at h0
    unfold m94_6
    refine nil_ok ?_
    first | refine valP_ok (fa86_5 _ _) ?_ | refine valP_ok (fao86_5 _ _ _) ?_
    first | refine valP_ok (ld66 (hS.cell 0 rfl rfl)) ?_ | refine valP_ok (ld66 (hS.cell 1 rfl rfl)) ?_ | refine valP_ok (ld66 (hS.cell 2 rfl rfl)) ?_ | refine valP_ok (ld66 (hS.cell 3 rfl rfl)) ?_ | refine valP_ok (ld66 (hS.cell 4 rfl rfl)) ?_ | refine valP_ok (ld66 (by assumption)) ?_
    first | refine valP_ok (ixz66 (by first | assumption | omega) _) ?_ | refine valP_ok (ix66 (by first | assumption | omega) _) ?_
    first | refine valP_ok (fa69_0 _ _) ?_ | refine valP_ok (fao69_0 _ _ _) ?_
    refine valP_ok (ld3 h0) ?_
    refine valP_ok (eq3 _ _ _ _ _) ?_
    unfold m94_8
    refine cond_split (fun e => ?_) (fun e => ?_)
    · unfold m94_9
      refine ⟨?_, rfl⟩
      rw [atL_some i hlt e hn]
    · unfold m94_7
      refine valP_ok (add_ok _ _ _ (by omega) (by omega) _) ?_
      refine ⟨⟨i + 1, rfl, by omega, ?_, rfl⟩, by simp [intOf]; omega⟩
      rw [List.take_succ_eq_append_getElem hlt]
      intro m hm
      rcases List.mem_append.1 hm with h | h
      · exact hn m h
      · rw [List.mem_singleton.1 h]; exact e
  · have hi2 : i = s.L.length := by omega
    rw [hi2, List.take_length] at hn
    unfold m94_2 m94_3
    refine ⟨?_, rfl⟩
    rw [atL_none hn]
theorem rbegin_ret {w0 w : World} {F : List Nat} {L : List Res} {b : Nat} {s : GS} {X : GA} (hs : GPre s) (hS : St w0 F w (grpL 86 b s X ++ L)) :
    Ret Try.prog 93 #[.pointer (some ⟨b, 0, none⟩)] w fun v w' => ∃ X', St w0 F w' (grpL 86 b (gturned s) X' ++ L) := by
  have hg := hs.g0
  have hp := hs.parts
  have hlen := hs.len
  refine s93 _ ?_
  unfold m93
  unfold m93_0
  have hS := hS.row_nil 3 1
  unfold m93_1 m93_7
  refine loop_in (fun u w' => ∃ (i : Nat) (A : Option Addr) (c : Nat), u = (.slice A (idsL (s.L.take i)).length c, .int .i64 i) ∧ i ≤ s.L.length ∧ St w0 F w' (irow (.slice A (idsL (s.L.take i)).length c) (idsL (s.L.take i)) :: (grpL 86 b s X ++ L))) (fun u _ => s.L.length - (intOf u.2).toNat) ⟨0, none, 0, rfl, by omega, hS⟩ ?_
  clear hS
  rintro u w ⟨i, A, c, rfl, hi, hS⟩
  unfold m93_8
  refine nil_ok ?_
  first | refine valP_ok (fa86_5 _ _) ?_ | refine valP_ok (fao86_5 _ _ _) ?_
  first | refine valP_ok (ld66 (hS.cell 0 rfl rfl)) ?_ | refine valP_ok (ld66 (hS.cell 1 rfl rfl)) ?_ | refine valP_ok (ld66 (hS.cell 2 rfl rfl)) ?_ | refine valP_ok (ld66 (hS.cell 3 rfl rfl)) ?_ | refine valP_ok (ld66 (hS.cell 4 rfl rfl)) ?_ | refine valP_ok (ld66 (by assumption)) ?_
  refine builtin_ok (len66 _) ?_
  refine valP_ok (lss_ok _ _ _ _ _ _ _) ?_
  unfold m93_11
  simp only
  refine cond_split (fun h => ?_) (fun h => ?_)
  · have hlt : i < s.L.length := by omega
    obtain ⟨m, cm, o, co⟩ := X
    obtain ⟨g, hg2⟩ := hS.row_ptr 2 rfl (by omega)
    simp only at hg2
    subst hg2
    have h0 := hS.row_struct 2 encM_len rfl hlt (j := 0) (by omega) rfl
    rw [Nat.add_zero] at h0
    have hlt2 : (idsL (s.L.take i)).length ≤ 1000000 := by simp; omega
    unfold m93_9
    refine nil_ok ?_
    first | refine valP_ok (fa86_5 _ _) ?_ | refine valP_ok (fao86_5 _ _ _) ?_
    first | refine valP_ok (ld66 (hS.cell 0 rfl rfl)) ?_ | refine valP_ok (ld66 (hS.cell 1 rfl rfl)) ?_ | refine valP_ok (ld66 (hS.cell 2 rfl rfl)) ?_ | refine valP_ok (ld66 (hS.cell 3 rfl rfl)) ?_ | refine valP_ok (ld66 (hS.cell 4 rfl rfl)) ?_ | refine valP_ok (ld66 (by assumption)) ?_
    first | refine valP_ok (ixz66 (by first | assumption | omega) _) ?_ | refine valP_ok (ix66 (by first | assumption | omega) _) ?_
    first | refine valP_ok (fa69_0 _ _) ?_ | refine valP_ok (fao69_0 _ _ _) ?_
    refine valP_ok (ld3 h0) ?_
    refine newslice_ok (bs28_1 rfl _) hS ?_
    intro b23 w hS
    refine append_one 0 hlt2 hS rfl ?_
    intro A' c' w hS
    simp only [List.set_cons_zero, List.set_cons_succ] at hS
    unfold m93_10
    refine valP_ok (add_ok _ _ _ (by omega) (by omega) _) ?_
    have e : idsL (s.L.take i) ++ [s.L[i].id] = idsL (s.L.take (i + 1)) := by rw [List.take_succ_eq_append_getElem hlt]; show _ = List.map _ _; rw [List.map_append]; rfl
    rw [e] at hS
    rw [e]
    exact ⟨⟨i + 1, A', c', rfl, by omega, hS⟩, by simp [intOf]; omega⟩
  · have hi2 : i = s.L.length := by omega
    subst hi2
    rw [List.take_length] at hS
    rw [List.take_length]
    unfold m93_2
    refine nil_ok ?_
    first | refine valP_ok (fa86_2 _ _) ?_ | refine valP_ok (fao86_2 _ _ _) ?_
    first | refine valP_ok (ld3 (hS.cell 0 rfl rfl)) ?_ | refine valP_ok (ld3 (hS.cell 1 rfl rfl)) ?_ | refine valP_ok (ld3 (hS.cell 2 rfl rfl)) ?_ | refine valP_ok (ld3 (hS.cell 3 rfl rfl)) ?_ | refine valP_ok (ld3 (hS.cell 4 rfl rfl)) ?_ | refine valP_ok (ld3 (by assumption)) ?_
    refine valP_ok (add_ok _ _ _ (by omega) (by omega) _) ?_
    refine nil_ok ?_
    first | refine valP_ok (fa86_2 _ _) ?_ | refine valP_ok (fao86_2 _ _ _) ?_
    first | refine store_at 0 st3 hS rfl (by simp) rfl ?_ | refine store_at 1 st3 hS rfl (by simp) rfl ?_ | refine store_at 2 st3 hS rfl (by simp) rfl ?_ | refine store_at 3 st3 hS rfl (by simp) rfl ?_ | refine store_at 4 st3 hS rfl (by simp) rfl ?_
    intro w hS
    simp only [List.set_cons_zero, List.set_cons_succ] at hS
    have hS : St w0 F w (irow (.slice A (idsL s.L).length c) (idsL s.L) :: Res.cells b 86 [.int .i64 s.parts, .bool s.sticky, .int .i64 (s.g + 1), .int .i64 s.n, .int .i64 s.now, .slice X.m s.L.length X.cm, .slice X.o s.O.length X.co] :: mrow (.slice X.m s.L.length X.cm) s.L :: irow (.slice X.o s.O.length X.co) s.O :: L) := hS
    unfold m93_3
    unfold m93_4
    refine nil_ok ?_
    first | refine valP_ok (fa86_1 _ _) ?_ | refine valP_ok (fao86_1 _ _ _) ?_
    first | refine valP_ok (ld4 (hS.cell 0 rfl rfl)) ?_ | refine valP_ok (ld4 (hS.cell 1 rfl rfl)) ?_ | refine valP_ok (ld4 (hS.cell 2 rfl rfl)) ?_ | refine valP_ok (ld4 (hS.cell 3 rfl rfl)) ?_ | refine valP_ok (ld4 (hS.cell 4 rfl rfl)) ?_ | refine valP_ok (ld4 (by assumption)) ?_
    have hbad : ¬ badParts s.parts := by unfold badParts; omega
    have hz : (idsL s.L).length ≤ 1000 := by simp; omega
    have hzb : ∀ x ∈ idsL s.L, -9223372036854775808 ≤ x ∧ x ≤ 9223372036854775807 := fun x hx => by
      obtain ⟨m, hm, rfl⟩ := List.mem_map.1 hx
      have := hs.each m hm
      omega
    unfold m93_6
    refine cond_bsplit (fun hst => ?_) (fun hst => ?_)
    · refine drawn_ok hS ?_
      intro w hS
      refine held_St [Res.cells b 86 [.int .i64 s.parts, .bool s.sticky, .int .i64 (s.g + 1), .int .i64 s.n, .int .i64 s.now, .slice X.m s.L.length X.cm, .slice X.o s.O.length X.co]] hS (by simp) ?_
      refine nil_ok ?_
      first | refine valJ_ok (fa86_0 _) ?_ | refine valJ_ok (fao86_0 _ _) ?_
      first | refine valJ_load ld3 (AllH.cell 0 rfl rfl) ?_ | refine valJ_load ld3 (AllH.cell 1 rfl rfl) ?_ | refine valJ_load ld3 (AllH.cell 2 rfl rfl) ?_ | refine valJ_load ld3 (AllH.cell 3 rfl rfl) ?_ | refine valJ_load ld3 (AllH.cell 4 rfl rfl) ?_ | refine valJ_load ld3 (by assumption) ?_
      refine nil_ok ?_
      first | refine valJ_ok (fa86_6 _) ?_ | refine valJ_ok (fao86_6 _ _) ?_
      first | refine valJ_load ld28 (AllH.cell 0 rfl rfl) ?_ | refine valJ_load ld28 (AllH.cell 1 rfl rfl) ?_ | refine valJ_load ld28 (AllH.cell 2 rfl rfl) ?_ | refine valJ_load ld28 (AllH.cell 3 rfl rfl) ?_ | refine valJ_load ld28 (AllH.cell 4 rfl rfl) ?_ | refine valJ_load ld28 (by assumption) ?_
      refine callR (by kernel_rfl) (rsticky_ret hS (Bes.of_row 0 rfl) (Bes.of_row 3 rfl) hz hzb) ?_
      intro v w hv
      rw [if_neg hbad] at hv
      obtain ⟨A2, c2, rfl, hS⟩ := hv
      refine stay_St hS (by simp) ?_
      refine valJ_ok (extract_ok _ 0 rfl) ?_
      refine valJ_ok (extract_ok _ 1 rfl) ?_
      unfold m93_5
      refine nil_ok ?_
      first | refine valP_ok (fa86_6 _ _) ?_ | refine valP_ok (fao86_6 _ _ _) ?_
      first | refine store_at 0 st28 hS rfl (by simp) rfl ?_ | refine store_at 1 st28 hS rfl (by simp) rfl ?_ | refine store_at 2 st28 hS rfl (by simp) rfl ?_ | refine store_at 3 st28 hS rfl (by simp) rfl ?_ | refine store_at 4 st28 hS rfl (by simp) rfl ?_
      intro w hS
      simp only [List.set_cons_zero, List.set_cons_succ] at hS
      have hS : St w0 F w (Res.cells b 86 [.int .i64 s.parts, .bool s.sticky, .int .i64 (s.g + 1), .int .i64 s.n, .int .i64 s.now, .slice X.m s.L.length X.cm, .slice A2 (stickyL s.parts (membersL (idsL s.L)) s.O).length c2] :: mrow (.slice X.m s.L.length X.cm) s.L :: irow (.slice A2 (stickyL s.parts (membersL (idsL s.L)) s.O).length c2) (stickyL s.parts (membersL (idsL s.L)) s.O) :: L) := hS.pick 5 [2, 3, 0] (by simp) (by decide)
      refine ⟨⟨X.m, X.cm, A2, c2⟩, ?_⟩
      have e : ownL s = stickyL s.parts (membersL (idsL s.L)) s.O := by unfold ownL; rw [hst]; rfl
      unfold gturned
      simp only [grpL, grpC, e]
      exact hS
    · refine nil_ok ?_
      first | refine valP_ok (fa86_0 _ _) ?_ | refine valP_ok (fao86_0 _ _ _) ?_
      first | refine valP_ok (ld3 (hS.cell 0 rfl rfl)) ?_ | refine valP_ok (ld3 (hS.cell 1 rfl rfl)) ?_ | refine valP_ok (ld3 (hS.cell 2 rfl rfl)) ?_ | refine valP_ok (ld3 (hS.cell 3 rfl rfl)) ?_ | refine valP_ok (ld3 (hS.cell 4 rfl rfl)) ?_ | refine valP_ok (ld3 (by assumption)) ?_
      refine callR (by kernel_rfl) (rrange_ret hS (Bes.of_row 0 rfl) hz) ?_
      intro v w hv
      rw [if_neg hbad] at hv
      obtain ⟨A2, c2, rfl, hS⟩ := hv
      refine valP_ok (extract_ok _ 0 rfl _) ?_
      refine valP_ok (extract_ok _ 1 rfl _) ?_
      unfold m93_5
      refine nil_ok ?_
      first | refine valP_ok (fa86_6 _ _) ?_ | refine valP_ok (fao86_6 _ _ _) ?_
      first | refine store_at 0 st28 hS rfl (by simp) rfl ?_ | refine store_at 1 st28 hS rfl (by simp) rfl ?_ | refine store_at 2 st28 hS rfl (by simp) rfl ?_ | refine store_at 3 st28 hS rfl (by simp) rfl ?_ | refine store_at 4 st28 hS rfl (by simp) rfl ?_
      intro w hS
      simp only [List.set_cons_zero, List.set_cons_succ] at hS
      have hS : St w0 F w (Res.cells b 86 [.int .i64 s.parts, .bool s.sticky, .int .i64 (s.g + 1), .int .i64 s.n, .int .i64 s.now, .slice X.m s.L.length X.cm, .slice A2 (rangeL s.parts (membersL (idsL s.L))).length c2] :: mrow (.slice X.m s.L.length X.cm) s.L :: irow (.slice A2 (rangeL s.parts (membersL (idsL s.L))).length c2) (rangeL s.parts (membersL (idsL s.L))) :: L) := hS.pick 5 [2, 3, 0] (by simp) (by decide)
      refine ⟨⟨X.m, X.cm, A2, c2⟩, ?_⟩
      have e : ownL s = rangeL s.parts (membersL (idsL s.L)) := by unfold ownL; rw [hst]; rfl
      unfold gturned
      simp only [grpL, grpC, e]
      exact hS
theorem rheard_St {w0 w : World} {F : List Nat} {L : List Res} {b i g cm : Nat} {s : GS} {o : Option Addr} {co : Nat} (hi : i < s.L.length) (hS : St w0 F w (Res.cells b 86 [.int .i64 s.parts, .bool s.sticky, .int .i64 s.g, .int .i64 s.n, .int .i64 s.now, .slice (some ⟨g, 0, none⟩) s.L.length cm, .slice o s.O.length co] :: mrow (.slice (some ⟨g, 0, none⟩) (s.L.set i ⟨s.L[i].id, s.L[i].wk, s.now + 12⟩).length cm) (s.L.set i ⟨s.L[i].id, s.L[i].wk, s.now + 12⟩) :: irow (.slice o s.O.length co) s.O :: L)) :
    St w0 F w (grpL 86 b (heard s i) ⟨some ⟨g, 0, none⟩, cm, o, co⟩ ++ L) := by
  show St w0 F w ([_, _, _] ++ L)
  simp only [grpC, heard, heardL_at hi, List.length_set]
  simp only [List.length_set] at hS
  exact hS
theorem rheard_ret {w0 w : World} {F : List Nat} {L : List Res} {b i T : Nat} {s : GS} {X : GA} (hT : T < 900) (hs : GOk T s) (hi : i < s.L.length) (hS : St w0 F w (grpL 86 b s X ++ L)) :
    Ret Try.prog 95 #[.pointer (some ⟨b, 0, none⟩), .int .i64 i] w fun v w' => St w0 F w' (grpL 86 b (heard s i) X ++ L) := by
  have hlen := hs.len
  have hnow := hs.now0
  obtain ⟨m, cm, o, co⟩ := X
  obtain ⟨g, hg⟩ := hS.row_ptr 1 rfl (by omega)
  simp only at hg
  subst hg
  have h0 := hS.row_struct 1 encM_len rfl hi (j := 0) (by omega) rfl
  have h1 := hS.row_struct 1 encM_len rfl hi (j := 1) (by omega) rfl
  have h2 := hS.row_struct 1 encM_len rfl hi (j := 2) (by omega) rfl
  rw [Nat.add_zero] at h0
  refine s95 _ _ ?_
  unfold m95
  unfold m95_0
  refine nil_ok ?_
  first | refine valP_ok (fa86_5 _ _) ?_ | refine valP_ok (fao86_5 _ _ _) ?_
  first | refine valP_ok (ld66 (hS.cell 0 rfl rfl)) ?_ | refine valP_ok (ld66 (hS.cell 1 rfl rfl)) ?_ | refine valP_ok (ld66 (hS.cell 2 rfl rfl)) ?_ | refine valP_ok (ld66 (hS.cell 3 rfl rfl)) ?_ | refine valP_ok (ld66 (hS.cell 4 rfl rfl)) ?_ | refine valP_ok (ld66 (by assumption)) ?_
  first | refine valP_ok (ixz66 (by first | assumption | omega) _) ?_ | refine valP_ok (ix66 (by first | assumption | omega) _) ?_
  refine valP_ok (ld69 h0 h1 h2) ?_
  refine new_ok (al69 _) hS ?_
  intro b4 w hS
  refine ss69 0 hS rfl rfl rfl rfl ?_
  intro w hS
  simp only [List.set_cons_zero] at hS
  unfold m95_1
  refine nil_ok ?_
  first | refine valP_ok (fa86_4 _ _) ?_ | refine valP_ok (fao86_4 _ _ _) ?_
  first | refine valP_ok (ld3 (hS.cell 0 rfl rfl)) ?_ | refine valP_ok (ld3 (hS.cell 1 rfl rfl)) ?_ | refine valP_ok (ld3 (hS.cell 2 rfl rfl)) ?_ | refine valP_ok (ld3 (hS.cell 3 rfl rfl)) ?_ | refine valP_ok (ld3 (hS.cell 4 rfl rfl)) ?_ | refine valP_ok (ld3 (by assumption)) ?_
  refine valP_ok (add_ok _ _ _ (by omega) (by omega) _) ?_
  first | refine valP_ok (fa69_2 _ _) ?_ | refine valP_ok (fao69_2 _ _ _) ?_
  first | refine store_at 0 st3 hS rfl (by simp) rfl ?_ | refine store_at 1 st3 hS rfl (by simp) rfl ?_ | refine store_at 2 st3 hS rfl (by simp) rfl ?_ | refine store_at 3 st3 hS rfl (by simp) rfl ?_ | refine store_at 4 st3 hS rfl (by simp) rfl ?_
  intro w hS
  simp only [List.set_cons_zero, List.set_cons_succ] at hS
  have hc := hS.cell (b := b4) (i := 0) 0 rfl rfl
  have hc1 := hS.cell (b := b4) (i := 1) 0 rfl rfl
  have hc2 := hS.cell (b := b4) (i := 2) 0 rfl rfl
  unfold m95_2
  refine drawn_ok hS ?_
  intro w hS
  refine nil_ok ?_
  first | refine valS_ok (fa86_5 _ _) ?_ | refine valS_ok (fao86_5 _ _ _) ?_
  first | refine valS_ok (ld66 (hS.cell 0 rfl rfl)) ?_ | refine valS_ok (ld66 (hS.cell 1 rfl rfl)) ?_ | refine valS_ok (ld66 (hS.cell 2 rfl rfl)) ?_ | refine valS_ok (ld66 (hS.cell 3 rfl rfl)) ?_ | refine valS_ok (ld66 (hS.cell 4 rfl rfl)) ?_ | refine valS_ok (ld66 (by assumption)) ?_
  refine valS_ok (ld69 (hS.cell 0 rfl rfl) (hS.cell 0 rfl rfl) (hS.cell 0 rfl rfl)) ?_
  refine valS_ok (ixz66 hi _) ?_
  refine set_mrow (x := (⟨s.L[i].id, s.L[i].wk, s.now + 12⟩ : Mem)) 2 hS rfl hi ?_
  intro w hS
  simp only [List.cons_append, List.nil_append, List.set_cons_zero, List.set_cons_succ] at hS
  exact rheard_St hi hS.tail
theorem msame_ret {w0 w : World} {F : List Nat} {L : List Res} {A B : Option Addr} {c d : Nat} {a b : List Mem} (hl : a.length ≤ 1000000) (hS : St w0 F w L) (hA : Bes w0 F L 3 A a.length (a.flatMap encM)) (hB : Bes w0 F L 3 B b.length (b.flatMap encM)) :
    Ret Try.prog 82 #[.slice A a.length c, .slice B b.length d] w fun v w' => v = .bool (decide (a = b)) ∧ St w0 F w' L := by
  refine s82 _ _ ?_
  unfold m82
  unfold m82_0
  unfold m82_1
  refine builtin_ok (len66 _) ?_
  refine builtin_ok (len66 _) ?_
  refine valP_ok (ne3 _ _ _ _ _) ?_
  unfold m82_12
  refine cond_split (fun h => ?_) (fun h => ?_)
  · unfold m82_13
    exact ⟨by rw [decide_eq_false (fun e => h (by rw [e]))], hS⟩
  have hlen : a.length = b.length := by omega
  unfold m82_2 m82_5
  refine loop_in (fun s w' => ∃ i : Nat, s = .int .i64 i ∧ i ≤ a.length ∧ a.take i = b.take i ∧ St w0 F w' L) (fun s _ => a.length - (intOf s).toNat) ⟨0, rfl, by omega, by simp, hS⟩ ?_
  clear hS
  rintro s w ⟨i, rfl, hi, hp, hS⟩
  unfold m82_6
  refine builtin_ok (len66 _) ?_
  refine valP_ok (lss_ok _ _ _ _ _ _ _) ?_
  unfold m82_11
  refine cond_split (fun h => ?_) (fun h => ?_)
  · have ha : i < a.length := by omega
    have hb : i < b.length := by omega
    have h1 := hA.rd hS
    have h2 := hB.rd hS
    obtain ⟨g, o, rfl⟩ := h1.some_ (by omega) (by omega)
    obtain ⟨g2, o2, rfl⟩ := h2.some_ (by omega) (by omega)
    have p0 := h1.struct encM_len ha (j := 0) (by omega) rfl
    have p1 := h1.struct encM_len ha (j := 1) (by omega) rfl
    have p2 := h1.struct encM_len ha (j := 2) (by omega) rfl
    have q0 := h2.struct encM_len hb (j := 0) (by omega) rfl
    have q1 := h2.struct encM_len hb (j := 1) (by omega) rfl
    have q2 := h2.struct encM_len hb (j := 2) (by omega) rfl
    rw [Nat.add_zero] at p0 q0
    unfold m82_7
    refine valQ_ok (ix66 ha) ?_
    refine valQ_at (fun n => ld69 (cellD p0 n) (cellD p1 n) (cellD p2 n)) ?_
    refine valQ_ok (ix66 hb) ?_
    refine valQ_at (fun n => ld69 (cellD q0 n) (cellD q1 n) (cellD q2 n)) ?_
    refine valQ_ok (ne69 _ _ _ _ _ _ _ _) ?_
    refine drawn_ok hS ?_
    intro w hS
    unfold m82_9
    have heq : (a[i].id = b[i].id ∧ a[i].wk = b[i].wk ∧ a[i].due = b[i].due) ↔ a[i] = b[i] := by
      cases a[i]
      cases b[i]
      simp
    refine cond_split (fun e => ?_) (fun e => ?_)
    · unfold m82_10
      refine ⟨?_, hS⟩
      rw [decide_eq_false]
      intro h
      subst h
      exact e ⟨rfl, rfl, rfl⟩
    · unfold m82_8
      refine valP_ok (add_ok _ _ _ (by omega) (by omega) _) ?_
      refine ⟨⟨i + 1, rfl, by omega, ?_, hS⟩, by simp [intOf]; omega⟩
      rw [List.take_succ_eq_append_getElem ha, List.take_succ_eq_append_getElem hb, hp]
      congr 2
      exact heq.1 (Decidable.not_not.1 e)
  · have hi2 : i = a.length := by omega
    unfold m82_3 m82_4
    refine ⟨?_, hS⟩
    rw [decide_eq_true]
    rw [hi2, List.take_length, hlen, List.take_length] at hp
    exact hp

end Go.Proofs.Ytjjmlopmemmobaa.M
