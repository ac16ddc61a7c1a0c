/- Who has, or is to have, a partition is a member. -/
import Derived.Test.YtjjmlopmemmobaaC15
import Derived.Test.YtjjmlopmemmobaaMla0
namespace Go.Proofs.Ytjjmlopmemmobaa.M
open Go.Proofs.Ytjjmlopmemmobaa.F Go.RowKit
set_option linter.unusedVariables false
set_option linter.unusedSimpArgs false
set_option maxRecDepth 100000
set_option maxHeartbeats 2000000
attribute [local irreducible] Res.cells Res.row Res.map Res.any World.cell? World.frozen? Instr.fieldAt Instr.loadAt Instr.storeAt Instr.indexAt Instr.lookup Instr.mapUpdate Instr.box Instr.build Instr.buildSlice Instr.extract Instr.alloc Instr.field Instr.index Instr.sliceAt Instr.makeSlice Instr.makeMap Instr.makeFunc binS Op.unary Sem.run
open Go.Proofs.Ytjjmlopmemmobaa.L Go.Shelf
theorem tm_one {M : List Int} (h : M.Pairwise (· < ·)) {x : Int} (hx : x ∈ M) : tm M x = 1 := by
  have hn : M.Nodup := h.imp fun h e => by omega
  unfold tm
  have h1 := List.count_pos_iff.2 hx
  have h2 := List.nodup_iff_count.1 hn x
  omega
theorem cut_facts {w : World} {l : List Dd} (hok : ∀ x ∈ l, DOk w x) : ((l.take 100).map cutD).length ≤ 100 ∧ ∀ x ∈ (l.take 100).map cutD, DOk w x ∧ x.l.length ≤ 12 := by
  refine ⟨by rw [List.length_map, List.length_take]; omega, fun x hx => ?_⟩
  obtain ⟨y, hy, rfl⟩ := List.mem_map.1 hx
  exact ⟨(hok y (List.mem_of_mem_take hy)).cut, by simp [cutD]; omega⟩
theorem cmembers_ret {w0 : World} {A : Option Addr} {c : Nat} {l : List Dd} {parts : Int} (hp : -9223372036854775808 ≤ parts) (hp' : parts ≤ 9223372036854775807) (hl : Rd w0 5 A l.length (l.flatMap encD)) (hc : l.length ≤ c) (hok : ∀ x ∈ l, DOk w0 x) :
    Ret Try.prog 3 #[.int .i64 parts, .slice A l.length c] w0 fun v w' => v = .bool true ∧ Below w0.heap.size w0 w' := by
  have hS := St.start w0
  have hn := ofN_le parts
  refine s3 _ _ ?_
  unfold m3 m3_0
  unfold m3_1
  refine callR (by kernel_rfl) (of_ret hp hp' hS) ?_
  rintro v w1 ⟨b, X, rfl, hS⟩
  unfold m3_2
  first | refine valP_ok (eq23n _ _ _) ?_ | refine valP_ok (eq23s _ _ _ _) ?_
  unfold m3_24
  refine cond_f rfl ?_
  unfold m3_3
  refine callR (by kernel_rfl) (dsome_ret hl hc hok hS) ?_
  rintro v w2 ⟨A1, c1, rfl, hS⟩
  obtain ⟨hll, hlx⟩ := cut_facts hok
  generalize (l.take 100).map cutD = ls at *
  unfold m3_4
  unfold m3_7
  refine loop_in (fun u w' => ∃ (i : Nat) (s : CS) (X : CA), u = .int .i64 i ∧ i ≤ ls.length ∧ CInv s i ∧ St w0 [] w' (coopL 94 b s X ++ [drow (.slice A1 ls.length c1) ls])) (fun u _ => ls.length - (intOf u).toNat) ⟨0, _, X, rfl, by omega, new_inv hn, hS.pick 5 [1, 2, 3, 4, 0] (by simp) (by decide)⟩ ?_
  clear hS
  rintro u w3 ⟨i, s, X, rfl, hi, hinv, hS⟩
  unfold m3_8
  refine builtin_ok (len22 _) ?_
  refine valP_ok (lss_ok _ _ _ _ _ _ _) ?_
  unfold m3_23
  refine cond_split (fun h => ?_) (fun h => ?_)
  · have hlt : i < ls.length := by omega
    obtain ⟨g, rfl⟩ := hS.row_ptr 4 rfl (by omega)
    have h0 := hS.row_struct 4 encD_len rfl hlt (j := 0) (by omega) rfl
    have h1 := hS.row_struct 4 encD_len rfl hlt (j := 1) (by omega) rfl
    have h2 := hS.row_struct 4 encD_len rfl hlt (j := 2) (by omega) rfl
    have h3 := hS.row_struct 4 encD_len rfl hlt (j := 3) (by omega) rfl
    have h4 := hS.row_struct 4 encD_len rfl hlt (j := 4) (by omega) rfl
    obtain ⟨hx, hx12⟩ := hlx _ (List.getElem_mem hlt)
    generalize ls[i] = x at *
    unfold m3_9
    first | refine valP_ok (ixz22 (by first | assumption | omega) _) ?_ | refine valP_ok (ix22 (by first | assumption | omega) _) ?_
    first | refine ls30 0 hS rfl ?_ | refine ls30 1 hS rfl ?_ | refine ls30 2 hS rfl ?_ | refine ls30 3 hS rfl ?_ | refine ls30 4 hS rfl ?_ | refine valP_ok (ld30 (by assumption) (by assumption) (by assumption) (by assumption) (by assumption)) ?_
    refine callR (by kernel_rfl) (aimed_ret hinv.pre hx hS) ?_
    rintro v w ⟨rfl, hS⟩
    obtain ⟨ha1, ha2⟩ := aimD_ok hinv.pre hx
    refine callR (by kernel_rfl) (does_ret hinv.pre ha1 (by rw [ha2]; omega) hS) ?_
    rintro v w ⟨rfl, X2, hS⟩
    have hinv2 := deed_inv (x := aimD s x) hinv (by omega)
    generalize (deedS s (aimD s x)).2 = s2 at *
    clear h0 h1 h2 h3 h4 hinv
    have hpre := hinv2.pre
    have hM8 := hpre.len
    have hpp := hpre.parts
    have hsame := hpre.same
    unfold m3_11
    refine callR (by kernel_rfl) (members_clone (by omega) hS) ?_
    rintro v w ⟨A2, c2, rfl, hS⟩
    have hS := hS.pick 5 [1, 2, 3, 4, 0] (by simp) (by decide)
    refine callR (by kernel_rfl) (have_clone (s := s2) (X := X2) (L := irow (.slice A2 s2.M.length c2) s2.M :: [drow (.slice (some ⟨g, 0, none⟩) ls.length c1) ls]) (by omega) hS) ?_
    rintro v w ⟨A3, c3, rfl, hS⟩
    have hS := hS.pick 5 [1, 2, 3, 4, 0] (by simp) (by decide)
    refine callR (by kernel_rfl) (want_clone (s := s2) (X := X2) (L := irow (.slice A3 s2.H.length c3) s2.H :: irow (.slice A2 s2.M.length c2) s2.M :: [drow (.slice (some ⟨g, 0, none⟩) ls.length c1) ls]) (by omega) hS) ?_
    rintro v w ⟨A4, c4, rfl, hS⟩
    have hS : St w0 [] w (irow (.slice A4 s2.W.length c4) s2.W :: irow (.slice A3 s2.H.length c3) s2.H :: irow (.slice A2 s2.M.length c2) s2.M :: (coopL 94 b s2 X2 ++ [drow (.slice (some ⟨g, 0, none⟩) ls.length c1) ls])) := hS.pick 7 [0, 5, 6, 1, 2, 3, 4] (by simp) (by decide)
    unfold m3_12
    unfold m3_13
    refine loop_in (fun u w' => ∃ (p : Nat), u = .int .i64 p ∧ p ≤ s2.H.length ∧ St w0 [] w' (irow (.slice A4 s2.W.length c4) s2.W :: irow (.slice A3 s2.H.length c3) s2.H :: irow (.slice A2 s2.M.length c2) s2.M :: (coopL 94 b s2 X2 ++ [drow (.slice (some ⟨g, 0, none⟩) ls.length c1) ls]))) (fun u _ => s2.H.length - (intOf u).toNat) ⟨0, rfl, by omega, hS⟩ ?_
    clear hS
    rintro u w ⟨p, rfl, hpl, hS⟩
    unfold m3_14
    refine builtin_ok (len28 _) ?_
    refine valP_ok (lss_ok _ _ _ _ _ _ _) ?_
    unfold m3_22
    refine cond_split (fun hh => ?_) (fun hh => ?_)
    · have hlh : p < s2.H.length := by omega
      have hlw : p < s2.W.length := by omega
      obtain ⟨g3, rfl⟩ := hS.row_ptr 1 rfl (by omega)
      obtain ⟨g4, rfl⟩ := hS.row_ptr 0 rfl (by omega)
      have hbH := hpre.bH _ (List.getElem_mem hlh)
      have hbW := hpre.bW _ (List.getElem_mem hlw)
      have fin : ∀ (t : Bool) (w : World) R (K2 : Value → World → Prop), t = false → St w0 [] w (irow (.slice (some ⟨g4, 0, none⟩) s2.W.length c4) s2.W :: irow (.slice (some ⟨g3, 0, none⟩) s2.H.length c3) s2.H :: irow (.slice A2 s2.M.length c2) s2.M :: (coopL 94 b s2 X2 ++ [drow (.slice (some ⟨g, 0, none⟩) ls.length c1) ls])) →
          (∀ w', St w0 [] w' (irow (.slice (some ⟨g4, 0, none⟩) s2.W.length c4) s2.W :: irow (.slice (some ⟨g3, 0, none⟩) s2.H.length c3) s2.H :: irow (.slice A2 s2.M.length c2) s2.M :: (coopL 94 b s2 X2 ++ [drow (.slice (some ⟨g, 0, none⟩) ls.length c1) ls])) → K2 (.int .i64 ((p + 1 : Nat) : Int)) w') →
          ∀ K1, m3_20 R K1 K2 (.slice (some ⟨g, 0, none⟩) ls.length c1) (.pointer (some ⟨b, 0, none⟩)) (.int .i64 i) (.slice A2 s2.M.length c2) (.slice (some ⟨g3, 0, none⟩) s2.H.length c3) (.slice (some ⟨g4, 0, none⟩) s2.W.length c4) (.int .i64 p) (.bool t) w := fun t w R K2 ht hS hK K1 => by
        unfold m3_20
        refine cond_f ht ?_
        have hc3 := hS.row_cell 1 rfl (ints_get hlh)
        have hc4 := hS.row_cell 0 rfl (ints_get hlw)
        have fin2 : ∀ (t : Bool), t = false → m3_18 R K1 K2 (.slice (some ⟨g, 0, none⟩) ls.length c1) (.pointer (some ⟨b, 0, none⟩)) (.int .i64 i) (.slice A2 s2.M.length c2) (.slice (some ⟨g3, 0, none⟩) s2.H.length c3) (.slice (some ⟨g4, 0, none⟩) s2.W.length c4) (.int .i64 p) (.bool t) w := fun t ht => by
          unfold m3_18
          refine cond_f ht ?_
          unfold m3_16
          refine valP_ok (add_ok _ _ _ (by omega) (by omega) _) ?_
          exact hK _ hS
        unfold m3_17
        refine builtin_ok (len28 _) ?_
        refine valP_ok (gtr_ok _ _ _ _ _ _ _) ?_
        refine cond_split (fun hM => ?_) (fun hM => ?_)
        · have hf := hinv2.full.some (by omega)
          have t1 := tm_one hpre.rise (hf.1 _ (List.getElem_mem hlh))
          have t2 := tm_one hpre.rise (hf.2.inM _ (List.getElem_mem hlw))
          first | refine valP_ok (ixz28 (by first | assumption | omega) _) ?_ | refine valP_ok (ix28 (by first | assumption | omega) _) ?_
          first | refine valP_ok (ld3 (hS.cell 0 rfl rfl)) ?_ | refine valP_ok (ld3 (hS.cell 1 rfl rfl)) ?_ | refine valP_ok (ld3 (hS.cell 2 rfl rfl)) ?_ | refine valP_ok (ld3 (hS.cell 3 rfl rfl)) ?_ | refine valP_ok (ld3 (hS.cell 4 rfl rfl)) ?_ | refine valP_ok (ld3 (by assumption)) ?_
          refine callR (by kernel_rfl) (count_ret A2 c2 s2.M s2.H[p] _ (hS.row_rd 2 rfl) (by omega)) ?_
          rintro v w ⟨rfl, rfl⟩
          refine valP_ok (ne3 _ _ _ _ _) ?_
          refine cond_df (not_not_intro t1) ?_
          first | refine valP_ok (ixz28 (by first | assumption | omega) _) ?_ | refine valP_ok (ix28 (by first | assumption | omega) _) ?_
          first | refine valP_ok (ld3 (hS.cell 0 rfl rfl)) ?_ | refine valP_ok (ld3 (hS.cell 1 rfl rfl)) ?_ | refine valP_ok (ld3 (hS.cell 2 rfl rfl)) ?_ | refine valP_ok (ld3 (hS.cell 3 rfl rfl)) ?_ | refine valP_ok (ld3 (hS.cell 4 rfl rfl)) ?_ | refine valP_ok (ld3 (by assumption)) ?_
          refine callR (by kernel_rfl) (count_ret A2 c2 s2.M s2.W[p] _ (hS.row_rd 2 rfl) (by omega)) ?_
          rintro v w ⟨rfl, rfl⟩
          refine valP_ok (ne3 _ _ _ _ _) ?_
          first | refine pick_dt (by first | assumption | omega) ?_ | refine pick_df (by first | assumption | omega) ?_ | refine pick_t (by first | rfl | assumption) ?_ | refine pick_f (by first | rfl | assumption) ?_ | refine pick_dt rfl ?_ | refine pick_df (not_not_intro rfl) ?_
          first | refine pick_dt (by first | assumption | omega) ?_ | refine pick_df (by first | assumption | omega) ?_ | refine pick_t (by first | rfl | assumption) ?_ | refine pick_f (by first | rfl | assumption) ?_ | refine pick_dt rfl ?_ | refine pick_df (not_not_intro rfl) ?_
          exact fin2 _ (decide_eq_false (not_not_intro t2))
        · first | refine pick_dt (by first | assumption | omega) ?_ | refine pick_df (by first | assumption | omega) ?_ | refine pick_t (by first | rfl | assumption) ?_ | refine pick_f (by first | rfl | assumption) ?_ | refine pick_dt rfl ?_ | refine pick_df (not_not_intro rfl) ?_
          exact fin2 _ rfl
      have hc3 := hS.row_cell 1 rfl (ints_get hlh)
      have hc4 := hS.row_cell 0 rfl (ints_get hlw)
      unfold m3_15
      refine builtinQ_ok (len28) ?_
      refine valQ_ok (eq3 _ _ _ _) ?_
      refine cond_split (fun hM => ?_) (fun hM => ?_)
      · have hz := hinv2.full.none (by omega)
        have z1 := hz.1 _ (List.getElem_mem hlh)
        have z2 := hz.2 _ (List.getElem_mem hlw)
        first | refine valQ_ok (ixz28 (by first | assumption | omega)) ?_ | refine valQ_ok (ix28 (by first | assumption | omega)) ?_
        first | refine valQ_load ld3 (hS.cell 0 rfl rfl) ?_ | refine valQ_load ld3 (hS.cell 1 rfl rfl) ?_ | refine valQ_load ld3 (hS.cell 2 rfl rfl) ?_ | refine valQ_load ld3 (hS.cell 3 rfl rfl) ?_ | refine valQ_load ld3 (hS.cell 4 rfl rfl) ?_ | refine valQ_load ld3 (by assumption) ?_
        first | refine valQ_ok (ixz28 (by first | assumption | omega)) ?_ | refine valQ_ok (ix28 (by first | assumption | omega)) ?_
        first | refine valQ_load ld3 (hS.cell 0 rfl rfl) ?_ | refine valQ_load ld3 (hS.cell 1 rfl rfl) ?_ | refine valQ_load ld3 (hS.cell 2 rfl rfl) ?_ | refine valQ_load ld3 (hS.cell 3 rfl rfl) ?_ | refine valQ_load ld3 (hS.cell 4 rfl rfl) ?_ | refine valQ_load ld3 (by assumption) ?_
        refine valQ_ok (add_ok _ _ _ (by omega) (by omega)) ?_
        refine valQ_ok (ne3 _ _ _ _) ?_
        first | refine pick_dt (by first | assumption | omega) ?_ | refine pick_df (by first | assumption | omega) ?_ | refine pick_t (by first | rfl | assumption) ?_ | refine pick_f (by first | rfl | assumption) ?_ | refine pick_dt rfl ?_ | refine pick_df (not_not_intro rfl) ?_
        refine drawn_ok hS ?_
        intro w hS
        exact fin _ _ _ _ (decide_eq_false (by omega)) hS (fun w' hS => ⟨⟨p + 1, rfl, by omega, hS⟩, by simp [intOf]; omega⟩) _
      · first | refine pick_dt (by first | assumption | omega) ?_ | refine pick_df (by first | assumption | omega) ?_ | refine pick_t (by first | rfl | assumption) ?_ | refine pick_f (by first | rfl | assumption) ?_ | refine pick_dt rfl ?_ | refine pick_df (not_not_intro rfl) ?_
        refine drawn_ok hS ?_
        intro w hS
        exact fin _ _ _ _ rfl hS (fun w' hS => ⟨⟨p + 1, rfl, by omega, hS⟩, by simp [intOf]; omega⟩) _
    · unfold m3_10
      refine valP_ok (add_ok _ _ _ (by omega) (by omega) _) ?_
      exact ⟨⟨i + 1, s2, X2, rfl, by omega, hinv2, hS.pick 8 [3, 4, 5, 6, 7] (by simp) (by decide)⟩, by simp [intOf]; omega⟩
  · unfold m3_5
    refine callR (by kernel_rfl) (cawake_ret hS) ?_
    rintro v w4 ⟨rfl, hS⟩
    unfold m3_6
    exact ⟨rfl, hS.below⟩

end Go.Proofs.Ytjjmlopmemmobaa.M
