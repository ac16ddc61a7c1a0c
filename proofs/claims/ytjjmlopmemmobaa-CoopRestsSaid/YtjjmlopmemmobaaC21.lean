/- When all have given up what they have to, in whatever order, it rests: the walk. -/
import Derived.Test.YtjjmlopmemmobaaC20
namespace Go.Proofs.Ytjjmlopmemmobaa.M
open Go.Proofs.Ytjjmlopmemmobaa.F Go.RowKit
set_option linter.unusedVariables false
set_option linter.unusedSimpArgs false
set_option maxRecDepth 100000
set_option maxHeartbeats 2000000
attribute [local irreducible] Res.cells Res.row Res.map Res.any World.cell? World.frozen? Instr.fieldAt Instr.loadAt Instr.storeAt Instr.indexAt Instr.lookup Instr.mapUpdate Instr.box Instr.build Instr.buildSlice Instr.extract Instr.alloc Instr.field Instr.index Instr.sliceAt Instr.makeSlice Instr.makeMap Instr.makeFunc binS Op.unary Sem.run
open Go.Proofs.Ytjjmlopmemmobaa.L Go.Shelf
theorem revL_len (s : CS) (m : Int) : (revL s m).length ≤ s.H.length := by
  unfold revL
  split
  · exact revN_len _ _ _ _
  · simp
theorem crests_ret {w0 : World} {A : Option Addr} {c : Nat} {l : List Dd} {parts : Int} {back : Bool} (hp : -9223372036854775808 ≤ parts) (hp' : parts ≤ 9223372036854775807) (hl : Rd w0 5 A l.length (l.flatMap encD)) (hc : l.length ≤ c) (hok : ∀ x ∈ l, DOk w0 x) :
    Ret Try.prog 6 #[.int .i64 parts, .slice A l.length c, .bool back] w0 fun v w' => v = .bool true ∧ Below w0.heap.size w0 w' := by
  have hS := St.start w0
  have hn := ofN_le parts
  refine s6 _ _ _ ?_
  unfold m6 m6_0
  unfold m6_1
  refine callR (by kernel_rfl) (of_ret hp hp' hS) ?_
  rintro v w1 ⟨b, X, rfl, hS⟩
  unfold m6_2
  first | refine valP_ok (eq23n _ _ _) ?_ | refine valP_ok (eq23s _ _ _ _) ?_
  unfold m6_51
  refine cond_f rfl ?_
  unfold m6_3
  refine callR (by kernel_rfl) (dsome_ret hl hc hok hS) ?_
  rintro v w2 ⟨A1, c1, rfl, hS⟩
  obtain ⟨hll, hlx⟩ := cut_facts hok
  generalize (l.take 100).map cutD = ls at *
  unfold m6_4
  unfold m6_46
  refine loop_in (fun u w' => ∃ (i : Nat) (s : CS) (X : CA), u = .int .i64 i ∧ i ≤ ls.length ∧ CInv s i ∧ St w0 [] w' (coopL 94 b s X ++ [drow (.slice A1 ls.length c1) ls])) (fun u _ => ls.length - (intOf u).toNat) ⟨0, _, X, rfl, by omega, new_inv hn, hS.pick 5 [1, 2, 3, 4, 0] (by simp) (by decide)⟩ ?_
  clear hS
  rintro u w3 ⟨i, s, X, rfl, hi, hinv, hS⟩
  unfold m6_47
  refine builtin_ok (len22 _) ?_
  refine valP_ok (lss_ok _ _ _ _ _ _ _) ?_
  unfold m6_50
  refine cond_split (fun h => ?_) (fun h => ?_)
  · have hlt : i < ls.length := by omega
    obtain ⟨g, rfl⟩ := hS.row_ptr 4 rfl (by omega)
    have h0 := hS.row_struct 4 encD_len rfl hlt (j := 0) (by omega) rfl
    have h1 := hS.row_struct 4 encD_len rfl hlt (j := 1) (by omega) rfl
    have h2 := hS.row_struct 4 encD_len rfl hlt (j := 2) (by omega) rfl
    have h3 := hS.row_struct 4 encD_len rfl hlt (j := 3) (by omega) rfl
    have h4 := hS.row_struct 4 encD_len rfl hlt (j := 4) (by omega) rfl
    obtain ⟨hx, hx12⟩ := hlx _ (List.getElem_mem hlt)
    generalize ls[i] = x at *
    unfold m6_48
    first | refine valP_ok (ixz22 (by first | assumption | omega) _) ?_ | refine valP_ok (ix22 (by first | assumption | omega) _) ?_
    first | refine ls30 0 hS rfl ?_ | refine ls30 1 hS rfl ?_ | refine ls30 2 hS rfl ?_ | refine ls30 3 hS rfl ?_ | refine ls30 4 hS rfl ?_ | refine valP_ok (ld30 (by assumption) (by assumption) (by assumption) (by assumption) (by assumption)) ?_
    refine callR (by kernel_rfl) (aimed_ret hinv.pre hx hS) ?_
    rintro v w ⟨rfl, hS⟩
    obtain ⟨ha1, ha2⟩ := aimD_ok hinv.pre hx
    refine callR (by kernel_rfl) (does_ret hinv.pre ha1 (by rw [ha2]; omega) hS) ?_
    rintro v w ⟨rfl, X2, hS⟩
    unfold m6_49
    refine valP_ok (add_ok _ _ _ (by omega) (by omega) _) ?_
    exact ⟨⟨i + 1, _, X2, rfl, by omega, deed_inv (x := aimD s x) hinv (by omega), hS⟩, by simp [intOf]; omega⟩
  have hpre := hinv.pre
  have hM8 := hpre.len
  have hpp := hpre.parts
  have hsame := hpre.same
  unfold m6_5
  refine callR (by kernel_rfl) (members_clone (by omega) hS) ?_
  rintro v w ⟨A2, c2, rfl, hS⟩
  have hS : St w0 [] w (coopL 94 b s X ++ [irow (.slice A2 s.M.length c2) s.M]) := hS.pick 6 [1, 2, 3, 4, 0] (by simp) (by decide)
  unfold m6_6
  refine callR (by kernel_rfl) (gen_ret hS) ?_
  rintro v w ⟨rfl, rfl⟩
  unfold m6_7
  unfold m6_27
  refine loop_in (fun u w' => ∃ (i2 : Nat) (s2 : CS) (X2 : CA), u = .int .i64 i2 ∧ i2 ≤ s.M.length ∧ GaveUp s s2 i (doneN s back i2) ∧ St w0 [] w' (coopL 94 b s2 X2 ++ [irow (.slice A2 s.M.length c2) s.M])) (fun u _ => s.M.length - (intOf u).toNat)
    ⟨0, s, X, rfl, by omega, ⟨hinv, rfl, rfl, rfl, rfl, fun p hp => by simp [doneN]⟩, hS⟩ ?_
  clear hS
  rintro u w4 ⟨i2, s2, X2, rfl, hi2, hgu, hS⟩
  have hpre2 := hgu.inv.pre
  unfold m6_28
  refine builtin_ok (len28 _) ?_
  refine valP_ok (lss_ok _ _ _ _ _ _ _) ?_
  unfold m6_45
  refine cond_split (fun h2 => ?_) (fun h2 => ?_)
  · have hi2l : i2 < s.M.length := by omega
    have hol : ordN back s.M.length i2 < s.M.length := by unfold ordN; split <;> omega
    obtain ⟨g, rfl⟩ := hS.row_ptr 4 rfl (by omega)
    have go : ∀ R (K1 : Value → World → Prop), (∀ (s3 : CS) (X3 : CA) w', GaveUp s s3 i (doneN s back (i2 + 1)) → St w0 [] w' (coopL 94 b s3 X3 ++ [irow (.slice (some ⟨g, 0, none⟩) s.M.length c2) s.M]) → K1 (.int .i64 ((i2 + 1 : Nat) : Int)) w') →
        m6_32 R K1 (.bool back) (.pointer (some ⟨b, 0, none⟩)) (.slice (some ⟨g, 0, none⟩) s.M.length c2) (.int .i64 s.g) (.int .i64 i2) (.int .i64 ((ordN back s.M.length i2 : Nat) : Int)) w4 := fun R K1 hK => by
      have hcm := hS.row_cell 4 rfl (ints_get hol)
      have hmm : s.M[ordN back s.M.length i2] ∈ s.M := List.getElem_mem hol
      have hge : s.M[ordN back s.M.length i2]! = s.M[ordN back s.M.length i2] := getElem!_pos s.M _ hol
      unfold m6_32
      first | refine valP_ok (ixz28 (by first | assumption | omega) _) ?_ | refine valP_ok (ix28 (by first | assumption | omega) _) ?_
      first | refine valP_ok (ld3 (hS.cell 0 rfl rfl)) ?_ | refine valP_ok (ld3 (hS.cell 1 rfl rfl)) ?_ | refine valP_ok (ld3 (hS.cell 2 rfl rfl)) ?_ | refine valP_ok (ld3 (hS.cell 3 rfl rfl)) ?_ | refine valP_ok (ld3 (hS.cell 4 rfl rfl)) ?_ | refine valP_ok (ld3 (by assumption)) ?_
      refine callR (by kernel_rfl) (revoke_ret _ hpre2 hS) ?_
      rintro v w ⟨A3, c3, rfl, hS⟩
      refine valP_ok (extract_ok _ 0 rfl _) ?_
      refine valP_ok (extract_ok _ 1 rfl _) ?_
      have hmm2 : s.M[ordN back s.M.length i2] ∈ s2.M := by rw [hgu.M]; exact hmm
      rw [if_pos hmm2]
      have hS : St w0 [] w (coopL 94 b s2 X2 ++ [irow (.slice A3 (revL s2 s.M[ordN back s.M.length i2]).length c3) (revL s2 s.M[ordN back s.M.length i2]), irow (.slice (some ⟨g, 0, none⟩) s.M.length c2) s.M]) := hS.pick 6 [1, 2, 3, 4, 0, 5] (by simp) (by decide)
      have hrl := revL_len s2 s.M[ordN back s.M.length i2]
      have hp16 := hpre2.parts
      unfold m6_33
      refine valP_ok (ne26 _ _ _ _ _) ?_
      unfold m6_42
      refine cond_df (not_not_intro rfl) ?_
      unfold m6_34
      unfold m6_35
      have hnext := fun s' h' => GaveUp.next (s' := s') hinv hi2l hgu h'
      rw [hge] at hnext
      have hgive := fun j s' hj h' => GaveUp.give (s' := s') (j := j) hinv hmm hgu hj h'
      refine loop_in (fun u w' => ∃ (j : Nat) (s3 : CS) (X3 : CA), u = .int .i64 j ∧ j ≤ (revL s2 s.M[ordN back s.M.length i2]).length ∧ GaveUp s s3 i (fun p => doneN s back i2 p || decide ((p : Int) ∈ (revL s2 s.M[ordN back s.M.length i2]).take j)) ∧ St w0 [] w' (coopL 94 b s3 X3 ++ [irow (.slice A3 (revL s2 s.M[ordN back s.M.length i2]).length c3) (revL s2 s.M[ordN back s.M.length i2]), irow (.slice (some ⟨g, 0, none⟩) s.M.length c2) s.M])) (fun u _ => (revL s2 s.M[ordN back s.M.length i2]).length - (intOf u).toNat)
        ⟨0, s2, X2, rfl, by omega, by simpa using hgu, hS⟩ ?_
      clear hS hcm
      rintro u w5 ⟨j, s3, X3, rfl, hj, hg3, hS⟩
      unfold m6_36
      refine builtin_ok (len28 _) ?_
      refine valP_ok (lss_ok _ _ _ _ _ _ _) ?_
      unfold m6_41
      refine cond_split (fun h3 => ?_) (fun h3 => ?_)
      · have hjl : j < (revL s2 s.M[ordN back s.M.length i2]).length := by omega
        obtain ⟨s4, hd4, hg4⟩ := hgive j s3 hjl hg3
        obtain ⟨g3, rfl⟩ := hS.row_ptr 4 rfl (by omega)
        unfold m6_37
        refine drawn_ok hS ?_
        intro w hS
        have hcm := hS.row_cell 5 rfl (ints_get hol)
        have hcg := hS.row_cell 4 rfl (ints_get hjl)
        first | refine valS_ok (ixz28 (by first | assumption | omega) _) ?_ | refine valS_ok (ix28 (by first | assumption | omega) _) ?_
        first | refine valS_ok (ld3 (hS.cell 0 rfl rfl)) ?_ | refine valS_ok (ld3 (hS.cell 1 rfl rfl)) ?_ | refine valS_ok (ld3 (hS.cell 2 rfl rfl)) ?_ | refine valS_ok (ld3 (hS.cell 3 rfl rfl)) ?_ | refine valS_ok (ld3 (hS.cell 4 rfl rfl)) ?_ | refine valS_ok (ld3 (by assumption)) ?_
        first | refine valS_ok (ixz28 (by first | assumption | omega) _) ?_ | refine valS_ok (ix28 (by first | assumption | omega) _) ?_
        first | refine valS_ok (ld3 (hS.cell 0 rfl rfl)) ?_ | refine valS_ok (ld3 (hS.cell 1 rfl rfl)) ?_ | refine valS_ok (ld3 (hS.cell 2 rfl rfl)) ?_ | refine valS_ok (ld3 (hS.cell 3 rfl rfl)) ?_ | refine valS_ok (ld3 (hS.cell 4 rfl rfl)) ?_ | refine valS_ok (ld3 (by assumption)) ?_
        refine callR (by kernel_rfl) (done_ret _ _ hg3.inv.pre hS) ?_
        rintro v w ⟨rfl, X4, hS⟩
        rw [hd4] at hS ⊢
        refine valP_ok (ne26 _ _ _ _ _) ?_
        unfold m6_39
        refine cond_df (not_not_intro rfl) ?_
        unfold m6_38
        refine valP_ok (add_ok _ _ _ (by omega) (by omega) _) ?_
        exact ⟨⟨j + 1, s4, X4, rfl, by omega, hg4, hS⟩, by simp [intOf]; omega⟩
      · have hje : j = (revL s2 s.M[ordN back s.M.length i2]).length := by omega
        rw [hje, List.take_length] at hg3
        unfold m6_30
        refine valP_ok (add_ok _ _ _ (by omega) (by omega) _) ?_
        exact hK s3 X3 _ (hnext s3 hg3) (hS.pick 6 [0, 1, 2, 3, 5] (by simp) (by decide))
    unfold m6_29
    unfold m6_31
    unfold m6_44
    refine cond_bsplit (fun hb => ?_) (fun hb => ?_)
    · refine builtin_ok (len28 _) ?_
      refine valP_ok (sub_ok _ _ _ (by omega) (by omega) _) ?_
      refine valP_ok (sub_ok _ _ _ (by omega) (by omega) _) ?_
      have e : (s.M.length : Int) - 1 - (i2 : Int) = ((ordN back s.M.length i2 : Nat) : Int) := by unfold ordN; rw [hb]; simp only [if_true]; omega
      rw [e]
      exact go _ _ (fun s3 X3 w' h1 hS => ⟨⟨i2 + 1, s3, X3, rfl, by omega, h1, hS⟩, by simp [intOf]; omega⟩)
    · have e : (i2 : Int) = ((ordN back s.M.length i2 : Nat) : Int) := by unfold ordN; rw [hb]; simp
      have hgo := go
      rw [← e] at hgo
      exact hgo _ _ (fun s3 X3 w' h1 hS => ⟨⟨i2 + 1, s3, X3, rfl, by omega, h1, hS⟩, by simp [intOf]; omega⟩)
  have hie : i2 = s.M.length := by omega
  subst hie
  have hrest := hgu.rests hinv
  have hM2 := hgu.M
  have hl2 := hgu.len
  have hfair := hgu.inv.full
  have hM8' := hpre2.len
  have hpp2 := hpre2.parts
  unfold m6_8
  refine callR (by kernel_rfl) (rests_ret (by omega) hS) ?_
  rintro v w ⟨rfl, hS⟩
  rw [decide_eq_true hrest]
  first | refine valP_ok (not_ok _ _) ?_ | refine valP_ok (notb_ok _ _) ?_
  refine cond_f rfl ?_
  refine callR (by kernel_rfl) (gen_ret hS) ?_
  rintro v w ⟨rfl, rfl⟩
  rw [hgu.g]
  refine valP_ok (ne3 _ _ _ _ _) ?_
  first | refine pick_dt (by first | assumption | omega) ?_ | refine pick_df (by first | assumption | omega) ?_ | refine pick_t (by first | rfl | assumption) ?_ | refine pick_f (by first | rfl | assumption) ?_ | refine pick_dt rfl ?_ | refine pick_df (not_not_intro rfl) ?_
  refine cond_df (not_not_intro rfl) ?_
  refine callR (by kernel_rfl) (have_clone (by omega) hS) ?_
  rintro v w ⟨A3, c3, rfl, hS⟩
  have hS := hS.pick 5 [1, 2, 3, 4, 0] (by simp) (by decide)
  refine callR (by kernel_rfl) (want_clone (s := s2) (X := X2) (L := irow (.slice A3 s2.H.length c3) s2.H :: [irow (.slice A2 s.M.length c2) s.M]) (by rw [← hrest]; omega) hS) ?_
  rintro v w ⟨A4, c4, rfl, hS⟩
  refine callR (by kernel_rfl) (same_ret (a := s2.H) (b := s2.W) (by omega) hS (Bes.of_row 5 rfl) (Bes.of_row 0 rfl)) ?_
  rintro v w ⟨rfl, hS⟩
  rw [decide_eq_true hrest]
  first | refine valP_ok (not_ok _ _) ?_ | refine valP_ok (notb_ok _ _) ?_
  first | refine pick_dt (by first | assumption | omega) ?_ | refine pick_df (by first | assumption | omega) ?_ | refine pick_t (by first | rfl | assumption) ?_ | refine pick_f (by first | rfl | assumption) ?_ | refine pick_dt rfl ?_ | refine pick_df (not_not_intro rfl) ?_
  unfold m6_25
  refine cond_f rfl ?_
  have hS : St w0 [] w (coopL 94 b s2 X2 ++ [irow (.slice A2 s.M.length c2) s.M]) := hS.pick 7 [1, 2, 3, 4, 6] (by simp) (by decide)
  unfold m6_9
  refine callR (by kernel_rfl) (have_clone (by omega) hS) ?_
  rintro v w ⟨A5, c5, rfl, hS⟩
  have hS : St w0 [] w (coopL 94 b s2 X2 ++ [irow (.slice A5 s2.H.length c5) s2.H, irow (.slice A2 s.M.length c2) s.M]) := hS.pick 6 [1, 2, 3, 4, 0, 5] (by simp) (by decide)
  unfold m6_10
  unfold m6_13
  refine loop_in (fun u w' => ∃ (q : Nat), u = .int .i64 q ∧ q ≤ s.M.length ∧ St w0 [] w' (coopL 94 b s2 X2 ++ [irow (.slice A5 s2.H.length c5) s2.H, irow (.slice A2 s.M.length c2) s.M])) (fun u _ => s.M.length - (intOf u).toNat) ⟨0, rfl, by omega, hS⟩ ?_
  clear hS
  rintro u w6 ⟨q, rfl, hq, hS⟩
  unfold m6_14
  refine builtin_ok (len28 _) ?_
  refine valP_ok (lss_ok _ _ _ _ _ _ _) ?_
  unfold m6_24
  refine cond_split (fun h3 => ?_) (fun h3 => ?_)
  · have hql : q < s.M.length := by omega
    obtain ⟨g, rfl⟩ := hS.row_ptr 5 rfl (by omega)
    have hcm := hS.row_cell 5 rfl (ints_get hql)
    have hmm2 : s.M[q] ∈ s2.M := by rw [hM2]; exact List.getElem_mem hql
    have hf := (hfair.some (List.length_pos_of_mem hmm2)).2
    rw [← hrest] at hf
    have hlo := hf.lo _ hmm2
    have hhi := hf.hi _ hmm2
    have eb : baseI (s2.H.length : Int) s2.M = (s2.H.length : Int) / (s.M.length : Int) := by unfold baseI; rw [if_neg (by rw [hM2]; omega), hM2]
    have hnum := share_nums (M := s2.M) hpre2.bad
    unfold m6_15
    first | refine valP_ok (ixz28 (by first | assumption | omega) _) ?_ | refine valP_ok (ix28 (by first | assumption | omega) _) ?_
    first | refine valP_ok (ld3 (hS.cell 0 rfl rfl)) ?_ | refine valP_ok (ld3 (hS.cell 1 rfl rfl)) ?_ | refine valP_ok (ld3 (hS.cell 2 rfl rfl)) ?_ | refine valP_ok (ld3 (hS.cell 3 rfl rfl)) ?_ | refine valP_ok (ld3 (hS.cell 4 rfl rfl)) ?_ | refine valP_ok (ld3 (by assumption)) ?_
    refine callR (by kernel_rfl) (count_ret A5 c5 s2.H s.M[q] _ (hS.row_rd 4 rfl) (by omega)) ?_
    rintro v w ⟨rfl, rfl⟩
    have fin : ∀ (t : Bool) R (K1 : Value → World → Prop), t = false → (∀ w', St w0 [] w' (coopL 94 b s2 X2 ++ [irow (.slice A5 s2.H.length c5) s2.H, irow (.slice (some ⟨g, 0, none⟩) s.M.length c2) s.M]) → K1 (.int .i64 ((q + 1 : Nat) : Int)) w') →
        m6_22 R K1 (.pointer (some ⟨b, 0, none⟩)) (.slice (some ⟨g, 0, none⟩) s.M.length c2) (.slice A5 s2.H.length c5) (.int .i64 q) (.bool t) w := fun t R K1 ht hK => by
      unfold m6_22
      refine cond_f ht ?_
      unfold m6_18
      first | refine valP_ok (ixz28 (by first | assumption | omega) _) ?_ | refine valP_ok (ix28 (by first | assumption | omega) _) ?_
      first | refine valP_ok (ld3 (hS.cell 0 rfl rfl)) ?_ | refine valP_ok (ld3 (hS.cell 1 rfl rfl)) ?_ | refine valP_ok (ld3 (hS.cell 2 rfl rfl)) ?_ | refine valP_ok (ld3 (hS.cell 3 rfl rfl)) ?_ | refine valP_ok (ld3 (hS.cell 4 rfl rfl)) ?_ | refine valP_ok (ld3 (by assumption)) ?_
      refine callR (by kernel_rfl) (revoke_ret _ hpre2 hS) ?_
      rintro v w ⟨A6, c6, rfl, hS⟩
      refine valP_ok (extract_ok _ 0 rfl _) ?_
      refine valP_ok (extract_ok _ 1 rfl _) ?_
      have hrv : revL s2 s.M[q] = [] := by
        unfold revL
        rw [if_pos hmm2]
        refine List.eq_nil_iff_forall_not_mem.2 fun x hx => ?_
        obtain ⟨p, _, _, z1, z2⟩ := (revN_mem _ (Nat.le_refl _) (by rw [hrest]; exact Nat.le_refl _) _).1 hx
        rw [hrest] at z1
        exact z2 z1
      rw [hrv]
      unfold m6_19
      refine builtin_ok (len28 _) ?_
      refine valP_ok (gtr_ok _ _ _ _ _ _ _) ?_
      unfold m6_20
      refine cond_df (by simp) ?_
      unfold m6_16
      refine valP_ok (add_ok _ _ _ (by omega) (by omega) _) ?_
      exact hK _ hS.tail
    unfold m6_17
    refine builtin_ok (len28 _) ?_
    refine builtin_ok (len28 _) ?_
    refine valP_ok (quo_ok _ _ _ (by omega) (by omega) (by omega) _) ?_
    rw [← eb]
    refine valP_ok (ne3 _ _ _ _ _) ?_
    refine cond_split (fun h4 => ?_) (fun h4 => ?_)
    · refine builtin_ok (len28 _) ?_
      refine builtin_ok (len28 _) ?_
      refine valP_ok (quo_ok _ _ _ (by omega) (by omega) (by omega) _) ?_
      rw [← eb]
      refine valP_ok (add_ok _ _ _ (by omega) (by omega) _) ?_
      refine valP_ok (ne3 _ _ _ _ _) ?_
      first | refine pick_dt (by first | assumption | omega) ?_ | refine pick_df (by first | assumption | omega) ?_ | refine pick_t (by first | rfl | assumption) ?_ | refine pick_f (by first | rfl | assumption) ?_ | refine pick_dt rfl ?_ | refine pick_df (not_not_intro rfl) ?_
      exact fin _ _ _ (decide_eq_false (by omega)) (fun w' hS => ⟨⟨q + 1, rfl, by omega, hS⟩, by simp [intOf]; omega⟩)
    · first | refine pick_dt (by first | assumption | omega) ?_ | refine pick_df (by first | assumption | omega) ?_ | refine pick_t (by first | rfl | assumption) ?_ | refine pick_f (by first | rfl | assumption) ?_ | refine pick_dt rfl ?_ | refine pick_df (not_not_intro rfl) ?_
      exact fin _ _ _ rfl (fun w' hS => ⟨⟨q + 1, rfl, by omega, hS⟩, by simp [intOf]; omega⟩)
  · unfold m6_11
    refine callR (by kernel_rfl) (cawake_ret hS) ?_
    rintro v w4 ⟨rfl, hS⟩
    unfold m6_12
    exact ⟨rfl, hS.below⟩

end Go.Proofs.Ytjjmlopmemmobaa.M
