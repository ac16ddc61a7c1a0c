/- Whoever joins, leaves and gives up, each answer is the document's. -/
import Derived.Test.YtjjmlopmemmobaaC16
import Derived.Test.YtjjmlopmemmobaaMlc0
namespace Go.Proofs.Ytjjmlopmemmobaa.M
open Go.Proofs.Ytjjmlopmemmobaa.F Go.RowKit
set_option linter.unusedVariables false
set_option linter.unusedSimpArgs false
set_option maxRecDepth 100000
set_option maxHeartbeats 2000000
attribute [local irreducible] Res.cells Res.row Res.map Res.any World.cell? World.frozen? Instr.fieldAt Instr.loadAt Instr.storeAt Instr.indexAt Instr.lookup Instr.mapUpdate Instr.box Instr.build Instr.buildSlice Instr.extract Instr.alloc Instr.field Instr.index Instr.sliceAt Instr.makeSlice Instr.makeMap Instr.makeFunc binS Op.unary Sem.run
open Go.Proofs.Ytjjmlopmemmobaa.L Go.Shelf
abbrev pairL (b b2 : Nat) (s : CS) (X Y : CA) (dr : Res) : List Res := coopL 94 b s X ++ (coopL 55 b2 s Y ++ [dr])
theorem alike_ok {w0 w : World} {b b2 i : Nat} {s : CS} {X Y : CA} {dr : Res} {R K1 : Value → World → Prop} {l1 : Value} {n : Nat} (hinv : CInv s n) (hi : i ≤ 1000) (hS : St w0 [] w (pairL b b2 s X Y dr)) (hK : ∀ w', St w0 [] w' (pairL b b2 s X Y dr) → K1 (.int .i64 ((i + 1 : Nat) : Int)) w') :
    m5_14 R K1 l1 (.pointer (some ⟨b, 0, none⟩)) (.pointer (some ⟨b2, 0, none⟩)) (.int .i64 i) w := by
  have hpre := hinv.pre
  have hM8 := hpre.len
  have hpp := hpre.parts
  have hsame := hpre.same
  unfold m5_14
  refine drawn_ok hS ?_
  intro w hS
  refine held_St [coopC 55 b2 s Y] hS (by simp [pairL]) ?_
  refine nil_ok ?_
  first | refine valJ_ok (fa55_0 _) ?_ | refine valJ_ok (fao55_0 _ _) ?_
  first | refine valJ_load ld3 (AllH.cell 0 rfl rfl) ?_ | refine valJ_load ld3 (AllH.cell 1 rfl rfl) ?_ | refine valJ_load ld3 (AllH.cell 2 rfl rfl) ?_ | refine valJ_load ld3 (AllH.cell 3 rfl rfl) ?_ | refine valJ_load ld3 (AllH.cell 4 rfl rfl) ?_ | refine valJ_load ld3 (by assumption) ?_
  refine callR (by kernel_rfl) (gen_ret hS) ?_
  rintro v w ⟨rfl, rfl⟩
  refine stay_St hS (by simp [pairL]) ?_
  refine valJ_ok (ne3 _ _ _ _) ?_
  refine cond_df (not_not_intro rfl) ?_
  refine nil_ok ?_
  first | refine valJ_ok (fa55_1 _) ?_ | refine valJ_ok (fao55_1 _ _) ?_
  first | refine valJ_load ld28 (AllH.cell 0 rfl rfl) ?_ | refine valJ_load ld28 (AllH.cell 1 rfl rfl) ?_ | refine valJ_load ld28 (AllH.cell 2 rfl rfl) ?_ | refine valJ_load ld28 (AllH.cell 3 rfl rfl) ?_ | refine valJ_load ld28 (AllH.cell 4 rfl rfl) ?_ | refine valJ_load ld28 (by assumption) ?_
  refine callR (by kernel_rfl) (members_clone (by omega) hS) ?_
  rintro v w ⟨A1, c1, rfl, hS⟩
  refine stay_St hS (by simp) ?_
  refine callR (by kernel_rfl) (same_ret (a := s.M) (b := s.M) (by omega) hS (Bes.of_row 0 rfl) (Bes.of_row 6 rfl)) ?_
  rintro v w ⟨rfl, hS⟩
  refine stay_St hS (by simp) ?_
  first | refine valJ_ok (not_ok _) ?_ | refine valJ_ok (notb_ok _) ?_
  first | refine pick_dt (by first | assumption | omega) ?_ | refine pick_df (by first | assumption | omega) ?_ | refine pick_t (by first | rfl | assumption) ?_ | refine pick_f (by first | rfl | assumption) ?_ | refine pick_dt rfl ?_ | refine pick_df (not_not_intro rfl) ?_
  refine cond_df (not_not_intro rfl) ?_
  refine nil_ok ?_
  first | refine valJ_ok (fa55_2 _) ?_ | refine valJ_ok (fao55_2 _ _) ?_
  first | refine valJ_load ld28 (AllH.cell 0 rfl rfl) ?_ | refine valJ_load ld28 (AllH.cell 1 rfl rfl) ?_ | refine valJ_load ld28 (AllH.cell 2 rfl rfl) ?_ | refine valJ_load ld28 (AllH.cell 3 rfl rfl) ?_ | refine valJ_load ld28 (AllH.cell 4 rfl rfl) ?_ | refine valJ_load ld28 (by assumption) ?_
  have hS := hS.pick 5 [1, 2, 3, 4] (by simp) (by decide)
  refine callR (by kernel_rfl) (have_clone (s := s) (X := X) (L := coopL 55 b2 s Y ++ [dr]) (by omega) hS) ?_
  rintro v w ⟨A2, c2, rfl, hS⟩
  refine stay_St hS (by simp) ?_
  refine callR (by kernel_rfl) (same_ret (a := s.H) (b := s.H) (by omega) hS (Bes.of_row 0 rfl) (Bes.of_row 7 rfl)) ?_
  rintro v w ⟨rfl, hS⟩
  refine stay_St hS (by simp) ?_
  first | refine valJ_ok (not_ok _) ?_ | refine valJ_ok (notb_ok _) ?_
  first | refine pick_dt (by first | assumption | omega) ?_ | refine pick_df (by first | assumption | omega) ?_ | refine pick_t (by first | rfl | assumption) ?_ | refine pick_f (by first | rfl | assumption) ?_ | refine pick_dt rfl ?_ | refine pick_df (not_not_intro rfl) ?_
  refine cond_df (not_not_intro rfl) ?_
  refine nil_ok ?_
  first | refine valJ_ok (fa55_3 _) ?_ | refine valJ_ok (fao55_3 _ _) ?_
  first | refine valJ_load ld28 (AllH.cell 0 rfl rfl) ?_ | refine valJ_load ld28 (AllH.cell 1 rfl rfl) ?_ | refine valJ_load ld28 (AllH.cell 2 rfl rfl) ?_ | refine valJ_load ld28 (AllH.cell 3 rfl rfl) ?_ | refine valJ_load ld28 (AllH.cell 4 rfl rfl) ?_ | refine valJ_load ld28 (by assumption) ?_
  have hS := hS.pick 5 [1, 2, 3, 4] (by simp) (by decide)
  refine callR (by kernel_rfl) (want_clone (s := s) (X := X) (L := coopL 55 b2 s Y ++ [dr]) (by omega) hS) ?_
  rintro v w ⟨A3, c3, rfl, hS⟩
  refine stay_St hS (by simp) ?_
  refine callR (by kernel_rfl) (same_ret (a := s.W) (b := s.W) (by omega) hS (Bes.of_row 0 rfl) (Bes.of_row 8 rfl)) ?_
  rintro v w ⟨rfl, hS⟩
  refine stay_St hS (by simp) ?_
  first | refine valJ_ok (not_ok _) ?_ | refine valJ_ok (notb_ok _) ?_
  first | refine pick_dt (by first | assumption | omega) ?_ | refine pick_df (by first | assumption | omega) ?_ | refine pick_t (by first | rfl | assumption) ?_ | refine pick_f (by first | rfl | assumption) ?_ | refine pick_dt rfl ?_ | refine pick_df (not_not_intro rfl) ?_
  refine cond_df (not_not_intro rfl) ?_
  refine nil_ok ?_
  first | refine valJ_ok (fa55_2 _) ?_ | refine valJ_ok (fao55_2 _ _) ?_
  first | refine valJ_load ld28 (AllH.cell 0 rfl rfl) ?_ | refine valJ_load ld28 (AllH.cell 1 rfl rfl) ?_ | refine valJ_load ld28 (AllH.cell 2 rfl rfl) ?_ | refine valJ_load ld28 (AllH.cell 3 rfl rfl) ?_ | refine valJ_load ld28 (AllH.cell 4 rfl rfl) ?_ | refine valJ_load ld28 (by assumption) ?_
  refine nil_ok ?_
  first | refine valJ_ok (fa55_3 _) ?_ | refine valJ_ok (fao55_3 _ _) ?_
  first | refine valJ_load ld28 (AllH.cell 0 rfl rfl) ?_ | refine valJ_load ld28 (AllH.cell 1 rfl rfl) ?_ | refine valJ_load ld28 (AllH.cell 2 rfl rfl) ?_ | refine valJ_load ld28 (AllH.cell 3 rfl rfl) ?_ | refine valJ_load ld28 (AllH.cell 4 rfl rfl) ?_ | refine valJ_load ld28 (by assumption) ?_
  have hS := hS.pick 5 [1, 2, 3, 4] (by simp) (by decide)
  refine callR (by kernel_rfl) (rests_ret (s := s) (X := X) (L := coopL 55 b2 s Y ++ [dr]) (by omega) hS) ?_
  rintro v w ⟨rfl, hS⟩
  refine stay_St hS (by simp) ?_
  refine callR (by kernel_rfl) (same_ret (a := s.H) (b := s.W) (by omega) hS (Bes.of_row 6 rfl) (Bes.of_row 7 rfl)) ?_
  rintro v w ⟨rfl, hS⟩
  refine stay_St hS (by simp) ?_
  refine valJ_ok (ne4 _ _ _ _) ?_
  refine pick_df (not_not_intro rfl) ?_
  unfold m5_15
  refine cond_df (not_not_intro rfl) ?_
  unfold m5_12
  refine valP_ok (add_ok _ _ _ (by omega) (by omega) _) ?_
  exact hK _ hS
theorem cplays_ret {w0 : World} {A : Option Addr} {c : Nat} {l : List Dd} {parts : Int} (hp : -9223372036854775808 ≤ parts) (hp' : parts ≤ 9223372036854775807) (hl : Rd w0 5 A l.length (l.flatMap encD)) (hc : l.length ≤ c) (hok : ∀ x ∈ l, DOk w0 x) :
    Ret Try.prog 5 #[.int .i64 parts, .slice A l.length c] w0 fun v w' => v = .bool true ∧ Below w0.heap.size w0 w' := by
  have hS := St.start w0
  refine s5 _ _ ?_
  unfold m5 m5_0
  unfold m5_1
  refine callR (by kernel_rfl) (new_ret hp hp' hS) ?_
  intro v w1 hv
  by_cases hpn : 1 ≤ parts ∧ parts ≤ 16
  case neg =>
    rw [if_neg hpn] at hv
    obtain ⟨rfl, hS⟩ := hv
    refine valP_ok (extract_ok _ 0 rfl _) ?_
    refine valP_ok (extract_ok _ 1 rfl _) ?_
    unfold m5_2
    refine callR (by kernel_rfl) (rnew_ret hp hp' hS) ?_
    intro v w2 hv
    rw [if_neg hpn] at hv
    obtain ⟨rfl, hS⟩ := hv
    refine valP_ok (extract_ok _ 0 rfl _) ?_
    refine valP_ok (extract_ok _ 1 rfl _) ?_
    unfold m5_3
    refine valP_ok (ne3 _ _ _ _ _) ?_
    refine cond_df (not_not_intro rfl) ?_
    first | refine valP_ok (eq23n _ _ _) ?_ | refine valP_ok (eq23s _ _ _ _) ?_
    refine valP_ok (ne3 _ _ _ _ _) ?_
    refine valP_ok (ne4 _ _ _ _ _) ?_
    first | refine pick_dt (by first | assumption | omega) ?_ | refine pick_df (by first | assumption | omega) ?_ | refine pick_t (by first | rfl | assumption) ?_ | refine pick_f (by first | rfl | assumption) ?_ | refine pick_dt rfl ?_ | refine pick_df (not_not_intro rfl) ?_
    unfold m5_35
    refine cond_f (by decide) ?_
    unfold m5_4
    first | refine valP_ok (eq23n _ _ _) ?_ | refine valP_ok (eq23s _ _ _ _) ?_
    unfold m5_33
    refine cond_t rfl ?_
    refine callR (by kernel_rfl) (cawake_ret hS) ?_
    rintro v w4 ⟨rfl, hS⟩
    unfold m5_34
    exact ⟨rfl, hS.below⟩
  rw [if_pos hpn] at hv
  obtain ⟨b, X, rfl, hS⟩ := hv
  refine valP_ok (extract_ok _ 0 rfl _) ?_
  refine valP_ok (extract_ok _ 1 rfl _) ?_
  unfold m5_2
  refine callR (by kernel_rfl) (rnew_ret hp hp' hS) ?_
  intro v w2 hv
  rw [if_pos hpn] at hv
  obtain ⟨b2, Y, rfl, hS⟩ := hv
  refine valP_ok (extract_ok _ 0 rfl _) ?_
  refine valP_ok (extract_ok _ 1 rfl _) ?_
  unfold m5_3
  refine valP_ok (ne3 _ _ _ _ _) ?_
  refine cond_df (not_not_intro rfl) ?_
  first | refine valP_ok (eq23n _ _ _) ?_ | refine valP_ok (eq23s _ _ _ _) ?_
  refine valP_ok (ne3 _ _ _ _ _) ?_
  refine valP_ok (ne4 _ _ _ _ _) ?_
  first | refine pick_dt (by first | assumption | omega) ?_ | refine pick_df (by first | assumption | omega) ?_ | refine pick_t (by first | rfl | assumption) ?_ | refine pick_f (by first | rfl | assumption) ?_ | refine pick_dt rfl ?_ | refine pick_df (not_not_intro rfl) ?_
  unfold m5_35
  refine cond_f (by decide) ?_
  unfold m5_4
  first | refine valP_ok (eq23n _ _ _) ?_ | refine valP_ok (eq23s _ _ _ _) ?_
  unfold m5_33
  refine cond_f rfl ?_
  unfold m5_5
  refine callR (by kernel_rfl) (dsome_ret hl hc hok hS) ?_
  rintro v w2 ⟨A1, c1, rfl, hS⟩
  obtain ⟨hll, hlx⟩ := cut_facts hok
  generalize (l.take 100).map cutD = ls at *
  have hn := new_inv (n := parts.toNat) (by omega)
  unfold m5_6
  unfold m5_9
  refine loop_in (fun u w' => ∃ (i : Nat) (s : CS) (X Y : CA), u = .int .i64 i ∧ i ≤ ls.length ∧ CInv s i ∧ St w0 [] w' (pairL b b2 s X Y (drow (.slice A1 ls.length c1) ls))) (fun u _ => ls.length - (intOf u).toNat) ⟨0, _, X, Y, rfl, by omega, hn, hS.pick 9 [5, 6, 7, 8, 1, 2, 3, 4, 0] (by simp) (by decide)⟩ ?_
  clear hS hn
  rintro u w3 ⟨i, s, X, Y, rfl, hi, hinv, hS⟩
  unfold m5_10
  refine builtin_ok (len22 _) ?_
  refine valP_ok (lss_ok _ _ _ _ _ _ _) ?_
  unfold m5_32
  refine cond_split (fun h => ?_) (fun h => ?_)
  · have hlt : i < ls.length := by omega
    obtain ⟨g, rfl⟩ := hS.row_ptr 8 rfl (by omega)
    have h0 := hS.row_struct 8 encD_len rfl hlt (j := 0) (by omega) rfl
    have h1 := hS.row_struct 8 encD_len rfl hlt (j := 1) (by omega) rfl
    have h2 := hS.row_struct 8 encD_len rfl hlt (j := 2) (by omega) rfl
    have h3 := hS.row_struct 8 encD_len rfl hlt (j := 3) (by omega) rfl
    have h4 := hS.row_struct 8 encD_len rfl hlt (j := 4) (by omega) rfl
    obtain ⟨hx, hx12⟩ := hlx _ (List.getElem_mem hlt)
    have hpre := hinv.pre
    generalize ls[i] = x at *
    unfold m5_11
    first | refine valP_ok (ixz22 (by first | assumption | omega) _) ?_ | refine valP_ok (ix22 (by first | assumption | omega) _) ?_
    first | refine ls30 0 hS rfl ?_ | refine ls30 1 hS rfl ?_ | refine ls30 2 hS rfl ?_ | refine ls30 3 hS rfl ?_ | refine ls30 4 hS rfl ?_ | refine valP_ok (ld30 (by assumption) (by assumption) (by assumption) (by assumption) (by assumption)) ?_
    refine callR (by kernel_rfl) (aimed_ret hinv.pre hx hS) ?_
    rintro v w ⟨rfl, hS⟩
    obtain ⟨ha1, ha2⟩ := aimD_ok hinv.pre hx
    rw [← ha2] at hx12
    generalize aimD s x = x at *
    clear h0 h1 h2 h3 h4 hx ha2
    refine new_ok (al30 _) hS ?_
    intro b10 w hS
    first | refine ss30 0 hS rfl rfl rfl rfl rfl rfl ?_ | refine ss30 1 hS rfl rfl rfl rfl rfl rfl ?_ | refine ss30 2 hS rfl rfl rfl rfl rfl rfl ?_ | refine ss30 3 hS rfl rfl rfl rfl rfl rfl ?_ | refine ss30 4 hS rfl rfl rfl rfl rfl rfl ?_
    intro w hS
    simp only [List.set_cons_zero, List.set_cons_succ] at hS
    have hS : St w0 [] w (coopL 94 b s X ++ Res.cells b10 30 [.int .i64 x.k, .int .i64 x.a, .int .i64 x.p, .bool x.near, .slice x.A x.l.length x.c] :: (coopL 55 b2 s Y ++ [drow (.slice (some ⟨g, 0, none⟩) ls.length c1) ls])) := hS.pick 9 [1, 2, 3, 4, 0, 5, 6, 7, 8] (by simp) (by decide)
    unfold m5_13
    first | refine valP_ok (fa30_0 _ _) ?_ | refine valP_ok (fao30_0 _ _ _) ?_
    first | refine valP_ok (ld3 (hS.cell 0 rfl rfl)) ?_ | refine valP_ok (ld3 (hS.cell 1 rfl rfl)) ?_ | refine valP_ok (ld3 (hS.cell 2 rfl rfl)) ?_ | refine valP_ok (ld3 (hS.cell 3 rfl rfl)) ?_ | refine valP_ok (ld3 (hS.cell 4 rfl rfl)) ?_ | refine valP_ok (ld3 (by assumption)) ?_
    have fin : ∀ (R K1 : Value → World → Prop) (w : World) (s' : CS) (X' Y' : CA), CInv s' (i + 1) → (∀ w', St w0 [] w' (pairL b b2 s' X' Y' (drow (.slice (some ⟨g, 0, none⟩) ls.length c1) ls)) → K1 (.int .i64 ((i + 1 : Nat) : Int)) w') → St w0 [] w (coopL 55 b2 s' Y' ++ (coopL 94 b s' X' ++ [Res.cells b10 30 [.int .i64 x.k, .int .i64 x.a, .int .i64 x.p, .bool x.near, .slice x.A x.l.length x.c], drow (.slice (some ⟨g, 0, none⟩) ls.length c1) ls])) →
        m5_14 R K1 (.slice (some ⟨g, 0, none⟩) ls.length c1) (.pointer (some ⟨b, 0, none⟩)) (.pointer (some ⟨b2, 0, none⟩)) (.int .i64 i) w := fun R K1 w s' X' Y' hi' hK hS => alike_ok hi' (by omega) (hS.pick 10 [4, 5, 6, 7, 0, 1, 2, 3, 9] (by simp) (by decide)) hK
    have swap : ∀ {w : World} {s' : CS} {X' : CA}, St w0 [] w (coopL 94 b s' X' ++ Res.cells b10 30 [.int .i64 x.k, .int .i64 x.a, .int .i64 x.p, .bool x.near, .slice x.A x.l.length x.c] :: (coopL 55 b2 s Y ++ [drow (.slice (some ⟨g, 0, none⟩) ls.length c1) ls])) → St w0 [] w (coopL 55 b2 s Y ++ (coopL 94 b s' X' ++ [Res.cells b10 30 [.int .i64 x.k, .int .i64 x.a, .int .i64 x.p, .bool x.near, .slice x.A x.l.length x.c], drow (.slice (some ⟨g, 0, none⟩) ls.length c1) ls])) := fun hS => hS.pick 10 [5, 6, 7, 8, 0, 1, 2, 3, 4, 9] (by simp) (by decide)
    have join : ∀ (t : Value) (R K1 : Value → World → Prop), t = .bool true → (∀ w' X' Y', St w0 [] w' (pairL b b2 (joinS s x.l).2 X' Y' (drow (.slice (some ⟨g, 0, none⟩) ls.length c1) ls)) → K1 (.int .i64 ((i + 1 : Nat) : Int)) w') → m5_18 R K1 (.slice (some ⟨g, 0, none⟩) ls.length c1) (.pointer (some ⟨b, 0, none⟩)) (.pointer (some ⟨b2, 0, none⟩)) (.int .i64 i) (.pointer (some ⟨b10, 0, none⟩)) (.int .i64 x.k) t w := fun t R K1 ht hK => by
      subst ht
      unfold m5_18
      refine cond_t rfl ?_
      refine drawn_ok hS ?_
      intro w hS
      refine held_St [Res.cells b10 30 [.int .i64 x.k, .int .i64 x.a, .int .i64 x.p, .bool x.near, .slice x.A x.l.length x.c]] hS (by simp) ?_
      first | refine valJ_ok (fa30_4 _) ?_ | refine valJ_ok (fao30_4 _ _) ?_
      first | refine valJ_load ld28 (AllH.cell 0 rfl rfl) ?_ | refine valJ_load ld28 (AllH.cell 1 rfl rfl) ?_ | refine valJ_load ld28 (AllH.cell 2 rfl rfl) ?_ | refine valJ_load ld28 (AllH.cell 3 rfl rfl) ?_ | refine valJ_load ld28 (AllH.cell 4 rfl rfl) ?_ | refine valJ_load ld28 (by assumption) ?_
      first | refine valJ_ok (fa30_4 _) ?_ | refine valJ_ok (fao30_4 _ _) ?_
      first | refine valJ_load ld28 (AllH.cell 0 rfl rfl) ?_ | refine valJ_load ld28 (AllH.cell 1 rfl rfl) ?_ | refine valJ_load ld28 (AllH.cell 2 rfl rfl) ?_ | refine valJ_load ld28 (AllH.cell 3 rfl rfl) ?_ | refine valJ_load ld28 (AllH.cell 4 rfl rfl) ?_ | refine valJ_load ld28 (by assumption) ?_
      refine callR (by kernel_rfl) (join_ret hpre (by omega) hS (Bes.of_old0 ha1.rd)) ?_
      rintro v w ⟨rfl, X', hS⟩
      refine stay_St hS (by simp) ?_
      have hS := swap hS
      refine callR (by kernel_rfl) (rjoin_ret hpre (by omega) ha1.cap ha1.nil hS (Bes.of_old0 ha1.rd)) ?_
      rintro v w ⟨rfl, Y', hS⟩
      refine stay_St hS (by simp) ?_
      refine valJ_ok (ne3 _ _ _ _) ?_
      unfold m5_19
      refine cond_df (not_not_intro rfl) ?_
      exact fin _ _ _ _ _ _ (join_inv hinv (by omega)) (fun w' hS => hK _ _ _ hS) hS
    unfold m5_17
    refine valP_ok (eq3 _ _ _ _ _) ?_
    unfold m5_31
    refine cond_split (fun k0 => ?_) (fun k0 => ?_)
    · rw [decide_eq_true k0]
      exact join _ _ _ rfl (fun w' X' Y' hS => ⟨⟨i + 1, _, _, _, rfl, by omega, join_inv hinv (by omega), hS⟩, by simp [intOf]; omega⟩)
    refine valP_ok (eq3 _ _ _ _ _) ?_
    by_cases k1 : x.k = 1
    · exact join _ _ _ (by rw [decide_eq_true k1]) (fun w' X' Y' hS => ⟨⟨i + 1, _, _, _, rfl, by omega, join_inv hinv (by omega), hS⟩, by simp [intOf]; omega⟩)
    unfold m5_18
    refine cond_df k1 ?_
    refine valP_ok (eq3 _ _ _ _ _) ?_
    unfold m5_21
    refine cond_split (fun k2 => ?_) (fun k2 => ?_)
    · refine drawn_ok hS ?_
      intro w hS
      refine held_St [Res.cells b10 30 [.int .i64 x.k, .int .i64 x.a, .int .i64 x.p, .bool x.near, .slice x.A x.l.length x.c]] hS (by simp) ?_
      first | refine valJ_ok (fa30_1 _) ?_ | refine valJ_ok (fao30_1 _ _) ?_
      first | refine valJ_load ld3 (AllH.cell 0 rfl rfl) ?_ | refine valJ_load ld3 (AllH.cell 1 rfl rfl) ?_ | refine valJ_load ld3 (AllH.cell 2 rfl rfl) ?_ | refine valJ_load ld3 (AllH.cell 3 rfl rfl) ?_ | refine valJ_load ld3 (AllH.cell 4 rfl rfl) ?_ | refine valJ_load ld3 (by assumption) ?_
      first | refine valJ_ok (fa30_1 _) ?_ | refine valJ_ok (fao30_1 _ _) ?_
      first | refine valJ_load ld3 (AllH.cell 0 rfl rfl) ?_ | refine valJ_load ld3 (AllH.cell 1 rfl rfl) ?_ | refine valJ_load ld3 (AllH.cell 2 rfl rfl) ?_ | refine valJ_load ld3 (AllH.cell 3 rfl rfl) ?_ | refine valJ_load ld3 (AllH.cell 4 rfl rfl) ?_ | refine valJ_load ld3 (by assumption) ?_
      refine callR (by kernel_rfl) (leave_ret x.a hpre hS) ?_
      rintro v w ⟨rfl, X', hS⟩
      refine stay_St hS (by simp) ?_
      have hS := swap hS
      refine callR (by kernel_rfl) (rleave_ret x.a hpre hS) ?_
      rintro v w ⟨rfl, Y', hS⟩
      refine stay_St hS (by simp) ?_
      refine valJ_ok (ne3 _ _ _ _) ?_
      unfold m5_22
      refine cond_df (not_not_intro rfl) ?_
      exact fin _ _ _ _ _ _ (leave_inv hinv (by omega)) (fun w' hS => ⟨⟨i + 1, _, _, _, rfl, by omega, leave_inv hinv (by omega), hS⟩, by simp [intOf]; omega⟩) hS
    refine valP_ok (eq3 _ _ _ _ _) ?_
    unfold m5_24
    refine cond_split (fun k3 => ?_) (fun k3 => ?_)
    · first | refine valP_ok (fa30_1 _ _) ?_ | refine valP_ok (fao30_1 _ _ _) ?_
      first | refine valP_ok (ld3 (hS.cell 0 rfl rfl)) ?_ | refine valP_ok (ld3 (hS.cell 1 rfl rfl)) ?_ | refine valP_ok (ld3 (hS.cell 2 rfl rfl)) ?_ | refine valP_ok (ld3 (hS.cell 3 rfl rfl)) ?_ | refine valP_ok (ld3 (hS.cell 4 rfl rfl)) ?_ | refine valP_ok (ld3 (by assumption)) ?_
      refine callR (by kernel_rfl) (revoke_ret x.a hpre hS) ?_
      rintro v w ⟨A2, c2, rfl, hS⟩
      have hS : St w0 [] w (coopL 55 b2 s Y ++ (coopL 94 b s X ++ [Res.cells b10 30 [.int .i64 x.k, .int .i64 x.a, .int .i64 x.p, .bool x.near, .slice x.A x.l.length x.c], irow (.slice A2 (revL s x.a).length c2) (revL s x.a), drow (.slice (some ⟨g, 0, none⟩) ls.length c1) ls])) := hS.pick 11 [6, 7, 8, 9, 1, 2, 3, 4, 5, 0, 10] (by simp) (by decide)
      refine valP_ok (extract_ok _ 0 rfl _) ?_
      refine valP_ok (extract_ok _ 1 rfl _) ?_
      have hc1 := hS.cell 8 (i := 1) rfl rfl
      unfold m5_25
      first | refine valP_ok (fa30_1 _ _) ?_ | refine valP_ok (fao30_1 _ _ _) ?_
      first | refine valP_ok (ld3 (hS.cell 0 rfl rfl)) ?_ | refine valP_ok (ld3 (hS.cell 1 rfl rfl)) ?_ | refine valP_ok (ld3 (hS.cell 2 rfl rfl)) ?_ | refine valP_ok (ld3 (hS.cell 3 rfl rfl)) ?_ | refine valP_ok (ld3 (hS.cell 4 rfl rfl)) ?_ | refine valP_ok (ld3 (by assumption)) ?_
      refine callR (by kernel_rfl) (rrevoke_ret x.a hpre hS) ?_
      rintro v w ⟨A3, c3, rfl, hS⟩
      refine valP_ok (extract_ok _ 0 rfl _) ?_
      refine valP_ok (extract_ok _ 1 rfl _) ?_
      unfold m5_26
      have hrl : (revL s x.a).length ≤ 16 := by
        have := hpre.parts
        unfold revL
        split
        · have := revN_len s.H s.W x.a s.H.length; omega
        · simp
      refine callR (by kernel_rfl) (same_ret (a := revL s x.a) (b := revL s x.a) (by omega) hS (Bes.of_row 10 rfl) (Bes.of_row 0 rfl)) ?_
      rintro v w ⟨rfl, hS⟩
      first | refine valP_ok (not_ok _ _) ?_ | refine valP_ok (notb_ok _ _) ?_
      refine cond_df (not_not_intro rfl) ?_
      refine valP_ok (ne3 _ _ _ _ _) ?_
      first | refine pick_dt (by first | assumption | omega) ?_ | refine pick_df (by first | assumption | omega) ?_ | refine pick_t (by first | rfl | assumption) ?_ | refine pick_f (by first | rfl | assumption) ?_ | refine pick_dt rfl ?_ | refine pick_df (not_not_intro rfl) ?_
      unfold m5_27
      refine cond_df (not_not_intro rfl) ?_
      exact fin _ _ _ _ _ _ hinv.up (fun w' hS => ⟨⟨i + 1, _, _, _, rfl, by omega, hinv.up, hS⟩, by simp [intOf]; omega⟩) (hS.pick 12 [1, 2, 3, 4, 5, 6, 7, 8, 9, 11] (by simp) (by decide))
    · refine drawn_ok hS ?_
      intro w hS
      refine held_St [Res.cells b10 30 [.int .i64 x.k, .int .i64 x.a, .int .i64 x.p, .bool x.near, .slice x.A x.l.length x.c]] hS (by simp) ?_
      first | refine valJ_ok (fa30_1 _) ?_ | refine valJ_ok (fao30_1 _ _) ?_
      first | refine valJ_load ld3 (AllH.cell 0 rfl rfl) ?_ | refine valJ_load ld3 (AllH.cell 1 rfl rfl) ?_ | refine valJ_load ld3 (AllH.cell 2 rfl rfl) ?_ | refine valJ_load ld3 (AllH.cell 3 rfl rfl) ?_ | refine valJ_load ld3 (AllH.cell 4 rfl rfl) ?_ | refine valJ_load ld3 (by assumption) ?_
      first | refine valJ_ok (fa30_2 _) ?_ | refine valJ_ok (fao30_2 _ _) ?_
      first | refine valJ_load ld3 (AllH.cell 0 rfl rfl) ?_ | refine valJ_load ld3 (AllH.cell 1 rfl rfl) ?_ | refine valJ_load ld3 (AllH.cell 2 rfl rfl) ?_ | refine valJ_load ld3 (AllH.cell 3 rfl rfl) ?_ | refine valJ_load ld3 (AllH.cell 4 rfl rfl) ?_ | refine valJ_load ld3 (by assumption) ?_
      first | refine valJ_ok (fa30_1 _) ?_ | refine valJ_ok (fao30_1 _ _) ?_
      first | refine valJ_load ld3 (AllH.cell 0 rfl rfl) ?_ | refine valJ_load ld3 (AllH.cell 1 rfl rfl) ?_ | refine valJ_load ld3 (AllH.cell 2 rfl rfl) ?_ | refine valJ_load ld3 (AllH.cell 3 rfl rfl) ?_ | refine valJ_load ld3 (AllH.cell 4 rfl rfl) ?_ | refine valJ_load ld3 (by assumption) ?_
      first | refine valJ_ok (fa30_2 _) ?_ | refine valJ_ok (fao30_2 _ _) ?_
      first | refine valJ_load ld3 (AllH.cell 0 rfl rfl) ?_ | refine valJ_load ld3 (AllH.cell 1 rfl rfl) ?_ | refine valJ_load ld3 (AllH.cell 2 rfl rfl) ?_ | refine valJ_load ld3 (AllH.cell 3 rfl rfl) ?_ | refine valJ_load ld3 (AllH.cell 4 rfl rfl) ?_ | refine valJ_load ld3 (by assumption) ?_
      refine callR (by kernel_rfl) (done_ret x.a x.p hpre hS) ?_
      rintro v w ⟨rfl, X', hS⟩
      refine stay_St hS (by simp) ?_
      have hS := swap hS
      refine callR (by kernel_rfl) (rdone_ret x.a x.p hpre hS) ?_
      rintro v w ⟨rfl, Y', hS⟩
      refine stay_St hS (by simp) ?_
      refine valJ_ok (ne3 _ _ _ _) ?_
      unfold m5_29
      refine cond_df (not_not_intro rfl) ?_
      exact fin _ _ _ _ _ _ (done_inv hinv) (fun w' hS => ⟨⟨i + 1, _, _, _, rfl, by omega, done_inv hinv, hS⟩, by simp [intOf]; omega⟩) hS
  · unfold m5_7
    refine callR (by kernel_rfl) (cawake_ret hS) ?_
    rintro v w4 ⟨rfl, hS⟩
    unfold m5_8
    exact ⟨rfl, hS.below⟩

end Go.Proofs.Ytjjmlopmemmobaa.M
