/- The document's Add: its contract. -/
import Derived.Test.YtojgdmcojmllkaaS16
namespace Go.Proofs.Ytojgdmcojmllkaa.M
open Go.Proofs.Ytojgdmcojmllkaa.F Go.RowKit
set_option linter.unusedVariables false
set_option linter.unusedSimpArgs false
set_option maxRecDepth 100000
set_option maxHeartbeats 2000000
attribute [local irreducible] Res.cells Res.row Res.map Res.any World.cell? World.frozen? Instr.fieldAt Instr.loadAt Instr.storeAt Instr.indexAt Instr.lookup Instr.mapUpdate Instr.box Instr.build Instr.buildSlice Instr.extract Instr.alloc Instr.field Instr.index Instr.sliceAt Instr.makeSlice Instr.makeMap Instr.makeFunc binS Op.unary Sem.run
theorem putsE_snoc (l m : List Ev) (x : Ev) : putsE l (m ++ [x]) = putE (putsE l m) x := by simp [putsE, List.foldl_append]
section
variable {w0 w : World} {F : List Nat} {L : List Res} {g : Gp} {key : Int} {e : Ev} {f : Fq}
theorem radd_m {R : Value → World → Prop} (hf : SOk w0 F L f.A f.c f.l) (hS : St w0 F w L) (hR : ∀ v w, AddRes w0 F L L g f.fl key e v w → R v w) : m12 R (gv g) (fv f) (.int .i64 key) (ev e) w := by
  obtain ⟨fm, fl, fA, fc, fL⟩ := f
  obtain ⟨hB, hcap, hnil⟩ := hf
  simp only at hB hcap hnil
  have hR : ∀ v w, AddRes w0 F L L g ⟨fm, fl, ses fL⟩ key e v w → R v w := hR
  show m12 R (gv g) (.agg #[.int .i64 fm, .int .i64 fl, .slice fA fL.length fc]) (.int .i64 key) (ev e) w
  unfold m12
  unfold m12_0
  refine new_ok (bx23 _ _ _) hS ?_
  intro b4 w hS
  refine new_ok (bx26 _ _ _ _) hS ?_
  intro b5 w hS
  refine new_ok (bx28 _ _ _) hS ?_
  intro b7 w hS
  refine new_ok (al26 _) hS ?_
  intro b8 w hS
  unfold m12_1
  refine valP_ok (bd26 _) ?_
  refine new_ok (al26 _) hS ?_
  intro b11 w hS
  first | refine ss26 0 hS rfl rfl rfl rfl ?_ | refine ss26 1 hS rfl rfl rfl rfl ?_ | refine ss26 2 hS rfl rfl rfl rfl ?_ | refine ss26 3 hS rfl rfl rfl rfl ?_ | refine ss26 4 hS rfl rfl rfl rfl ?_ | refine ss26 5 hS rfl rfl rfl rfl ?_ | refine ss26 6 hS rfl rfl rfl rfl ?_ | refine ss26 7 hS rfl rfl rfl rfl ?_
  intro w hS
  simp only [List.set_cons_zero, List.set_cons_succ] at hS
  have leaf : ∀ w t, (t = false ↔ AddOk g ⟨fm, fl, ses fL⟩ key e) → St w0 F w (Res.cells b11 26 [.int .i64 0, .int .i64 0, .slice none 0 0] :: Res.cells b8 26 [.int .i64 0, .int .i64 0, .slice none 0 0] :: Res.cells b7 28 (encE e) :: Res.cells b5 26 [.int .i64 fm, .int .i64 fl, .slice fA fL.length fc] :: gC b4 g :: L) → m12_40 R (.int .i64 key) (.pointer (some ⟨b4, 0, none⟩)) (.pointer (some ⟨b5, 0, none⟩)) (.pointer (some ⟨b7, 0, none⟩)) (.pointer (some ⟨b8, 0, none⟩)) (.pointer (some ⟨b11, 0, none⟩)) (.bool t) w := by
    clear hS
    intro w t ht hS
    unfold m12_40
    cases t with
    | true =>
      have hno : ¬ AddOk g ⟨fm, fl, ses fL⟩ key e := fun h => by have := ht.2 h; cases this
      refine cond_t rfl ?_
      first | refine ls26 0 hS rfl ?_ | refine ls26 1 hS rfl ?_ | refine ls26 2 hS rfl ?_ | refine ls26 3 hS rfl ?_ | refine ls26 4 hS rfl ?_ | refine ls26 5 hS rfl ?_ | refine ls26 6 hS rfl ?_ | refine ls26 7 hS rfl ?_ | refine valP_ok (ld26 (by assumption) (by assumption) (by assumption)) ?_
      first | refine ss26 0 hS rfl rfl rfl rfl ?_ | refine ss26 1 hS rfl rfl rfl rfl ?_ | refine ss26 2 hS rfl rfl rfl rfl ?_ | refine ss26 3 hS rfl rfl rfl rfl ?_ | refine ss26 4 hS rfl rfl rfl rfl ?_ | refine ss26 5 hS rfl rfl rfl rfl ?_ | refine ss26 6 hS rfl rfl rfl rfl ?_ | refine ss26 7 hS rfl rfl rfl rfl ?_
      intro w hS
      simp only [List.set_cons_zero, List.set_cons_succ] at hS
      unfold m12_41
      refine valS_ok (lc26 (hS.cell 1 rfl rfl) (hS.cell 1 rfl rfl) (hS.cell 1 rfl rfl)) ?_
      exact hR _ _ ⟨fun _ => ⟨rfl, hS.tail.tail.tail.tail.tail⟩, fun h => absurd h hno, fun h => absurd h hno⟩
    | false =>
      have hok := ht.1 rfl
      have hF : FlowOk g fm fl (ses fL) := hok.flow
      have hte := hok.time
      refine cond_f rfl ?_
      unfold m12_3
      first | refine valP_ok (fa26_1 _ _) ?_ | refine valP_ok (fao26_1 _ _ _) ?_
      first | refine valP_ok (ld3 (hS.cell 0 rfl rfl)) ?_ | refine valP_ok (ld3 (hS.cell 1 rfl rfl)) ?_ | refine valP_ok (ld3 (hS.cell 2 rfl rfl)) ?_ | refine valP_ok (ld3 (hS.cell 3 rfl rfl)) ?_ | refine valP_ok (ld3 (hS.cell 4 rfl rfl)) ?_ | refine valP_ok (ld3 (hS.cell 5 rfl rfl)) ?_ | refine valP_ok (ld3 (hS.cell 6 rfl rfl)) ?_ | refine valP_ok (ld3 (hS.cell 7 rfl rfl)) ?_ | refine valP_ok (ld3 (by assumption)) ?_
      refine valP_ok (eq3 _ _ _ _ _) ?_
      unfold m12_38
      refine cond_split (fun hlate => ?_) (fun hlate => ?_)
      · first | refine ls26 0 hS rfl ?_ | refine ls26 1 hS rfl ?_ | refine ls26 2 hS rfl ?_ | refine ls26 3 hS rfl ?_ | refine ls26 4 hS rfl ?_ | refine ls26 5 hS rfl ?_ | refine ls26 6 hS rfl ?_ | refine ls26 7 hS rfl ?_ | refine valP_ok (ld26 (by assumption) (by assumption) (by assumption)) ?_
        first | refine ss26 0 hS rfl rfl rfl rfl ?_ | refine ss26 1 hS rfl rfl rfl rfl ?_ | refine ss26 2 hS rfl rfl rfl rfl ?_ | refine ss26 3 hS rfl rfl rfl rfl ?_ | refine ss26 4 hS rfl rfl rfl rfl ?_ | refine ss26 5 hS rfl rfl rfl rfl ?_ | refine ss26 6 hS rfl rfl rfl rfl ?_ | refine ss26 7 hS rfl rfl rfl rfl ?_
        intro w hS
        simp only [List.set_cons_zero, List.set_cons_succ] at hS
        unfold m12_39
        refine valS_ok (lc26 (hS.cell 1 rfl rfl) (hS.cell 1 rfl rfl) (hS.cell 1 rfl rfl)) ?_
        exact hR _ _ ⟨fun h => absurd hok h, fun _ _ => ⟨rfl, hS.tail.tail.tail.tail.tail⟩, fun _ hn => absurd hlate hn⟩
      · have hmk := hF.mrk
        have hlt := hF.lt
        have hg := hF.gok
        have hpre := flow_pre.1 hF
        have hlen : fL.length ≤ 64 := hpre.2.2.2.1
        have hsp := hpre.2.2.2.2
        have tb : ∀ i (h : i < fL.length), TB fL[i].s.l := fun i h => (hsp.span i h h).tb hmk.2
        have tbe : TB [e] := ⟨by simp, by simp, hte, hte⟩
        have l64 : ∀ x ∈ fL, x.s.l.length ≤ 64 := fun x hx => by
          obtain ⟨i, hi, rfl⟩ := List.mem_iff_getElem.1 hx
          exact (hsp.span i hi hi).len.2
        have nlen : ∀ k, (nearEv g key e (fL.take k)).length ≤ 64 * fL.length := fun k => by
          refine Nat.le_trans (flat_take_len (b := 64) fun x hx => l64 x (List.mem_of_mem_take (List.mem_filter.1 hx).1)) (Nat.mul_le_mul_left _ ?_)
          refine Nat.le_trans (List.length_filter_le _ _) ?_
          rw [List.length_take]
          omega
        have flen : ∀ k, (farQ g key e (fL.take k)).length ≤ 64 := fun k => by
          refine Nat.le_trans (List.length_filter_le _ _) ?_
          rw [List.length_take]
          omega
        unfold m12_4
        first | refine ls28 0 hS rfl ?_ | refine ls28 1 hS rfl ?_ | refine ls28 2 hS rfl ?_ | refine ls28 3 hS rfl ?_ | refine ls28 4 hS rfl ?_ | refine ls28 5 hS rfl ?_ | refine ls28 6 hS rfl ?_ | refine ls28 7 hS rfl ?_ | refine valP_ok (ld28 (by assumption) (by assumption)) ?_
        refine newslice_ok (bs31_1 _) hS ?_
        intro b50 w hS
        refine valP_ok (bd33_0_1 rfl rfl _) ?_
        refine new_ok (al33 _) hS ?_
        intro b12 w hS
        first | refine ss33 0 hS rfl rfl rfl ?_ | refine ss33 1 hS rfl rfl rfl ?_ | refine ss33 2 hS rfl rfl rfl ?_ | refine ss33 3 hS rfl rfl rfl ?_ | refine ss33 4 hS rfl rfl rfl ?_ | refine ss33 5 hS rfl rfl rfl ?_ | refine ss33 6 hS rfl rfl rfl ?_ | refine ss33 7 hS rfl rfl rfl ?_
        intro w hS
        simp only [List.set_cons_zero, List.set_cons_succ] at hS
        unfold m12_5
        first | refine ls33 0 hS rfl ?_ | refine ls33 1 hS rfl ?_ | refine ls33 2 hS rfl ?_ | refine ls33 3 hS rfl ?_ | refine ls33 4 hS rfl ?_ | refine ls33 5 hS rfl ?_ | refine ls33 6 hS rfl ?_ | refine ls33 7 hS rfl ?_ | refine valP_ok (ld33 (by assumption) (by assumption)) ?_
        refine new_ok (al33 _) hS ?_
        intro b13 w hS
        first | refine ss33 0 hS rfl rfl rfl ?_ | refine ss33 1 hS rfl rfl rfl ?_ | refine ss33 2 hS rfl rfl rfl ?_ | refine ss33 3 hS rfl rfl rfl ?_ | refine ss33 4 hS rfl rfl rfl ?_ | refine ss33 5 hS rfl rfl rfl ?_ | refine ss33 6 hS rfl rfl rfl ?_ | refine ss33 7 hS rfl rfl rfl ?_
        intro w hS
        simp only [List.set_cons_zero, List.set_cons_succ] at hS
        unfold m12_6 m12_7 m12_25
        have hS1 := hS.as_row 2 2 1 rfl rfl (by unfold maxLen; omega)
        have hS : St w0 F w (Res.cells b13 33 [.int .i64 key, .slice (some ⟨b50, 0, none⟩) (putsE [e] (nearEv g key e (fL.take 0))).length 1] :: srow (.slice none (farQ g key e (fL.take 0)).length 0) (farQ g key e (fL.take 0)) :: Res.cells b12 33 [.int .i64 key, .slice (some ⟨b50, 0, none⟩) 1 1] :: Res.cells b8 26 [.int .i64 0, .int .i64 0, .slice none 0 0] :: Res.cells b7 28 (encE e) :: Res.cells b5 26 [.int .i64 fm, .int .i64 fl, .slice fA fL.length fc] :: gC b4 g :: ([erow (.slice (some ⟨b50, 0, none⟩) [e].length 1) [e]] ++ L)) := (hS1.row_nil 33 2).pick 9 [1, 0, 2, 5, 6, 7, 8, 3] (by simp) (by decide)
        clear hS1
        refine loop_in (fun u w' => ∃ (i : Nat) (Aw Ar : Option Addr) (cw cr : Nat) (X : List Res), u = (.slice Ar (farQ g key e (fL.take i)).length cr, .int .i64 (i : Int)) ∧ i ≤ fL.length ∧ BE w0 F (X ++ L) (some ⟨b50, 0, none⟩) [e] ∧ BE w0 F (X ++ L) Aw (putsE [e] (nearEv g key e (fL.take i))) ∧ (putsE [e] (nearEv g key e (fL.take i))).length ≤ cw ∧ (Aw = none → cw = 0) ∧
          St w0 F w' (Res.cells b13 33 [.int .i64 key, .slice Aw (putsE [e] (nearEv g key e (fL.take i))).length cw] :: srow (.slice Ar (farQ g key e (fL.take i)).length cr) (farQ g key e (fL.take i)) :: Res.cells b12 33 [.int .i64 key, .slice (some ⟨b50, 0, none⟩) 1 1] :: Res.cells b8 26 [.int .i64 0, .int .i64 0, .slice none 0 0] :: Res.cells b7 28 (encE e) :: Res.cells b5 26 [.int .i64 fm, .int .i64 fl, .slice fA fL.length fc] :: gC b4 g :: (X ++ L))) (fun u _ => fL.length - (intOf u.2).toNat)
          ⟨0, _, none, 1, 0, _, rfl, by omega, Bes.of_row 0 rfl, Bes.of_row 0 rfl, Nat.le_refl _, (fun h => by cases h), hS⟩ ?_
        clear hS
        rintro u w ⟨i, Aw, Ar, cw, cr, X, rfl, hi, hEa, hEw, hcw, hzw, hS⟩
        simp only
        have nk := nlen i
        have fk := flen i
        unfold m12_26
        first | refine valP_ok (fa26_2 _ _) ?_ | refine valP_ok (fao26_2 _ _ _) ?_
        first | refine valP_ok (ld24 (hS.cell 0 rfl rfl)) ?_ | refine valP_ok (ld24 (hS.cell 1 rfl rfl)) ?_ | refine valP_ok (ld24 (hS.cell 2 rfl rfl)) ?_ | refine valP_ok (ld24 (hS.cell 3 rfl rfl)) ?_ | refine valP_ok (ld24 (hS.cell 4 rfl rfl)) ?_ | refine valP_ok (ld24 (hS.cell 5 rfl rfl)) ?_ | refine valP_ok (ld24 (hS.cell 6 rfl rfl)) ?_ | refine valP_ok (ld24 (hS.cell 7 rfl rfl)) ?_ | refine valP_ok (ld24 (by assumption)) ?_
        refine builtin_ok (len24 _) ?_
        refine valP_ok (lss_ok _ _ _ _ _ _ _) ?_
        unfold m12_37
        refine cond_split (fun h => ?_) (fun h => ?_)
        · have hil : i < fL.length := by omega
          have hmem := List.getElem_mem hil
          have hBX : BesS w0 F (X ++ L) fA fL := hB.mono fun r hr => List.mem_append_right _ hr
          have hB7 : ∀ a b c d e' f' h', BesS w0 F (a :: b :: c :: d :: e' :: f' :: h' :: (X ++ L)) fA fL := fun a b c d e' f' h' => ((((((hBX.cons h').cons f').cons e').cons d).cons c).cons b).cons a
          have hE7 : ∀ {A l} (_ : BE w0 F (X ++ L) A l) a b c d e' f' h', BE w0 F (a :: b :: c :: d :: e' :: f' :: h' :: (X ++ L)) A l := fun hE a b c d e' f' h' => ((((((hE.cons h').cons f').cons e').cons d).cons c).cons b).cons a
          obtain ⟨b, o, rfl⟩ := ((hB7 _ _ _ _ _ _ _).row.rd hS).some_ (by omega) (by omega)
          unfold m12_27
          refine drawn_ok hS ?_
          intro w hS
          have p := sp_at ((hB7 _ _ _ _ _ _ _).row.rd hS) hil
          refine valS_ok (ld23 (hS.cell 6 rfl rfl) (hS.cell 6 rfl rfl)) ?_
          refine valS_ok (fa26_2 _ _) ?_
          refine valS_ok (ld24 (hS.cell 5 rfl rfl)) ?_
          refine valS_ok (ix24 hil _) ?_
          refine valS_ok (ld33 p.1 p.2) ?_
          refine valS_ok (ld33 (hS.cell 2 rfl rfl) (hS.cell 2 rfl rfl)) ?_
          refine callR (by kernel_rfl) (one_ret (key := fL[i].s.key) (c := fL[i].c) (l2 := [e]) (c2 := 1) hg (tb i hil) tbe hS ((hB7 _ _ _ _ _ _ _).evs _ hmem) (hE7 hEa _ _ _ _ _ _ _)) ?_
          rintro v w ⟨⟨t, rfl, ht⟩, hS⟩
          have hnq : nearQ g key e fL[i] = t := by
            unfold nearQ nearB
            have ht : t = true ↔ Nea g fL[i].s (alone key e) := ht
            cases t with
            | true => exact decide_eq_true (ht.1 rfl)
            | false => exact decide_eq_false fun h => by have := ht.2 h; cases this
          first | refine valP_ok (not_ok _ _) ?_ | refine valP_ok (notb_ok _ _) ?_
          unfold m12_35
          have p := sp_at ((hB7 _ _ _ _ _ _ _).row.rd hS) hil
          cases t with
          | false =>
            refine cond_t rfl ?_
            have e1 : nearEv g key e (fL.take (i + 1)) = nearEv g key e (fL.take i) := by
              unfold nearEv
              rw [filter_take hil, hnq]
              simp
            have e2 : farQ g key e (fL.take (i + 1)) = farQ g key e (fL.take i) ++ [fL[i]] := by
              unfold farQ
              rw [filter_take hil, hnq]
              simp
            first | refine valP_ok (fa26_2 _ _) ?_ | refine valP_ok (fao26_2 _ _ _) ?_
            first | refine valP_ok (ld24 (hS.cell 0 rfl rfl)) ?_ | refine valP_ok (ld24 (hS.cell 1 rfl rfl)) ?_ | refine valP_ok (ld24 (hS.cell 2 rfl rfl)) ?_ | refine valP_ok (ld24 (hS.cell 3 rfl rfl)) ?_ | refine valP_ok (ld24 (hS.cell 4 rfl rfl)) ?_ | refine valP_ok (ld24 (hS.cell 5 rfl rfl)) ?_ | refine valP_ok (ld24 (hS.cell 6 rfl rfl)) ?_ | refine valP_ok (ld24 (hS.cell 7 rfl rfl)) ?_ | refine valP_ok (ld24 (by assumption)) ?_
            refine valP_ok (ix24 hil _) ?_
            refine valP_ok (ld33 p.1 p.2) ?_
            refine newslice_ok (bs24_1 _) hS ?_
            intro b75 w hS
            refine append_one1 1 fL[i] sl24 encS_len encS_one (by unfold maxLen; omega) (by omega) hS rfl ?_
            intro A' c' w hS
            simp only [List.set_cons_zero, List.set_cons_succ] at hS
            rw [← e2] at hS ⊢
            unfold m12_36
            unfold m12_28
            refine valP_ok (add_ok _ _ _ (by omega) (by omega) _) ?_
            exact ⟨⟨i + 1, Aw, A', cw, c', X, rfl, by omega, hEa, by rw [e1]; exact hEw, by rw [e1]; exact hcw, hzw, by rw [e1]; exact hS⟩, by simp [intOf]; omega⟩
          | true =>
            refine cond_f rfl ?_
            have e1 : nearEv g key e (fL.take (i + 1)) = nearEv g key e (fL.take i) ++ fL[i].s.l := by
              unfold nearEv
              rw [filter_take hil, hnq]
              simp
            have e2 : farQ g key e (fL.take (i + 1)) = farQ g key e (fL.take i) := by
              unfold farQ
              rw [filter_take hil, hnq]
              simp
            have n64 := l64 _ hmem
            have tk := tb i hil
            unfold m12_29 m12_30
            refine loop_in (fun u w' => ∃ (k : Nat) (Aw : Option Addr) (cw : Nat) (X : List Res), u = .int .i64 (k : Int) ∧ k ≤ fL[i].s.l.length ∧ BE w0 F (X ++ L) (some ⟨b50, 0, none⟩) [e] ∧ BE w0 F (X ++ L) Aw (putsE [e] (nearEv g key e (fL.take i) ++ fL[i].s.l.take k)) ∧ (putsE [e] (nearEv g key e (fL.take i) ++ fL[i].s.l.take k)).length ≤ cw ∧ (Aw = none → cw = 0) ∧
              St w0 F w' (Res.cells b13 33 [.int .i64 key, .slice Aw (putsE [e] (nearEv g key e (fL.take i) ++ fL[i].s.l.take k)).length cw] :: srow (.slice Ar (farQ g key e (fL.take i)).length cr) (farQ g key e (fL.take i)) :: Res.cells b12 33 [.int .i64 key, .slice (some ⟨b50, 0, none⟩) 1 1] :: Res.cells b8 26 [.int .i64 0, .int .i64 0, .slice none 0 0] :: Res.cells b7 28 (encE e) :: Res.cells b5 26 [.int .i64 fm, .int .i64 fl, .slice (some ⟨b, o, none⟩) fL.length fc] :: gC b4 g :: (X ++ L))) (fun u _ => fL[i].s.l.length - (intOf u).toNat)
              ⟨0, Aw, cw, X, rfl, by omega, hEa, by rw [List.take_zero, List.append_nil]; exact hEw, by rw [List.take_zero, List.append_nil]; exact hcw, hzw, by rw [List.take_zero, List.append_nil]; exact hS⟩ ?_
            clear hS p hEw hcw hzw hEa hBX hB7 hE7
            rintro u w ⟨k, Aw, cw, X, rfl, hk, hEa, hEw, hcw, hzw, hS⟩
            have hBX : BesS w0 F (X ++ L) (some ⟨b, o, none⟩) fL := hB.mono fun r hr => List.mem_append_right _ hr
            have hB7 : ∀ a b' c d e' f' h', BesS w0 F (a :: b' :: c :: d :: e' :: f' :: h' :: (X ++ L)) (some ⟨b, o, none⟩) fL := fun a b c d e' f' h' => ((((((hBX.cons h').cons f').cons e').cons d).cons c).cons b).cons a
            have p := sp_at ((hB7 _ _ _ _ _ _ _).row.rd hS) hil
            unfold m12_31
            first | refine valP_ok (fa26_2 _ _) ?_ | refine valP_ok (fao26_2 _ _ _) ?_
            first | refine valP_ok (ld24 (hS.cell 0 rfl rfl)) ?_ | refine valP_ok (ld24 (hS.cell 1 rfl rfl)) ?_ | refine valP_ok (ld24 (hS.cell 2 rfl rfl)) ?_ | refine valP_ok (ld24 (hS.cell 3 rfl rfl)) ?_ | refine valP_ok (ld24 (hS.cell 4 rfl rfl)) ?_ | refine valP_ok (ld24 (hS.cell 5 rfl rfl)) ?_ | refine valP_ok (ld24 (hS.cell 6 rfl rfl)) ?_ | refine valP_ok (ld24 (hS.cell 7 rfl rfl)) ?_ | refine valP_ok (ld24 (by assumption)) ?_
            refine valP_ok (ix24 hil _) ?_
            refine valP_ok (fao33_1 _ _ _) ?_
            refine valP_ok (ld31 p.2) ?_
            refine builtin_ok (len31 _) ?_
            refine valP_ok (lss_ok _ _ _ _ _ _ _) ?_
            unfold m12_34
            refine cond_split (fun h2 => ?_) (fun h2 => ?_)
            · have hkl : k < fL[i].s.l.length := by omega
              unfold m12_32
              refine drawn_ok hS ?_
              intro w hS
              have p := sp_at ((hB7 _ _ _ _ _ _ _).row.rd hS) hil
              have r1 := ((hB7 _ _ _ _ _ _ _).evs _ hmem).rd hS
              obtain ⟨a1, o1, hA1⟩ := r1.some_ (by omega) (by omega)
              have r1' := r1
              rw [hA1] at r1'
              have q := ev_at r1' hkl
              refine valS_ok (fa33_1 _ _) ?_
              refine valS_ok (ld31 (hS.cell 0 rfl rfl)) ?_
              refine valS_ok (fa26_2 _ _) ?_
              refine valS_ok (ld24 (hS.cell 5 rfl rfl)) ?_
              refine valS_ok (ix24 hil _) ?_
              refine valS_ok (fao33_1 _ _ _) ?_
              refine valS_ok (ld31 p.2) ?_
              refine valS_ok (ix31A hA1 hkl _) ?_
              refine valS_ok (ld28 q.1 q.2) ?_
              have e3 : putE (putsE [e] (nearEv g key e (fL.take i) ++ fL[i].s.l.take k)) fL[i].s.l[k] = putsE [e] (nearEv g key e (fL.take i) ++ fL[i].s.l.take (k + 1)) := by
                rw [List.take_succ_eq_append_getElem hkl, ← List.append_assoc, putsE_snoc]
              have hpl : (putsE [e] (nearEv g key e (fL.take i) ++ fL[i].s.l.take k)).length ≤ 100000 := by
                rw [putsE_len, List.length_append, List.length_take]
                simp
                omega
              refine callR (by kernel_rfl) (put_ret (e := fL[i].s.l[k]) hpl hcw hzw hS (((((((hEw.cons _).cons _).cons _).cons _).cons _).cons _).cons _)) ?_
              rintro v w ⟨A', c', rfl, hS⟩
              rw [e3] at hS ⊢
              have n1 := row_nil 0 hS rfl
              have m1 := (hS.row_max 0 rfl).1
              first | refine valP_ok (fa33_1 _ _) ?_ | refine valP_ok (fao33_1 _ _ _) ?_
              first | refine store_at 0 st31 hS rfl (by simp) rfl ?_ | refine store_at 1 st31 hS rfl (by simp) rfl ?_ | refine store_at 2 st31 hS rfl (by simp) rfl ?_ | refine store_at 3 st31 hS rfl (by simp) rfl ?_ | refine store_at 4 st31 hS rfl (by simp) rfl ?_ | refine store_at 5 st31 hS rfl (by simp) rfl ?_ | refine store_at 6 st31 hS rfl (by simp) rfl ?_ | refine store_at 7 st31 hS rfl (by simp) rfl ?_
              intro w hS
              simp only [List.set_cons_zero, List.set_cons_succ] at hS
              have hS : St w0 F w (Res.cells b13 33 [.int .i64 key, .slice A' (putsE [e] (nearEv g key e (fL.take i) ++ fL[i].s.l.take (k + 1))).length c'] :: srow (.slice Ar (farQ g key e (fL.take i)).length cr) (farQ g key e (fL.take i)) :: Res.cells b12 33 [.int .i64 key, .slice (some ⟨b50, 0, none⟩) 1 1] :: Res.cells b8 26 [.int .i64 0, .int .i64 0, .slice none 0 0] :: Res.cells b7 28 (encE e) :: Res.cells b5 26 [.int .i64 fm, .int .i64 fl, .slice (some ⟨b, o, none⟩) fL.length fc] :: gC b4 g :: ((erow (.slice A' (putsE [e] (nearEv g key e (fL.take i) ++ fL[i].s.l.take (k + 1))).length c') (putsE [e] (nearEv g key e (fL.take i) ++ fL[i].s.l.take (k + 1))) :: X) ++ L)) := hS.pick 8 [1, 2, 3, 4, 5, 6, 7, 0] (by simp) (by decide)
              unfold m12_33
              refine valP_ok (add_ok _ _ _ (by omega) (by omega) _) ?_
              exact ⟨⟨k + 1, A', c', _, rfl, by omega, hEa.cons _, Bes.of_row 0 rfl, m1, n1, hS⟩, by simp [intOf]; omega⟩
            · obtain rfl : k = fL[i].s.l.length := by omega
              rw [List.take_length, ← e1] at hEw hcw hS
              unfold m12_28
              refine valP_ok (add_ok _ _ _ (by omega) (by omega) _) ?_
              refine ⟨⟨i + 1, Aw, Ar, cw, cr, X, by rw [e2]; rfl, by omega, hEa, hEw, hcw, hzw, by rw [e2]; exact hS⟩, by simp [intOf]; omega⟩
        · obtain rfl : i = fL.length := by omega
          simp only [List.take_length] at hS hEw hcw ⊢
          rw [List.take_length] at nk fk
          have hwhole : (⟨key, putsE [e] (nearEv g key e fL)⟩ : Se) = wholeS g (ses fL) key e := by
            unfold wholeS
            rw [near_ses]
          have hwl : 0 < (putsE [e] (nearEv g key e fL)).length ∧ (putsE [e] (nearEv g key e fL)).length ≤ 5000 := by
            rw [putsE_len]
            simp
            omega
          have hBX : BesS w0 F (X ++ L) fA fL := hB.mono fun r hr => List.mem_append_right _ hr
          unfold m12_8
          first | refine ls33 0 hS rfl ?_ | refine ls33 1 hS rfl ?_ | refine ls33 2 hS rfl ?_ | refine ls33 3 hS rfl ?_ | refine ls33 4 hS rfl ?_ | refine ls33 5 hS rfl ?_ | refine ls33 6 hS rfl ?_ | refine ls33 7 hS rfl ?_ | refine valP_ok (ld33 (by assumption) (by assumption)) ?_
          have n1 := row_nil 1 hS rfl
          have m1 := (hS.row_max 1 rfl).1
          have farmem : ∀ x ∈ farQ g key e fL, x ∈ fL := fun x hx => (List.mem_filter.1 hx).1
          refine callR (by kernel_rfl) (set_ret (s := ⟨⟨key, putsE [e] (nearEv g key e fL)⟩, Aw, cw⟩) (by omega) (fun x hx => ?_) hwl.1 ⟨⟨Bes.of_row 1 rfl, fun s hs => ((((((((hBX.evs s (farmem s hs)).cons _).cons _).cons _).cons _).cons _).cons _).cons _), by omega, fun s hs => hB.emax s (farmem s hs)⟩, m1, n1⟩ hS (((((((hEw.cons _).cons _).cons _).cons _).cons _).cons _).cons _)) ?_
          · obtain ⟨j, hj, rfl⟩ := List.mem_iff_getElem.1 (farmem x hx)
            exact (tb j hj).pos
          rintro v w ⟨A', c', l', rfl, hl', hin, hS⟩
          have hl' : ses l' = joinS g (ses fL) key e := by
            rw [hl', far_ses, hwhole]
            rfl
          have hln : l'.length = (joinS g (ses fL) key e).length := by rw [← hl']; simp
          have hln2 : l'.length ≤ 65 := by
            rw [hln]
            unfold joinS
            rw [setS_len, ← far_ses]
            simp
            omega
          have hwn : (wholeS g (ses fL) key e).l.length = (putsE [e] (nearEv g key e fL)).length := by rw [← hwhole]
          have hS : St w0 F w (Res.cells b13 33 [.int .i64 key, .slice Aw (putsE [e] (nearEv g key e fL)).length cw] :: Res.cells b8 26 [.int .i64 0, .int .i64 0, .slice none 0 0] :: Res.cells b7 28 (encE e) :: Res.cells b5 26 [.int .i64 fm, .int .i64 fl, .slice fA fL.length fc] :: gC b4 g :: ((srow (.slice A' l'.length c') l' :: X) ++ L)) := hS.pick 8 [1, 4, 5, 6, 7, 0] (by simp) (by decide)
          have hB' : BesS w0 F ((srow (.slice A' l'.length c') l' :: X) ++ L) A' l' := by
            refine ⟨Bes.of_row 0 rfl, fun s hs => ?_, by omega, fun s hs => ?_⟩
            · rcases hin s hs with h | rfl
              · exact (hBX.evs s (farmem s h)).cons _
              · exact hEw.cons _
            · rcases hin s hs with h | rfl
              · exact hB.emax s (farmem s h)
              · simp only
                omega
          have hBY : BesS w0 F ((srow (.slice A' l'.length c') l' :: X) ++ L) fA fL := hBX.cons _
          generalize hY : srow (.slice A' l'.length c') l' :: X = Y at *
          unfold m12_9
          first | refine valP_ok (fa26_0 _ _) ?_ | refine valP_ok (fao26_0 _ _ _) ?_
          first | refine valP_ok (ld3 (hS.cell 0 rfl rfl)) ?_ | refine valP_ok (ld3 (hS.cell 1 rfl rfl)) ?_ | refine valP_ok (ld3 (hS.cell 2 rfl rfl)) ?_ | refine valP_ok (ld3 (hS.cell 3 rfl rfl)) ?_ | refine valP_ok (ld3 (hS.cell 4 rfl rfl)) ?_ | refine valP_ok (ld3 (hS.cell 5 rfl rfl)) ?_ | refine valP_ok (ld3 (hS.cell 6 rfl rfl)) ?_ | refine valP_ok (ld3 (hS.cell 7 rfl rfl)) ?_ | refine valP_ok (ld3 (by assumption)) ?_
          first | refine valP_ok (fa26_1 _ _) ?_ | refine valP_ok (fao26_1 _ _ _) ?_
          first | refine valP_ok (ld3 (hS.cell 0 rfl rfl)) ?_ | refine valP_ok (ld3 (hS.cell 1 rfl rfl)) ?_ | refine valP_ok (ld3 (hS.cell 2 rfl rfl)) ?_ | refine valP_ok (ld3 (hS.cell 3 rfl rfl)) ?_ | refine valP_ok (ld3 (hS.cell 4 rfl rfl)) ?_ | refine valP_ok (ld3 (hS.cell 5 rfl rfl)) ?_ | refine valP_ok (ld3 (hS.cell 6 rfl rfl)) ?_ | refine valP_ok (ld3 (hS.cell 7 rfl rfl)) ?_ | refine valP_ok (ld3 (by assumption)) ?_
          refine valP_ok (bd26_0_1 rfl rfl _) ?_
          refine new_ok (al26 _) hS ?_
          intro b17 w hS
          first | refine ss26 0 hS rfl rfl rfl rfl ?_ | refine ss26 1 hS rfl rfl rfl rfl ?_ | refine ss26 2 hS rfl rfl rfl rfl ?_ | refine ss26 3 hS rfl rfl rfl rfl ?_ | refine ss26 4 hS rfl rfl rfl rfl ?_ | refine ss26 5 hS rfl rfl rfl rfl ?_ | refine ss26 6 hS rfl rfl rfl rfl ?_ | refine ss26 7 hS rfl rfl rfl rfl ?_
          intro w hS
          simp only [List.set_cons_zero, List.set_cons_succ] at hS
          unfold m12_10
          first | refine ls23 0 hS rfl ?_ | refine ls23 1 hS rfl ?_ | refine ls23 2 hS rfl ?_ | refine ls23 3 hS rfl ?_ | refine ls23 4 hS rfl ?_ | refine ls23 5 hS rfl ?_ | refine ls23 6 hS rfl ?_ | refine ls23 7 hS rfl ?_ | refine valP_ok (ld23 (by assumption) (by assumption)) ?_
          first | refine valP_ok (fa28_0 _ _) ?_ | refine valP_ok (fao28_0 _ _ _) ?_
          first | refine valP_ok (ld3 (hS.cell 0 rfl rfl)) ?_ | refine valP_ok (ld3 (hS.cell 1 rfl rfl)) ?_ | refine valP_ok (ld3 (hS.cell 2 rfl rfl)) ?_ | refine valP_ok (ld3 (hS.cell 3 rfl rfl)) ?_ | refine valP_ok (ld3 (hS.cell 4 rfl rfl)) ?_ | refine valP_ok (ld3 (hS.cell 5 rfl rfl)) ?_ | refine valP_ok (ld3 (hS.cell 6 rfl rfl)) ?_ | refine valP_ok (ld3 (hS.cell 7 rfl rfl)) ?_ | refine valP_ok (ld3 (by assumption)) ?_
          first | refine valP_ok (fa26_0 _ _) ?_ | refine valP_ok (fao26_0 _ _ _) ?_
          first | refine valP_ok (ld3 (hS.cell 0 rfl rfl)) ?_ | refine valP_ok (ld3 (hS.cell 1 rfl rfl)) ?_ | refine valP_ok (ld3 (hS.cell 2 rfl rfl)) ?_ | refine valP_ok (ld3 (hS.cell 3 rfl rfl)) ?_ | refine valP_ok (ld3 (hS.cell 4 rfl rfl)) ?_ | refine valP_ok (ld3 (hS.cell 5 rfl rfl)) ?_ | refine valP_ok (ld3 (hS.cell 6 rfl rfl)) ?_ | refine valP_ok (ld3 (hS.cell 7 rfl rfl)) ?_ | refine valP_ok (ld3 (by assumption)) ?_
          refine callR (by kernel_rfl) (rover_ret hg ⟨by omega, hmk.2⟩ hS) ?_
          rintro v w ⟨⟨t, rfl, ht⟩, hS⟩
          have rest : ∀ w (lt : Int) lA lc lm, lt = (if Drop g ⟨fm, fl, ses fL⟩ key e then fl + 1 else fl) → ses lm = midL g ⟨fm, fl, ses fL⟩ key e → BesS w0 F (Y ++ L) lA lm → (∀ s ∈ lm, s.s.l.length ≤ 5000) → St w0 F w (Res.cells b17 26 [.int .i64 fm, .int .i64 lt, .slice none 0 0] :: Res.cells b13 33 [.int .i64 key, .slice Aw (putsE [e] (nearEv g key e fL)).length cw] :: Res.cells b8 26 [.int .i64 0, .int .i64 0, .slice none 0 0] :: Res.cells b7 28 (encE e) :: Res.cells b5 26 [.int .i64 fm, .int .i64 fl, .slice fA fL.length fc] :: gC b4 g :: (Y ++ L)) → m12_11 R (.pointer (some ⟨b4, 0, none⟩)) (.pointer (some ⟨b7, 0, none⟩)) (.pointer (some ⟨b8, 0, none⟩)) (.slice lA lm.length lc) (.pointer (some ⟨b17, 0, none⟩)) w := by
            clear hS
            intro w lt lA lc lm hlt hlm hBm hsz hS
            have hmid := mid_ok (g := g) (f := ⟨fm, fl, ses fL⟩) (key := key) (e := e) hF
            rw [← hlm] at hmid
            have go : ∀ w m, m = max fm e.t → St w0 F w (Res.cells b17 26 [.int .i64 m, .int .i64 lt, .slice none 0 0] :: Res.cells b13 33 [.int .i64 key, .slice Aw (putsE [e] (nearEv g key e fL)).length cw] :: Res.cells b8 26 [.int .i64 0, .int .i64 0, .slice none 0 0] :: Res.cells b7 28 (encE e) :: Res.cells b5 26 [.int .i64 fm, .int .i64 fl, .slice fA fL.length fc] :: gC b4 g :: (Y ++ L)) → m12_12 R (.pointer (some ⟨b4, 0, none⟩)) (.pointer (some ⟨b8, 0, none⟩)) (.slice lA lm.length lc) (.pointer (some ⟨b17, 0, none⟩)) w := fun w m hm hS => by
              subst hm
              refine radd_rest (N := Y) (L := L) hg ⟨by omega, by omega⟩ (by have := hmid.1; rw [List.length_map] at this; exact this) (fun s hs => ⟨hmid.2 _ (List.mem_map.2 ⟨s, hs, rfl⟩), hsz s hs⟩) (hS.pick 6 [0, 2, 5] (by simp) (by decide)) hBm ?_
              intro w A1 c1 l1 A2 c2 l2 N h1 h2 hS ho1 ho2
              refine hR _ _ ⟨fun h => absurd hok h, fun _ hn => absurd hn hlate, fun _ _ => ⟨A1, c1, l1, A2, c2, l2, N, ?_, ?_, ?_, hS, ho1, ho2⟩⟩
              · rw [hlt]
                rfl
              · rw [h1, hlm]
                rfl
              · rw [h2, hlm]
                rfl
            unfold m12_11
            first | refine valP_ok (fa28_0 _ _) ?_ | refine valP_ok (fao28_0 _ _ _) ?_
            first | refine valP_ok (ld3 (hS.cell 0 rfl rfl)) ?_ | refine valP_ok (ld3 (hS.cell 1 rfl rfl)) ?_ | refine valP_ok (ld3 (hS.cell 2 rfl rfl)) ?_ | refine valP_ok (ld3 (hS.cell 3 rfl rfl)) ?_ | refine valP_ok (ld3 (hS.cell 4 rfl rfl)) ?_ | refine valP_ok (ld3 (hS.cell 5 rfl rfl)) ?_ | refine valP_ok (ld3 (hS.cell 6 rfl rfl)) ?_ | refine valP_ok (ld3 (hS.cell 7 rfl rfl)) ?_ | refine valP_ok (ld3 (by assumption)) ?_
            first | refine valP_ok (fa26_0 _ _) ?_ | refine valP_ok (fao26_0 _ _ _) ?_
            first | refine valP_ok (ld3 (hS.cell 0 rfl rfl)) ?_ | refine valP_ok (ld3 (hS.cell 1 rfl rfl)) ?_ | refine valP_ok (ld3 (hS.cell 2 rfl rfl)) ?_ | refine valP_ok (ld3 (hS.cell 3 rfl rfl)) ?_ | refine valP_ok (ld3 (hS.cell 4 rfl rfl)) ?_ | refine valP_ok (ld3 (hS.cell 5 rfl rfl)) ?_ | refine valP_ok (ld3 (hS.cell 6 rfl rfl)) ?_ | refine valP_ok (ld3 (hS.cell 7 rfl rfl)) ?_ | refine valP_ok (ld3 (by assumption)) ?_
            refine valP_ok (gtr_ok _ _ _ _ _ _ _) ?_
            unfold m12_22
            refine cond_split (fun h5 => ?_) (fun h5 => ?_)
            · first | refine valP_ok (fa28_0 _ _) ?_ | refine valP_ok (fao28_0 _ _ _) ?_
              first | refine valP_ok (ld3 (hS.cell 0 rfl rfl)) ?_ | refine valP_ok (ld3 (hS.cell 1 rfl rfl)) ?_ | refine valP_ok (ld3 (hS.cell 2 rfl rfl)) ?_ | refine valP_ok (ld3 (hS.cell 3 rfl rfl)) ?_ | refine valP_ok (ld3 (hS.cell 4 rfl rfl)) ?_ | refine valP_ok (ld3 (hS.cell 5 rfl rfl)) ?_ | refine valP_ok (ld3 (hS.cell 6 rfl rfl)) ?_ | refine valP_ok (ld3 (hS.cell 7 rfl rfl)) ?_ | refine valP_ok (ld3 (by assumption)) ?_
              first | refine valP_ok (fa26_0 _ _) ?_ | refine valP_ok (fao26_0 _ _ _) ?_
              first | refine store_at 0 st3 hS rfl (by simp) rfl ?_ | refine store_at 1 st3 hS rfl (by simp) rfl ?_ | refine store_at 2 st3 hS rfl (by simp) rfl ?_ | refine store_at 3 st3 hS rfl (by simp) rfl ?_ | refine store_at 4 st3 hS rfl (by simp) rfl ?_ | refine store_at 5 st3 hS rfl (by simp) rfl ?_ | refine store_at 6 st3 hS rfl (by simp) rfl ?_ | refine store_at 7 st3 hS rfl (by simp) rfl ?_
              intro w hS
              simp only [List.set_cons_zero, List.set_cons_succ] at hS
              exact go w _ (by omega) hS
            · exact go w _ (by omega) hS
          have drop : ∀ w, Drop g ⟨fm, fl, ses fL⟩ key e → St w0 F w (Res.cells b17 26 [.int .i64 fm, .int .i64 fl, .slice none 0 0] :: Res.cells b13 33 [.int .i64 key, .slice Aw (putsE [e] (nearEv g key e fL)).length cw] :: Res.cells b8 26 [.int .i64 0, .int .i64 0, .slice none 0 0] :: Res.cells b7 28 (encE e) :: Res.cells b5 26 [.int .i64 fm, .int .i64 fl, .slice fA fL.length fc] :: gC b4 g :: (Y ++ L)) → ∀ t, t = true → m12_23 R (.pointer (some ⟨b4, 0, none⟩)) (.pointer (some ⟨b5, 0, none⟩)) (.pointer (some ⟨b7, 0, none⟩)) (.pointer (some ⟨b8, 0, none⟩)) (.slice A' l'.length c') (.pointer (some ⟨b17, 0, none⟩)) (.bool t) w := fun w hd hS t ht => by
            unfold m12_23
            refine cond_t ht ?_
            first | refine valP_ok (fa26_1 _ _) ?_ | refine valP_ok (fao26_1 _ _ _) ?_
            first | refine valP_ok (ld3 (hS.cell 0 rfl rfl)) ?_ | refine valP_ok (ld3 (hS.cell 1 rfl rfl)) ?_ | refine valP_ok (ld3 (hS.cell 2 rfl rfl)) ?_ | refine valP_ok (ld3 (hS.cell 3 rfl rfl)) ?_ | refine valP_ok (ld3 (hS.cell 4 rfl rfl)) ?_ | refine valP_ok (ld3 (hS.cell 5 rfl rfl)) ?_ | refine valP_ok (ld3 (hS.cell 6 rfl rfl)) ?_ | refine valP_ok (ld3 (hS.cell 7 rfl rfl)) ?_ | refine valP_ok (ld3 (by assumption)) ?_
            refine valP_ok (add_ok _ _ _ (by omega) (by omega) _) ?_
            first | refine valP_ok (fa26_1 _ _) ?_ | refine valP_ok (fao26_1 _ _ _) ?_
            first | refine store_at 0 st3 hS rfl (by simp) rfl ?_ | refine store_at 1 st3 hS rfl (by simp) rfl ?_ | refine store_at 2 st3 hS rfl (by simp) rfl ?_ | refine store_at 3 st3 hS rfl (by simp) rfl ?_ | refine store_at 4 st3 hS rfl (by simp) rfl ?_ | refine store_at 5 st3 hS rfl (by simp) rfl ?_ | refine store_at 6 st3 hS rfl (by simp) rfl ?_ | refine store_at 7 st3 hS rfl (by simp) rfl ?_
            intro w hS
            simp only [List.set_cons_zero, List.set_cons_succ] at hS
            unfold m12_24
            first | refine valP_ok (fa26_2 _ _) ?_ | refine valP_ok (fao26_2 _ _ _) ?_
            first | refine valP_ok (ld24 (hS.cell 0 rfl rfl)) ?_ | refine valP_ok (ld24 (hS.cell 1 rfl rfl)) ?_ | refine valP_ok (ld24 (hS.cell 2 rfl rfl)) ?_ | refine valP_ok (ld24 (hS.cell 3 rfl rfl)) ?_ | refine valP_ok (ld24 (hS.cell 4 rfl rfl)) ?_ | refine valP_ok (ld24 (hS.cell 5 rfl rfl)) ?_ | refine valP_ok (ld24 (hS.cell 6 rfl rfl)) ?_ | refine valP_ok (ld24 (hS.cell 7 rfl rfl)) ?_ | refine valP_ok (ld24 (by assumption)) ?_
            refine rest w _ _ _ fL (by rw [if_pos hd]) (by unfold midL; rw [if_pos hd]) hBY (fun s hs => ?_) hS
            have := (hF.span _ (List.mem_map.2 ⟨s, hs, rfl⟩)).len
            omega
          refine cond_bsplit (fun h1 => ?_) (fun h1 => ?_)
          · refine pick_t h1 ?_
            refine cond_t rfl ?_
            first | refine pick_dt (by first | assumption | omega) ?_ | refine pick_df (by first | assumption | omega) ?_ | refine pick_t (by first | rfl | assumption) ?_ | refine pick_f (by first | rfl | assumption) ?_ | refine pick_dt rfl ?_ | refine pick_df (not_not_intro rfl) ?_
            exact drop w (.inl (ht.1 h1)) hS _ rfl
          · have hno : ¬ OverT g e.t fm := fun h => by rw [ht.2 h] at h1; cases h1
            first | refine valP_ok (fa33_1 _ _) ?_ | refine valP_ok (fao33_1 _ _ _) ?_
            first | refine valP_ok (ld31 (hS.cell 0 rfl rfl)) ?_ | refine valP_ok (ld31 (hS.cell 1 rfl rfl)) ?_ | refine valP_ok (ld31 (hS.cell 2 rfl rfl)) ?_ | refine valP_ok (ld31 (hS.cell 3 rfl rfl)) ?_ | refine valP_ok (ld31 (hS.cell 4 rfl rfl)) ?_ | refine valP_ok (ld31 (hS.cell 5 rfl rfl)) ?_ | refine valP_ok (ld31 (hS.cell 6 rfl rfl)) ?_ | refine valP_ok (ld31 (hS.cell 7 rfl rfl)) ?_ | refine valP_ok (ld31 (by assumption)) ?_
            refine builtin_ok (len31 _) ?_
            refine valP_ok (gtr_ok _ _ _ _ _ _ _) ?_
            refine pick_f h1 ?_
            refine cond_split (fun h3 => ?_) (fun h3 => ?_)
            · first | refine pick_dt (by first | assumption | omega) ?_ | refine pick_df (by first | assumption | omega) ?_ | refine pick_t (by first | rfl | assumption) ?_ | refine pick_f (by first | rfl | assumption) ?_ | refine pick_dt rfl ?_ | refine pick_df (not_not_intro rfl) ?_
              refine drop w (.inr fun hj => ?_) hS _ rfl
              have := (show JoinOk g (ses fL) key e from hj).1
              omega
            · refine builtin_ok (len24 _) ?_
              refine valP_ok (gtr_ok _ _ _ _ _ _ _) ?_
              first | refine pick_dt (by first | assumption | omega) ?_ | refine pick_df (by first | assumption | omega) ?_ | refine pick_t (by first | rfl | assumption) ?_ | refine pick_f (by first | rfl | assumption) ?_ | refine pick_dt rfl ?_ | refine pick_df (not_not_intro rfl) ?_
              by_cases h4 : (64 : Int) < l'.length
              · exact drop w (.inr fun hj => by have := (show JoinOk g (ses fL) key e from hj).2; omega) hS _ (decide_eq_true h4)
              · have hj : JoinOk g (ses fL) key e := ⟨by omega, by omega⟩
                have hd : ¬ Drop g ⟨fm, fl, ses fL⟩ key e := fun h => h.elim hno fun h => h hj
                unfold m12_23
                refine cond_df h4 ?_
                refine rest w fl _ _ l' (by rw [if_neg hd]) (by unfold midL; rw [if_neg hd]; exact hl') hB' (fun s hs => ?_) hS
                rcases hin s hs with h | rfl
                · have := l64 s (farmem s h)
                  omega
                · exact hwl.2
  unfold m12_2
  first | refine ls23 0 hS rfl ?_ | refine ls23 1 hS rfl ?_ | refine ls23 2 hS rfl ?_ | refine ls23 3 hS rfl ?_ | refine ls23 4 hS rfl ?_ | refine ls23 5 hS rfl ?_ | refine ls23 6 hS rfl ?_ | refine ls23 7 hS rfl ?_ | refine valP_ok (ld23 (by assumption) (by assumption)) ?_
  first | refine ls26 0 hS rfl ?_ | refine ls26 1 hS rfl ?_ | refine ls26 2 hS rfl ?_ | refine ls26 3 hS rfl ?_ | refine ls26 4 hS rfl ?_ | refine ls26 5 hS rfl ?_ | refine ls26 6 hS rfl ?_ | refine ls26 7 hS rfl ?_ | refine valP_ok (ld26 (by assumption) (by assumption) (by assumption)) ?_
  refine callR (by kernel_rfl) (mayflow_ret (f := ⟨fm, fl, fA, fc, fL⟩) (((((hB.cons _).cons _).cons _).cons _).cons _) hS) ?_
  rintro v w ⟨⟨x, rfl, hx⟩, hS⟩
  have hx : x = true ↔ FlowOk g fm fl (ses fL) := hx
  have ok_iff : ∀ b : Bool, (!x) = b → (AddOk g ⟨fm, fl, ses fL⟩ key e ↔ b = false ∧ (0 ≤ key ∧ key ≤ 1048576) ∧ (0 ≤ e.t ∧ e.t ≤ 1099511627776)) := fun b hb => by
    subst hb
    have : ((!x) = false) ↔ FlowOk g fm fl (ses fL) := by rw [← hx]; cases x <;> simp
    rw [this]
    exact ⟨fun h => ⟨h.flow, h.key, h.time⟩, fun h => ⟨h.1, h.2.1, h.2.2⟩⟩
  first | refine valP_ok (not_ok _ _) ?_ | refine valP_ok (notb_ok _ _) ?_
  first | refine cond_split (fun hc0 => ?_) (fun hc0 => ?_) | refine cond_bsplit (fun hc0 => ?_) (fun hc0 => ?_)
  · first | refine pick_dt (by first | assumption | omega) ?_ | refine pick_df (by first | assumption | omega) ?_ | refine pick_t (by first | rfl | assumption) ?_ | refine pick_f (by first | rfl | assumption) ?_ | refine pick_dt rfl ?_ | refine pick_df (not_not_intro rfl) ?_
    first | refine pick_dt (by first | assumption | omega) ?_ | refine pick_df (by first | assumption | omega) ?_ | refine pick_t (by first | rfl | assumption) ?_ | refine pick_f (by first | rfl | assumption) ?_ | refine pick_dt rfl ?_ | refine pick_df (not_not_intro rfl) ?_
    first | refine pick_dt (by first | assumption | omega) ?_ | refine pick_df (by first | assumption | omega) ?_ | refine pick_t (by first | rfl | assumption) ?_ | refine pick_f (by first | rfl | assumption) ?_ | refine pick_dt rfl ?_ | refine pick_df (not_not_intro rfl) ?_
    first | refine pick_dt (by first | assumption | omega) ?_ | refine pick_df (by first | assumption | omega) ?_ | refine pick_t (by first | rfl | assumption) ?_ | refine pick_f (by first | rfl | assumption) ?_ | refine pick_dt rfl ?_ | refine pick_df (not_not_intro rfl) ?_
    exact leaf _ _ (by rw [ok_iff _ (by assumption)]; simp only [decide_eq_false_iff_not, Bool.true_eq_false, false_iff, true_and, false_and, not_false_eq_true] <;> first | contradiction | omega) hS
  · refine valP_ok (lss_ok _ _ _ _ _ _ _) ?_
    first | refine pick_dt (by first | assumption | omega) ?_ | refine pick_df (by first | assumption | omega) ?_ | refine pick_t (by first | rfl | assumption) ?_ | refine pick_f (by first | rfl | assumption) ?_ | refine pick_dt rfl ?_ | refine pick_df (not_not_intro rfl) ?_
    first | refine cond_split (fun hc1 => ?_) (fun hc1 => ?_) | refine cond_bsplit (fun hc1 => ?_) (fun hc1 => ?_)
    · first | refine pick_dt (by first | assumption | omega) ?_ | refine pick_df (by first | assumption | omega) ?_ | refine pick_t (by first | rfl | assumption) ?_ | refine pick_f (by first | rfl | assumption) ?_ | refine pick_dt rfl ?_ | refine pick_df (not_not_intro rfl) ?_
      first | refine pick_dt (by first | assumption | omega) ?_ | refine pick_df (by first | assumption | omega) ?_ | refine pick_t (by first | rfl | assumption) ?_ | refine pick_f (by first | rfl | assumption) ?_ | refine pick_dt rfl ?_ | refine pick_df (not_not_intro rfl) ?_
      first | refine pick_dt (by first | assumption | omega) ?_ | refine pick_df (by first | assumption | omega) ?_ | refine pick_t (by first | rfl | assumption) ?_ | refine pick_f (by first | rfl | assumption) ?_ | refine pick_dt rfl ?_ | refine pick_df (not_not_intro rfl) ?_
      exact leaf _ _ (by rw [ok_iff _ (by assumption)]; simp only [decide_eq_false_iff_not, Bool.true_eq_false, false_iff, true_and, false_and, not_false_eq_true] <;> first | contradiction | omega) hS
    · refine valP_ok (gtr_ok _ _ _ _ _ _ _) ?_
      first | refine pick_dt (by first | assumption | omega) ?_ | refine pick_df (by first | assumption | omega) ?_ | refine pick_t (by first | rfl | assumption) ?_ | refine pick_f (by first | rfl | assumption) ?_ | refine pick_dt rfl ?_ | refine pick_df (not_not_intro rfl) ?_
      first | refine cond_split (fun hc2 => ?_) (fun hc2 => ?_) | refine cond_bsplit (fun hc2 => ?_) (fun hc2 => ?_)
      · first | refine pick_dt (by first | assumption | omega) ?_ | refine pick_df (by first | assumption | omega) ?_ | refine pick_t (by first | rfl | assumption) ?_ | refine pick_f (by first | rfl | assumption) ?_ | refine pick_dt rfl ?_ | refine pick_df (not_not_intro rfl) ?_
        first | refine pick_dt (by first | assumption | omega) ?_ | refine pick_df (by first | assumption | omega) ?_ | refine pick_t (by first | rfl | assumption) ?_ | refine pick_f (by first | rfl | assumption) ?_ | refine pick_dt rfl ?_ | refine pick_df (not_not_intro rfl) ?_
        exact leaf _ _ (by rw [ok_iff _ (by assumption)]; simp only [decide_eq_false_iff_not, Bool.true_eq_false, false_iff, true_and, false_and, not_false_eq_true] <;> first | contradiction | omega) hS
      · first | refine valP_ok (fa28_0 _ _) ?_ | refine valP_ok (fao28_0 _ _ _) ?_
        first | refine valP_ok (ld3 (hS.cell 0 rfl rfl)) ?_ | refine valP_ok (ld3 (hS.cell 1 rfl rfl)) ?_ | refine valP_ok (ld3 (hS.cell 2 rfl rfl)) ?_ | refine valP_ok (ld3 (hS.cell 3 rfl rfl)) ?_ | refine valP_ok (ld3 (hS.cell 4 rfl rfl)) ?_ | refine valP_ok (ld3 (hS.cell 5 rfl rfl)) ?_ | refine valP_ok (ld3 (hS.cell 6 rfl rfl)) ?_ | refine valP_ok (ld3 (hS.cell 7 rfl rfl)) ?_ | refine valP_ok (ld3 (by assumption)) ?_
        refine valP_ok (lss_ok _ _ _ _ _ _ _) ?_
        first | refine pick_dt (by first | assumption | omega) ?_ | refine pick_df (by first | assumption | omega) ?_ | refine pick_t (by first | rfl | assumption) ?_ | refine pick_f (by first | rfl | assumption) ?_ | refine pick_dt rfl ?_ | refine pick_df (not_not_intro rfl) ?_
        first | refine cond_split (fun hc3 => ?_) (fun hc3 => ?_) | refine cond_bsplit (fun hc3 => ?_) (fun hc3 => ?_)
        · first | refine pick_dt (by first | assumption | omega) ?_ | refine pick_df (by first | assumption | omega) ?_ | refine pick_t (by first | rfl | assumption) ?_ | refine pick_f (by first | rfl | assumption) ?_ | refine pick_dt rfl ?_ | refine pick_df (not_not_intro rfl) ?_
          exact leaf _ _ (by rw [ok_iff _ (by assumption)]; simp only [decide_eq_false_iff_not, Bool.true_eq_false, false_iff, true_and, false_and, not_false_eq_true] <;> first | contradiction | omega) hS
        · first | refine valP_ok (fa28_0 _ _) ?_ | refine valP_ok (fao28_0 _ _ _) ?_
          first | refine valP_ok (ld3 (hS.cell 0 rfl rfl)) ?_ | refine valP_ok (ld3 (hS.cell 1 rfl rfl)) ?_ | refine valP_ok (ld3 (hS.cell 2 rfl rfl)) ?_ | refine valP_ok (ld3 (hS.cell 3 rfl rfl)) ?_ | refine valP_ok (ld3 (hS.cell 4 rfl rfl)) ?_ | refine valP_ok (ld3 (hS.cell 5 rfl rfl)) ?_ | refine valP_ok (ld3 (hS.cell 6 rfl rfl)) ?_ | refine valP_ok (ld3 (hS.cell 7 rfl rfl)) ?_ | refine valP_ok (ld3 (by assumption)) ?_
          refine valP_ok (gtr_ok _ _ _ _ _ _ _) ?_
          first | refine pick_dt (by first | assumption | omega) ?_ | refine pick_df (by first | assumption | omega) ?_ | refine pick_t (by first | rfl | assumption) ?_ | refine pick_f (by first | rfl | assumption) ?_ | refine pick_dt rfl ?_ | refine pick_df (not_not_intro rfl) ?_
          exact leaf _ _ (by rw [ok_iff _ (by assumption)]; simp only [decide_eq_false_iff_not, Bool.true_eq_false, false_iff, true_and, false_and, not_false_eq_true] <;> first | contradiction | omega) hS
theorem radd_ret (hf : SOk w0 F L f.A f.c f.l) (hS : St w0 F w L) : Ret Try.prog 12 #[gv g, fv f, .int .i64 key, ev e] w fun v w' => AddRes w0 F L L g f.fl key e v w' :=
  s12 _ _ _ _ (radd_m hf hS fun v w h => h)
end

end Go.Proofs.Ytojgdmcojmllkaa.M
