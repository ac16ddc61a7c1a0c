/- MayFlow: whether a state may be, by the document. -/
import Derived.Test.YtojgdmcojmllkaaS8
namespace Go.Proofs.Ytojgdmcojmllkaa.M
open Go.Proofs.Ytojgdmcojmllkaa.F Go.RowKit
set_option linter.unusedVariables false
set_option linter.unusedSimpArgs false
set_option maxRecDepth 100000
set_option maxHeartbeats 2000000
attribute [local irreducible] Res.cells Res.row Res.map Res.any World.cell? World.frozen? Instr.fieldAt Instr.loadAt Instr.storeAt Instr.indexAt Instr.lookup Instr.mapUpdate Instr.box Instr.build Instr.buildSlice Instr.extract Instr.alloc Instr.field Instr.index Instr.sliceAt Instr.makeSlice Instr.makeMap Instr.makeFunc binS Op.unary Sem.run
section
variable {w0 w : World} {F : List Nat} {L : List Res} {g : Gp} {f : Fq}
theorem mayflow_m {R : Value → World → Prop} (hf : BesS w0 F L f.A f.l) (hS : St w0 F w L)
    (hR : ∀ v w, ((∃ b, v = .bool b ∧ (b = true ↔ FlowOk g f.mark f.late (ses f.l))) ∧ St w0 F w L) → R v w) : m16 R (gv g) (fv f) w := by
  have hmax := hf.max
  obtain ⟨fm, fl, fA, fc, fL⟩ := f
  simp only at hf hR hmax
  show m16 R (gv g) (.agg #[.int .i64 fm, .int .i64 fl, .slice fA fL.length fc]) w
  unfold m16
  unfold m16_0
  refine new_ok (bx23 _ _ _) hS ?_
  intro b2 w hS
  refine new_ok (bx26 _ _ _ _) hS ?_
  intro b3 w hS
  have no : ∀ w, St w0 F w (Res.cells b3 26 [.int .i64 fm, .int .i64 fl, .slice fA fL.length fc] :: gC b2 g :: L) → ¬ FlowOk g fm fl (ses fL) → R (.bool false) w := fun w hS h => hR _ _ ⟨⟨false, rfl, by simp [h]⟩, hS.tail.tail⟩
  have leaf : ∀ w t, St w0 F w (Res.cells b3 26 [.int .i64 fm, .int .i64 fl, .slice fA fL.length fc] :: gC b2 g :: L) → (t = false ↔ BaseOk g fm fl fL.length) → m16_20 R (.pointer (some ⟨b2, 0, none⟩)) (.pointer (some ⟨b3, 0, none⟩)) (.bool t) w := by
    clear hS
    intro w t hS ht
    unfold m16_20
    cases t with
    | true =>
      refine cond_t rfl ?_
      unfold m16_21
      refine no w hS fun hF => ?_
      have := flow_pre.1 hF
      have := ht.2 ⟨this.1, this.2.1, this.2.2.1, this.2.2.2.1⟩
      cases this
    | false =>
      have hb := ht.1 rfl
      have hgap := hb.1
      have hmk := hb.2.1
      refine cond_f rfl ?_
      unfold m16_2 m16_5
      refine loop_in (fun u w' => ∃ i : Nat, u = .int .i64 i ∧ i ≤ fL.length ∧ PreOk g fm fL i ∧ St w0 F w' (Res.cells b3 26 [.int .i64 fm, .int .i64 fl, .slice fA fL.length fc] :: gC b2 g :: L)) (fun u _ => fL.length - (intOf u).toNat) ⟨0, rfl, by omega, PreOk.zero, hS⟩ ?_
      clear hS
      rintro u w ⟨i, rfl, hi, hp, hS⟩
      unfold m16_6
      first | refine valP_ok (fa26_2 _ _) ?_ | refine valP_ok (fao26_2 _ _ _) ?_
      first | refine valP_ok (ld24 (hS.cell 0 rfl rfl)) ?_ | refine valP_ok (ld24 (hS.cell 1 rfl rfl)) ?_ | refine valP_ok (ld24 (hS.cell 2 rfl rfl)) ?_ | refine valP_ok (ld24 (hS.cell 3 rfl rfl)) ?_ | refine valP_ok (ld24 (hS.cell 4 rfl rfl)) ?_ | refine valP_ok (ld24 (hS.cell 5 rfl rfl)) ?_ | refine valP_ok (ld24 (hS.cell 6 rfl rfl)) ?_ | refine valP_ok (ld24 (hS.cell 7 rfl rfl)) ?_ | refine valP_ok (ld24 (by assumption)) ?_
      refine builtin_ok (len24 _) ?_
      refine valP_ok (lss_ok _ _ _ _ _ _ _) ?_
      unfold m16_19
      refine cond_split (fun h => ?_) (fun h => ?_)
      · have hlt : i < fL.length := by omega
        have hA : ∃ b o, fA = some ⟨b, o, none⟩ := (hf.row.rd hS.tail.tail).some_ (by omega) (by omega)
        obtain ⟨b, o, rfl⟩ := hA
        have hf' := (hf.cons (gC b2 g)).cons (Res.cells b3 26 [.int .i64 fm, .int .i64 fl, .slice (some ⟨b, o, none⟩) fL.length fc])
        unfold m16_7
        refine drawn_ok hS ?_
        intro w hS
        have p := sp_at (hf'.row.rd hS) hlt
        refine valS_ok (ld23 (hS.cell 1 rfl rfl) (hS.cell 1 rfl rfl)) ?_
        refine valS_ok (fa26_2 _ _) ?_
        refine valS_ok (ld24 (hS.cell 0 rfl rfl)) ?_
        refine valS_ok (ix24 hlt _) ?_
        refine valS_ok (ld33 p.1 p.2) ?_
        refine valS_ok (fa26_0 _ _) ?_
        refine valS_ok (ld3 (hS.cell 0 rfl rfl)) ?_
        refine callR (by kernel_rfl) (rspan_ret (c := fL[i].c) (mark := fm) hgap hmk.2 (by omega) (hf.emax _ (List.getElem_mem hlt)) hS (hf'.evs _ (List.getElem_mem hlt))) ?_
        rintro v w ⟨⟨t1, rfl, ht1⟩, hS⟩
        first | refine valP_ok (not_ok _ _) ?_ | refine valP_ok (notb_ok _ _) ?_
        unfold m16_17
        cases t1 with
        | false =>
          refine cond_t rfl ?_
          unfold m16_18
          refine no w hS fun hF => ?_
          have := ht1.2 (hF.span _ (List.mem_map.2 ⟨_, List.getElem_mem hlt, rfl⟩))
          cases this
        | true =>
          have hsp := ht1.1 rfl
          refine cond_f rfl ?_
          unfold m16_9 m16_10
          refine loop_in (fun u w' => ∃ k : Nat, u = .int .i64 k ∧ k ≤ i ∧ (∀ j (hj : j < i), j < k → Bef (fL[j]'(by omega)).s fL[i].s ∧ ¬ Nea g (fL[j]'(by omega)).s fL[i].s) ∧ St w0 F w' (Res.cells b3 26 [.int .i64 fm, .int .i64 fl, .slice (some ⟨b, o, none⟩) fL.length fc] :: gC b2 g :: L)) (fun u _ => i - (intOf u).toNat) ⟨0, rfl, by omega, fun _ _ h => by omega, hS⟩ ?_
          clear hS p
          rintro u w ⟨k, rfl, hk, hK, hS⟩
          unfold m16_11
          refine valP_ok (lss_ok _ _ _ _ _ _ _) ?_
          unfold m16_16
          refine cond_split (fun h2 => ?_) (fun h2 => ?_)
          · have hki : k < i := by omega
            have hkl : k < fL.length := by omega
            have p := fun (j : Nat) (hj : j < fL.length) w (hw : Hs w0 F (Res.cells b3 26 [.int .i64 fm, .int .i64 fl, .slice (some ⟨b, o, none⟩) fL.length fc] :: gC b2 g :: L) w) => sp_at (Hs.rd hf'.row w hw) hj
            have tk := (hp.span k hkl hki).tb hmk.2
            have ti := hsp.tb hmk.2
            have ek := hf'.evs _ (List.getElem_mem hkl)
            have ei := hf'.evs _ (List.getElem_mem hlt)
            have bad : ¬ (Bef fL[k].s fL[i].s ∧ ¬ Nea g fL[k].s fL[i].s) → ¬ FlowOk g fm fl (ses fL) := fun h hF => h ((flow_pre.1 hF).2.2.2.2.pair k i hki hlt hlt)
            unfold m16_12
            refine drawn_ok hS ?_
            intro w hS
            refine held_Hs hS ?_
            first | refine valJ_ok (fa26_2 _) ?_ | refine valJ_ok (fao26_2 _ _) ?_
            first | refine valJ_load ld24 (Hs.cell 0 rfl rfl) ?_ | refine valJ_load ld24 (Hs.cell 1 rfl rfl) ?_ | refine valJ_load ld24 (Hs.cell 2 rfl rfl) ?_ | refine valJ_load ld24 (Hs.cell 3 rfl rfl) ?_ | refine valJ_load ld24 (Hs.cell 4 rfl rfl) ?_ | refine valJ_load ld24 (Hs.cell 5 rfl rfl) ?_ | refine valJ_load ld24 (Hs.cell 6 rfl rfl) ?_ | refine valJ_load ld24 (Hs.cell 7 rfl rfl) ?_ | refine valJ_load ld24 (by assumption) ?_
            refine valJ_ok (ix24 hkl) ?_
            refine valJ_at (fun w hw => ld33 (p k hkl w hw).1 (p k hkl w hw).2) ?_
            first | refine valJ_ok (fa26_2 _) ?_ | refine valJ_ok (fao26_2 _ _) ?_
            first | refine valJ_load ld24 (Hs.cell 0 rfl rfl) ?_ | refine valJ_load ld24 (Hs.cell 1 rfl rfl) ?_ | refine valJ_load ld24 (Hs.cell 2 rfl rfl) ?_ | refine valJ_load ld24 (Hs.cell 3 rfl rfl) ?_ | refine valJ_load ld24 (Hs.cell 4 rfl rfl) ?_ | refine valJ_load ld24 (Hs.cell 5 rfl rfl) ?_ | refine valJ_load ld24 (Hs.cell 6 rfl rfl) ?_ | refine valJ_load ld24 (Hs.cell 7 rfl rfl) ?_ | refine valJ_load ld24 (by assumption) ?_
            refine valJ_ok (ix24 hlt) ?_
            refine valJ_at (fun w hw => ld33 (p i hlt w hw).1 (p i hlt w hw).2) ?_
            refine callR (by kernel_rfl) (before_ret (c := fL[k].c) (c2 := fL[i].c) tk.pos ti.pos hS ek ei) ?_
            rintro v w ⟨⟨t2, rfl, ht2⟩, hS⟩
            refine stay_Hs hS (by first | exact fun _ h => h | exact fun _ h => .tail _ h | exact fun _ h => .tail _ (.tail _ h) | simp) ?_
            first | refine valJ_ok (not_ok _) ?_ | refine valJ_ok (notb_ok _) ?_
            cases t2 with
            | false =>
              refine cond_t rfl ?_
              first | refine pick_dt (by first | assumption | omega) ?_ | refine pick_df (by first | assumption | omega) ?_ | refine pick_t (by first | rfl | assumption) ?_ | refine pick_f (by first | rfl | assumption) ?_ | refine pick_dt rfl ?_ | refine pick_df (not_not_intro rfl) ?_
              unfold m16_14
              refine cond_t rfl ?_
              unfold m16_15
              exact no w hS (bad fun hb => by have := ht2.2 hb.1; cases this)
            | true =>
              have hbef := ht2.1 rfl
              refine cond_f rfl ?_
              first | refine valJ_at (fun w hw => ld23 (Hs.cell 0 rfl rfl w hw) (Hs.cell 0 rfl rfl w hw)) ?_ | refine valJ_at (fun w hw => ld23 (Hs.cell 1 rfl rfl w hw) (Hs.cell 1 rfl rfl w hw)) ?_ | refine valJ_at (fun w hw => ld23 (Hs.cell 2 rfl rfl w hw) (Hs.cell 2 rfl rfl w hw)) ?_ | refine valJ_at (fun w hw => ld23 (Hs.cell 3 rfl rfl w hw) (Hs.cell 3 rfl rfl w hw)) ?_ | refine valJ_at (fun w hw => ld23 (Hs.cell 4 rfl rfl w hw) (Hs.cell 4 rfl rfl w hw)) ?_ | refine valJ_at (fun w hw => ld23 (Hs.cell 5 rfl rfl w hw) (Hs.cell 5 rfl rfl w hw)) ?_ | refine valJ_at (fun w hw => ld23 (Hs.cell 6 rfl rfl w hw) (Hs.cell 6 rfl rfl w hw)) ?_ | refine valJ_at (fun w hw => ld23 (Hs.cell 7 rfl rfl w hw) (Hs.cell 7 rfl rfl w hw)) ?_
              first | refine valJ_ok (fa26_2 _) ?_ | refine valJ_ok (fao26_2 _ _) ?_
              first | refine valJ_load ld24 (Hs.cell 0 rfl rfl) ?_ | refine valJ_load ld24 (Hs.cell 1 rfl rfl) ?_ | refine valJ_load ld24 (Hs.cell 2 rfl rfl) ?_ | refine valJ_load ld24 (Hs.cell 3 rfl rfl) ?_ | refine valJ_load ld24 (Hs.cell 4 rfl rfl) ?_ | refine valJ_load ld24 (Hs.cell 5 rfl rfl) ?_ | refine valJ_load ld24 (Hs.cell 6 rfl rfl) ?_ | refine valJ_load ld24 (Hs.cell 7 rfl rfl) ?_ | refine valJ_load ld24 (by assumption) ?_
              refine valJ_ok (ix24 hkl) ?_
              refine valJ_at (fun w hw => ld33 (p k hkl w hw).1 (p k hkl w hw).2) ?_
              first | refine valJ_ok (fa26_2 _) ?_ | refine valJ_ok (fao26_2 _ _) ?_
              first | refine valJ_load ld24 (Hs.cell 0 rfl rfl) ?_ | refine valJ_load ld24 (Hs.cell 1 rfl rfl) ?_ | refine valJ_load ld24 (Hs.cell 2 rfl rfl) ?_ | refine valJ_load ld24 (Hs.cell 3 rfl rfl) ?_ | refine valJ_load ld24 (Hs.cell 4 rfl rfl) ?_ | refine valJ_load ld24 (Hs.cell 5 rfl rfl) ?_ | refine valJ_load ld24 (Hs.cell 6 rfl rfl) ?_ | refine valJ_load ld24 (Hs.cell 7 rfl rfl) ?_ | refine valJ_load ld24 (by assumption) ?_
              refine valJ_ok (ix24 hlt) ?_
              refine valJ_at (fun w hw => ld33 (p i hlt w hw).1 (p i hlt w hw).2) ?_
              refine callR (by kernel_rfl) (one_ret (c := fL[k].c) (c2 := fL[i].c) hgap tk ti hS ek ei) ?_
              rintro v w ⟨⟨t3, rfl, ht3⟩, hS⟩
              refine stay_Hs hS (by first | exact fun _ h => h | exact fun _ h => .tail _ h | exact fun _ h => .tail _ (.tail _ h) | simp) ?_
              first | refine pick_dt (by first | assumption | omega) ?_ | refine pick_df (by first | assumption | omega) ?_ | refine pick_t (by first | rfl | assumption) ?_ | refine pick_f (by first | rfl | assumption) ?_ | refine pick_dt rfl ?_ | refine pick_df (not_not_intro rfl) ?_
              unfold m16_14
              cases t3 with
              | true =>
                refine cond_t rfl ?_
                unfold m16_15
                exact no w hS (bad fun hb => hb.2 (ht3.1 rfl))
              | false =>
                refine cond_f rfl ?_
                unfold m16_13
                refine valP_ok (add_ok _ _ _ (by omega) (by omega) _) ?_
                refine ⟨⟨k + 1, rfl, by omega, fun j hj hjk => ?_, hS⟩, by simp [intOf]; omega⟩
                by_cases e : j = k
                · subst e
                  exact ⟨hbef, fun hn => by have := ht3.2 hn; cases this⟩
                · exact hK j hj (by omega)
          · unfold m16_8
            refine valP_ok (add_ok _ _ _ (by omega) (by omega) _) ?_
            refine ⟨⟨i + 1, rfl, by omega, ?_, hS⟩, by simp [intOf]; omega⟩
            exact pre_step hp hlt hsp (fun h0 => (hK (i - 1) (by omega) (by omega)).1) fun k hk => (hK k hk (by omega)).2
      · unfold m16_3 m16_4
        exact hR _ _ ⟨⟨true, rfl, by simp only [true_iff]; exact pre_or (f := ⟨fm, fl, fA, fc, fL⟩) hb hp (by simp only; omega)⟩, hS.tail.tail⟩
  unfold m16_1
  first | refine ls23 0 hS rfl ?_ | refine ls23 1 hS rfl ?_ | refine ls23 2 hS rfl ?_ | refine ls23 3 hS rfl ?_ | refine ls23 4 hS rfl ?_ | refine ls23 5 hS rfl ?_ | refine ls23 6 hS rfl ?_ | refine ls23 7 hS rfl ?_ | refine valP_ok (ld23 (by assumption) (by assumption)) ?_
  refine callR (by kernel_rfl) (rmay_ret hS) ?_
  rintro v w ⟨⟨t, rfl, ht⟩, hS⟩
  have ht' : ∀ b : Bool, (!t) = b → (b = false ↔ GapOk g) := fun b h => by subst h; rw [← ht]; cases t <;> simp
  first | refine valP_ok (not_ok _ _) ?_ | refine valP_ok (notb_ok _ _) ?_
  first | refine cond_split (fun hc0 => ?_) (fun hc0 => ?_) | refine cond_bsplit (fun hc0 => ?_) (fun hc0 => ?_)
  · first | refine pick_dt (by first | assumption | omega) ?_ | refine pick_df (by first | assumption | omega) ?_ | refine pick_t (by first | rfl | assumption) ?_ | refine pick_f (by first | rfl | assumption) ?_ | refine pick_dt rfl ?_ | refine pick_df (not_not_intro rfl) ?_
    first | refine pick_dt (by first | assumption | omega) ?_ | refine pick_df (by first | assumption | omega) ?_ | refine pick_t (by first | rfl | assumption) ?_ | refine pick_f (by first | rfl | assumption) ?_ | refine pick_dt rfl ?_ | refine pick_df (not_not_intro rfl) ?_
    first | refine pick_dt (by first | assumption | omega) ?_ | refine pick_df (by first | assumption | omega) ?_ | refine pick_t (by first | rfl | assumption) ?_ | refine pick_f (by first | rfl | assumption) ?_ | refine pick_dt rfl ?_ | refine pick_df (not_not_intro rfl) ?_
    first | refine pick_dt (by first | assumption | omega) ?_ | refine pick_df (by first | assumption | omega) ?_ | refine pick_t (by first | rfl | assumption) ?_ | refine pick_f (by first | rfl | assumption) ?_ | refine pick_dt rfl ?_ | refine pick_df (not_not_intro rfl) ?_
    first | refine pick_dt (by first | assumption | omega) ?_ | refine pick_df (by first | assumption | omega) ?_ | refine pick_t (by first | rfl | assumption) ?_ | refine pick_f (by first | rfl | assumption) ?_ | refine pick_dt rfl ?_ | refine pick_df (not_not_intro rfl) ?_
    exact leaf _ _ hS (by have ht := ht' _ (by assumption); unfold BaseOk; simp only [decide_eq_false_iff_not, Bool.true_eq_false, false_iff, true_iff] at ht ⊢ <;> first | contradiction | exact fun h => ht h.1 | (intro h; omega) | exact ⟨fun h => ⟨ht, by omega, by omega, by omega⟩, fun h => by have := h.2.2.2; omega⟩ | omega)
  · first | refine valP_ok (fa26_0 _ _) ?_ | refine valP_ok (fao26_0 _ _ _) ?_
    first | refine valP_ok (ld3 (hS.cell 0 rfl rfl)) ?_ | refine valP_ok (ld3 (hS.cell 1 rfl rfl)) ?_ | refine valP_ok (ld3 (hS.cell 2 rfl rfl)) ?_ | refine valP_ok (ld3 (hS.cell 3 rfl rfl)) ?_ | refine valP_ok (ld3 (hS.cell 4 rfl rfl)) ?_ | refine valP_ok (ld3 (hS.cell 5 rfl rfl)) ?_ | refine valP_ok (ld3 (hS.cell 6 rfl rfl)) ?_ | refine valP_ok (ld3 (hS.cell 7 rfl rfl)) ?_ | refine valP_ok (ld3 (by assumption)) ?_
    refine valP_ok (lss_ok _ _ _ _ _ _ _) ?_
    first | refine pick_dt (by first | assumption | omega) ?_ | refine pick_df (by first | assumption | omega) ?_ | refine pick_t (by first | rfl | assumption) ?_ | refine pick_f (by first | rfl | assumption) ?_ | refine pick_dt rfl ?_ | refine pick_df (not_not_intro rfl) ?_
    first | refine cond_split (fun hc1 => ?_) (fun hc1 => ?_) | refine cond_bsplit (fun hc1 => ?_) (fun hc1 => ?_)
    · first | refine pick_dt (by first | assumption | omega) ?_ | refine pick_df (by first | assumption | omega) ?_ | refine pick_t (by first | rfl | assumption) ?_ | refine pick_f (by first | rfl | assumption) ?_ | refine pick_dt rfl ?_ | refine pick_df (not_not_intro rfl) ?_
      first | refine pick_dt (by first | assumption | omega) ?_ | refine pick_df (by first | assumption | omega) ?_ | refine pick_t (by first | rfl | assumption) ?_ | refine pick_f (by first | rfl | assumption) ?_ | refine pick_dt rfl ?_ | refine pick_df (not_not_intro rfl) ?_
      first | refine pick_dt (by first | assumption | omega) ?_ | refine pick_df (by first | assumption | omega) ?_ | refine pick_t (by first | rfl | assumption) ?_ | refine pick_f (by first | rfl | assumption) ?_ | refine pick_dt rfl ?_ | refine pick_df (not_not_intro rfl) ?_
      first | refine pick_dt (by first | assumption | omega) ?_ | refine pick_df (by first | assumption | omega) ?_ | refine pick_t (by first | rfl | assumption) ?_ | refine pick_f (by first | rfl | assumption) ?_ | refine pick_dt rfl ?_ | refine pick_df (not_not_intro rfl) ?_
      exact leaf _ _ hS (by have ht := ht' _ (by assumption); unfold BaseOk; simp only [decide_eq_false_iff_not, Bool.true_eq_false, false_iff, true_iff] at ht ⊢ <;> first | contradiction | exact fun h => ht h.1 | (intro h; omega) | exact ⟨fun h => ⟨ht, by omega, by omega, by omega⟩, fun h => by have := h.2.2.2; omega⟩ | omega)
    · first | refine valP_ok (fa26_0 _ _) ?_ | refine valP_ok (fao26_0 _ _ _) ?_
      first | refine valP_ok (ld3 (hS.cell 0 rfl rfl)) ?_ | refine valP_ok (ld3 (hS.cell 1 rfl rfl)) ?_ | refine valP_ok (ld3 (hS.cell 2 rfl rfl)) ?_ | refine valP_ok (ld3 (hS.cell 3 rfl rfl)) ?_ | refine valP_ok (ld3 (hS.cell 4 rfl rfl)) ?_ | refine valP_ok (ld3 (hS.cell 5 rfl rfl)) ?_ | refine valP_ok (ld3 (hS.cell 6 rfl rfl)) ?_ | refine valP_ok (ld3 (hS.cell 7 rfl rfl)) ?_ | refine valP_ok (ld3 (by assumption)) ?_
      refine valP_ok (gtr_ok _ _ _ _ _ _ _) ?_
      first | refine pick_dt (by first | assumption | omega) ?_ | refine pick_df (by first | assumption | omega) ?_ | refine pick_t (by first | rfl | assumption) ?_ | refine pick_f (by first | rfl | assumption) ?_ | refine pick_dt rfl ?_ | refine pick_df (not_not_intro rfl) ?_
      first | refine cond_split (fun hc2 => ?_) (fun hc2 => ?_) | refine cond_bsplit (fun hc2 => ?_) (fun hc2 => ?_)
      · first | refine pick_dt (by first | assumption | omega) ?_ | refine pick_df (by first | assumption | omega) ?_ | refine pick_t (by first | rfl | assumption) ?_ | refine pick_f (by first | rfl | assumption) ?_ | refine pick_dt rfl ?_ | refine pick_df (not_not_intro rfl) ?_
        first | refine pick_dt (by first | assumption | omega) ?_ | refine pick_df (by first | assumption | omega) ?_ | refine pick_t (by first | rfl | assumption) ?_ | refine pick_f (by first | rfl | assumption) ?_ | refine pick_dt rfl ?_ | refine pick_df (not_not_intro rfl) ?_
        first | refine pick_dt (by first | assumption | omega) ?_ | refine pick_df (by first | assumption | omega) ?_ | refine pick_t (by first | rfl | assumption) ?_ | refine pick_f (by first | rfl | assumption) ?_ | refine pick_dt rfl ?_ | refine pick_df (not_not_intro rfl) ?_
        exact leaf _ _ hS (by have ht := ht' _ (by assumption); unfold BaseOk; simp only [decide_eq_false_iff_not, Bool.true_eq_false, false_iff, true_iff] at ht ⊢ <;> first | contradiction | exact fun h => ht h.1 | (intro h; omega) | exact ⟨fun h => ⟨ht, by omega, by omega, by omega⟩, fun h => by have := h.2.2.2; omega⟩ | omega)
      · first | refine valP_ok (fa26_1 _ _) ?_ | refine valP_ok (fao26_1 _ _ _) ?_
        first | refine valP_ok (ld3 (hS.cell 0 rfl rfl)) ?_ | refine valP_ok (ld3 (hS.cell 1 rfl rfl)) ?_ | refine valP_ok (ld3 (hS.cell 2 rfl rfl)) ?_ | refine valP_ok (ld3 (hS.cell 3 rfl rfl)) ?_ | refine valP_ok (ld3 (hS.cell 4 rfl rfl)) ?_ | refine valP_ok (ld3 (hS.cell 5 rfl rfl)) ?_ | refine valP_ok (ld3 (hS.cell 6 rfl rfl)) ?_ | refine valP_ok (ld3 (hS.cell 7 rfl rfl)) ?_ | refine valP_ok (ld3 (by assumption)) ?_
        refine valP_ok (lss_ok _ _ _ _ _ _ _) ?_
        first | refine pick_dt (by first | assumption | omega) ?_ | refine pick_df (by first | assumption | omega) ?_ | refine pick_t (by first | rfl | assumption) ?_ | refine pick_f (by first | rfl | assumption) ?_ | refine pick_dt rfl ?_ | refine pick_df (not_not_intro rfl) ?_
        first | refine cond_split (fun hc3 => ?_) (fun hc3 => ?_) | refine cond_bsplit (fun hc3 => ?_) (fun hc3 => ?_)
        · first | refine pick_dt (by first | assumption | omega) ?_ | refine pick_df (by first | assumption | omega) ?_ | refine pick_t (by first | rfl | assumption) ?_ | refine pick_f (by first | rfl | assumption) ?_ | refine pick_dt rfl ?_ | refine pick_df (not_not_intro rfl) ?_
          first | refine pick_dt (by first | assumption | omega) ?_ | refine pick_df (by first | assumption | omega) ?_ | refine pick_t (by first | rfl | assumption) ?_ | refine pick_f (by first | rfl | assumption) ?_ | refine pick_dt rfl ?_ | refine pick_df (not_not_intro rfl) ?_
          exact leaf _ _ hS (by have ht := ht' _ (by assumption); unfold BaseOk; simp only [decide_eq_false_iff_not, Bool.true_eq_false, false_iff, true_iff] at ht ⊢ <;> first | contradiction | exact fun h => ht h.1 | (intro h; omega) | exact ⟨fun h => ⟨ht, by omega, by omega, by omega⟩, fun h => by have := h.2.2.2; omega⟩ | omega)
        · first | refine valP_ok (fa26_1 _ _) ?_ | refine valP_ok (fao26_1 _ _ _) ?_
          first | refine valP_ok (ld3 (hS.cell 0 rfl rfl)) ?_ | refine valP_ok (ld3 (hS.cell 1 rfl rfl)) ?_ | refine valP_ok (ld3 (hS.cell 2 rfl rfl)) ?_ | refine valP_ok (ld3 (hS.cell 3 rfl rfl)) ?_ | refine valP_ok (ld3 (hS.cell 4 rfl rfl)) ?_ | refine valP_ok (ld3 (hS.cell 5 rfl rfl)) ?_ | refine valP_ok (ld3 (hS.cell 6 rfl rfl)) ?_ | refine valP_ok (ld3 (hS.cell 7 rfl rfl)) ?_ | refine valP_ok (ld3 (by assumption)) ?_
          refine valP_ok (gtr_ok _ _ _ _ _ _ _) ?_
          first | refine pick_dt (by first | assumption | omega) ?_ | refine pick_df (by first | assumption | omega) ?_ | refine pick_t (by first | rfl | assumption) ?_ | refine pick_f (by first | rfl | assumption) ?_ | refine pick_dt rfl ?_ | refine pick_df (not_not_intro rfl) ?_
          first | refine cond_split (fun hc4 => ?_) (fun hc4 => ?_) | refine cond_bsplit (fun hc4 => ?_) (fun hc4 => ?_)
          · first | refine pick_dt (by first | assumption | omega) ?_ | refine pick_df (by first | assumption | omega) ?_ | refine pick_t (by first | rfl | assumption) ?_ | refine pick_f (by first | rfl | assumption) ?_ | refine pick_dt rfl ?_ | refine pick_df (not_not_intro rfl) ?_
            exact leaf _ _ hS (by have ht := ht' _ (by assumption); unfold BaseOk; simp only [decide_eq_false_iff_not, Bool.true_eq_false, false_iff, true_iff] at ht ⊢ <;> first | contradiction | exact fun h => ht h.1 | (intro h; omega) | exact ⟨fun h => ⟨ht, by omega, by omega, by omega⟩, fun h => by have := h.2.2.2; omega⟩ | omega)
          · first | refine valP_ok (fa26_2 _ _) ?_ | refine valP_ok (fao26_2 _ _ _) ?_
            first | refine valP_ok (ld24 (hS.cell 0 rfl rfl)) ?_ | refine valP_ok (ld24 (hS.cell 1 rfl rfl)) ?_ | refine valP_ok (ld24 (hS.cell 2 rfl rfl)) ?_ | refine valP_ok (ld24 (hS.cell 3 rfl rfl)) ?_ | refine valP_ok (ld24 (hS.cell 4 rfl rfl)) ?_ | refine valP_ok (ld24 (hS.cell 5 rfl rfl)) ?_ | refine valP_ok (ld24 (hS.cell 6 rfl rfl)) ?_ | refine valP_ok (ld24 (hS.cell 7 rfl rfl)) ?_ | refine valP_ok (ld24 (by assumption)) ?_
            refine builtin_ok (len24 _) ?_
            refine valP_ok (gtr_ok _ _ _ _ _ _ _) ?_
            first | refine pick_dt (by first | assumption | omega) ?_ | refine pick_df (by first | assumption | omega) ?_ | refine pick_t (by first | rfl | assumption) ?_ | refine pick_f (by first | rfl | assumption) ?_ | refine pick_dt rfl ?_ | refine pick_df (not_not_intro rfl) ?_
            exact leaf _ _ hS (by have ht := ht' _ (by assumption); unfold BaseOk; simp only [decide_eq_false_iff_not, Bool.true_eq_false, false_iff, true_iff] at ht ⊢ <;> first | contradiction | exact fun h => ht h.1 | (intro h; omega) | exact ⟨fun h => ⟨ht, by omega, by omega, by omega⟩, fun h => by have := h.2.2.2; omega⟩ | omega)
theorem mayflow_ret (hf : BesS w0 F L f.A f.l) (hS : St w0 F w L) :
    Ret Try.prog 16 #[gv g, fv f] w fun v w' => (∃ b, v = .bool b ∧ (b = true ↔ FlowOk g f.mark f.late (ses f.l))) ∧ St w0 F w' L :=
  s16 _ _ (mayflow_m hf hS fun v w h => h)
end

end Go.Proofs.Ytojgdmcojmllkaa.M
