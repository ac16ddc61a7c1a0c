/- Check, MayFlow. -/
import Derived.Test.YtojgdmcojmllkaaS7
namespace Go.Proofs.Ytojgdmcojmllkaa.M
open Go.Proofs.Ytojgdmcojmllkaa.F Go.RowKit
set_option linter.unusedVariables false
set_option linter.unusedSimpArgs false
set_option maxRecDepth 100000
set_option maxHeartbeats 2000000
attribute [local irreducible] Res.cells Res.row Res.map Res.any World.cell? World.frozen? Instr.fieldAt Instr.loadAt Instr.storeAt Instr.indexAt Instr.lookup Instr.mapUpdate Instr.box Instr.build Instr.buildSlice Instr.extract Instr.alloc Instr.field Instr.index Instr.sliceAt Instr.makeSlice Instr.makeMap Instr.makeFunc binS Op.unary Sem.run
section
variable {w0 w : World} {F : List Nat} {L : List Res} {g : Gp} {f : Fq}
def BaseOk (g : Gp) (fm fl : Int) (n : Nat) : Prop := GapOk g ∧ (-1 ≤ fm ∧ fm ≤ 1099511627776) ∧ (0 ≤ fl ∧ fl ≤ 1099511627776) ∧ n ≤ 64
theorem cell_N {b i : Nat} {Ls : List Res} (hS : St w0 F w (Res.cells b 3 [.int .i64 (i : Int)] :: Ls)) : cellN w (.pointer (some ⟨b, 0, none⟩)) = i := by
  unfold cellN
  simp only
  rw [hS.cell 0 rfl rfl]
  simp [intOf]
theorem pre_or {i : Nat} (hb : BaseOk g f.mark f.late f.l.length) (hp : PreOk g f.mark f.l i) (hi : i = f.l.length) : FlowOk g f.mark f.late (ses f.l) := by
  subst hi
  exact flow_pre.2 ⟨hb.1, hb.2.1, hb.2.2.1, hb.2.2.2, hp⟩
theorem check_m {R : Value → World → Prop} (hc : f.l.length ≤ f.c) (hf : BesS w0 F L f.A f.l) (hS : St w0 F w L)
    (hR : ∀ v w, ((∃ e : Int, v = .int .i64 e ∧ (e = 0 ∨ e = 1) ∧ (e = 0 ↔ FlowOk g f.mark f.late (ses f.l))) ∧ St w0 F w L) → R v w) : m15 R (gv g) (fv f) w := by
  have hmax := hf.max
  obtain ⟨fm, fl, fA, fc, fL⟩ := f
  simp only at hf hR hmax hc
  show m15 R (gv g) (.agg #[.int .i64 fm, .int .i64 fl, .slice fA fL.length fc]) w
  unfold m15
  unfold m15_0
  refine new_ok (bx23 _ _ _) hS ?_
  intro b2 w hS
  refine new_ok (bx26 _ _ _ _) hS ?_
  intro b3 w hS
  have fin : ∀ w t, St w0 F w L → (t = true ↔ FlowOk g fm fl (ses fL)) → m15_3 R (.bool t) w := fun w t hS ht => by
    unfold m15_3
    refine valP_ok (notb_ok _ _) ?_
    unfold m15_6
    cases t with
    | true =>
      refine cond_f rfl ?_
      unfold m15_4 m15_5
      exact hR _ _ ⟨⟨0, rfl, .inl rfl, by simp only [true_iff] at ht ⊢; exact ht⟩, hS⟩
    | false =>
      refine cond_t rfl ?_
      unfold m15_7
      exact hR _ _ ⟨⟨1, rfl, .inr rfl, by simp only [Bool.false_eq_true, false_iff] at ht; simp [ht]⟩, hS⟩
  have leaf : ∀ w t, St w0 F w (Res.cells b3 26 [.int .i64 fm, .int .i64 fl, .slice fA fL.length fc] :: gC b2 g :: L) → (t = true ↔ BaseOk g fm fl fL.length) → m15_2 R (.pointer (some ⟨b2, 0, none⟩)) (.pointer (some ⟨b3, 0, none⟩)) (.bool t) w := by
    clear hS
    intro w t hS ht
    unfold m15_2
    refine new_ok (al3 _) hS ?_
    intro b6 w hS
    first | refine store_at 0 st3 hS rfl (by simp) rfl ?_ | refine store_at 1 st3 hS rfl (by simp) rfl ?_ | refine store_at 2 st3 hS rfl (by simp) rfl ?_ | refine store_at 3 st3 hS rfl (by simp) rfl ?_ | refine store_at 4 st3 hS rfl (by simp) rfl ?_ | refine store_at 5 st3 hS rfl (by simp) rfl ?_ | refine store_at 6 st3 hS rfl (by simp) rfl ?_ | refine store_at 7 st3 hS rfl (by simp) rfl ?_
    intro w hS
    simp only [List.set_cons_zero, List.set_cons_succ] at hS
    unfold m15_8
    refine loop_in (fun u w' => ∃ (ok : Bool) (i b6 : Nat), u = (.bool ok, .pointer (some ⟨b6, 0, none⟩)) ∧ i ≤ fL.length ∧ (ok = true → BaseOk g fm fl fL.length ∧ PreOk g fm fL i) ∧ (ok = false → ¬ FlowOk g fm fl (ses fL)) ∧ St w0 F w' (Res.cells b6 3 [.int .i64 (i : Int)] :: Res.cells b3 26 [.int .i64 fm, .int .i64 fl, .slice fA fL.length fc] :: gC b2 g :: L)) (fun u w => fL.length - cellN w u.2) ⟨t, 0, _, rfl, by omega, fun h => ⟨ht.1 h, PreOk.zero⟩, fun h hf => ?_, hS⟩ ?_
    · have := flow_pre.1 hf
      rw [ht.2 ⟨this.1, this.2.1, this.2.2.1, this.2.2.2.1⟩] at h
      cases h
    clear hS
    rintro u w ⟨ok, i, b6, rfl, hi, h1, h2, hS⟩
    unfold m15_9
    cases ok with
    | false =>
      refine cond_f rfl ?_
      first | refine pick_dt (by first | assumption | omega) ?_ | refine pick_df (by first | assumption | omega) ?_ | refine pick_t (by first | rfl | assumption) ?_ | refine pick_f (by first | rfl | assumption) ?_ | refine pick_dt rfl ?_ | refine pick_df (not_not_intro rfl) ?_
      unfold m15_15
      refine cond_f rfl ?_
      exact fin w false hS.tail.tail.tail (by simp [h2 rfl])
    | true =>
      obtain ⟨hb, hp⟩ := h1 rfl
      clear h1 h2
      refine cond_t rfl ?_
      first | refine valP_ok (ld3 (hS.cell 0 rfl rfl)) ?_ | refine valP_ok (ld3 (hS.cell 1 rfl rfl)) ?_ | refine valP_ok (ld3 (hS.cell 2 rfl rfl)) ?_ | refine valP_ok (ld3 (hS.cell 3 rfl rfl)) ?_ | refine valP_ok (ld3 (hS.cell 4 rfl rfl)) ?_ | refine valP_ok (ld3 (hS.cell 5 rfl rfl)) ?_ | refine valP_ok (ld3 (hS.cell 6 rfl rfl)) ?_ | refine valP_ok (ld3 (hS.cell 7 rfl rfl)) ?_ | refine valP_ok (ld3 (by assumption)) ?_
      first | refine valP_ok (fa26_2 _ _) ?_ | refine valP_ok (fao26_2 _ _ _) ?_
      first | refine valP_ok (ld24 (hS.cell 0 rfl rfl)) ?_ | refine valP_ok (ld24 (hS.cell 1 rfl rfl)) ?_ | refine valP_ok (ld24 (hS.cell 2 rfl rfl)) ?_ | refine valP_ok (ld24 (hS.cell 3 rfl rfl)) ?_ | refine valP_ok (ld24 (hS.cell 4 rfl rfl)) ?_ | refine valP_ok (ld24 (hS.cell 5 rfl rfl)) ?_ | refine valP_ok (ld24 (hS.cell 6 rfl rfl)) ?_ | refine valP_ok (ld24 (hS.cell 7 rfl rfl)) ?_ | refine valP_ok (ld24 (by assumption)) ?_
      refine builtin_ok (len24 _) ?_
      refine valP_ok (lss_ok _ _ _ _ _ _ _) ?_
      first | refine pick_dt (by first | assumption | omega) ?_ | refine pick_df (by first | assumption | omega) ?_ | refine pick_t (by first | rfl | assumption) ?_ | refine pick_f (by first | rfl | assumption) ?_ | refine pick_dt rfl ?_ | refine pick_df (not_not_intro rfl) ?_
      unfold m15_15
      refine cond_split (fun h => ?_) (fun h => ?_)
      · have hlt : i < fL.length := by omega
        have hA : ∃ b o, fA = some ⟨b, o, none⟩ := (hf.row.rd hS.tail.tail.tail).some_ (by omega) (by omega)
        obtain ⟨b, o, rfl⟩ := hA
        have hf' := ((hf.cons (gC b2 g)).cons (Res.cells b3 26 [.int .i64 fm, .int .i64 fl, .slice (some ⟨b, o, none⟩) fL.length fc])).cons (Res.cells b6 3 [.int .i64 (i : Int)])
        have p := fun (j : Nat) (hj : j < fL.length) w (hw : Hs w0 F (Res.cells b6 3 [.int .i64 (i : Int)] :: Res.cells b3 26 [.int .i64 fm, .int .i64 fl, .slice (some ⟨b, o, none⟩) fL.length fc] :: gC b2 g :: L) w) => sp_at (Hs.rd hf'.row w hw) hj
        have hgap := hb.1
        have hmk := hb.2.1
        have cell := cell_N hS
        have step : ∀ w (t : Bool), (t = true → PreOk g fm fL (i + 1)) → (t = false → ¬ FlowOk g fm fl (ses fL)) → St w0 F w (Res.cells b6 3 [.int .i64 (i : Int)] :: Res.cells b3 26 [.int .i64 fm, .int .i64 fl, .slice (some ⟨b, o, none⟩) fL.length fc] :: gC b2 g :: L) → ∀ K : Value × Value → World → Prop, (∀ w b6, St w0 F w (Res.cells b6 3 [.int .i64 ((i + 1 : Nat) : Int)] :: Res.cells b3 26 [.int .i64 fm, .int .i64 fl, .slice (some ⟨b, o, none⟩) fL.length fc] :: gC b2 g :: L) → K (.bool t, .pointer (some ⟨b6, 0, none⟩)) w) → m15_11 R K (.pointer (some ⟨b2, 0, none⟩)) (.pointer (some ⟨b3, 0, none⟩)) (.bool t) (.pointer (some ⟨b6, 0, none⟩)) w := by
          clear hS cell
          intro w t _ _ hS K hK
          unfold m15_11
          first | refine valP_ok (ld3 (hS.cell 0 rfl rfl)) ?_ | refine valP_ok (ld3 (hS.cell 1 rfl rfl)) ?_ | refine valP_ok (ld3 (hS.cell 2 rfl rfl)) ?_ | refine valP_ok (ld3 (hS.cell 3 rfl rfl)) ?_ | refine valP_ok (ld3 (hS.cell 4 rfl rfl)) ?_ | refine valP_ok (ld3 (hS.cell 5 rfl rfl)) ?_ | refine valP_ok (ld3 (hS.cell 6 rfl rfl)) ?_ | refine valP_ok (ld3 (hS.cell 7 rfl rfl)) ?_ | refine valP_ok (ld3 (by assumption)) ?_
          unfold m15_13
          refine new_ok (al3 _) hS ?_
          intro b7 w hS
          refine store_at 0 st3 hS rfl (by simp) rfl ?_
          intro w hS
          simp only [List.set_cons_zero, List.set_cons_succ] at hS
          unfold m15_12
          refine valP_ok (ld3 (hS.cell 0 rfl rfl)) ?_
          refine valP_ok (add_ok _ _ _ (by omega) (by omega) _) ?_
          refine store_at 0 st3 hS rfl (by simp) rfl ?_
          intro w hS
          simp only [List.set_cons_zero, List.set_cons_succ] at hS
          exact hK w b7 (hS.pick 2 [0] (by simp) (by decide))
        have inv : ∀ (t : Bool), (t = true → PreOk g fm fL (i + 1)) → (t = false → ¬ FlowOk g fm fl (ses fL)) → ∀ w b6', St w0 F w (Res.cells b6' 3 [.int .i64 ((i + 1 : Nat) : Int)] :: Res.cells b3 26 [.int .i64 fm, .int .i64 fl, .slice (some ⟨b, o, none⟩) fL.length fc] :: gC b2 g :: L) → (∃ (ok : Bool) (i b6 : Nat), ((Value.bool t, Value.pointer (some ⟨b6', 0, none⟩)) : Value × Value) = (.bool ok, .pointer (some ⟨b6, 0, none⟩)) ∧ i ≤ fL.length ∧ (ok = true → BaseOk g fm fl fL.length ∧ PreOk g fm fL i) ∧ (ok = false → ¬ FlowOk g fm fl (ses fL)) ∧ St w0 F w (Res.cells b6 3 [.int .i64 (i : Int)] :: Res.cells b3 26 [.int .i64 fm, .int .i64 fl, .slice (some ⟨b, o, none⟩) fL.length fc] :: gC b2 g :: L)) ∧ fL.length - cellN w (.pointer (some ⟨b6', 0, none⟩)) < fL.length - i := fun t h1 h2 w b6' hS => by
          refine ⟨⟨t, i + 1, b6', rfl, by omega, fun h => ⟨hb, h1 h⟩, h2, hS⟩, ?_⟩
          rw [cell_N hS]
          omega
        rw [cell]
        unfold m15_10
        refine drawn_ok hS ?_
        intro w hS
        refine held_Hs hS ?_
        first | refine valJ_at (fun w hw => ld23 (Hs.cell 0 rfl rfl w hw) (Hs.cell 0 rfl rfl w hw)) ?_ | refine valJ_at (fun w hw => ld23 (Hs.cell 1 rfl rfl w hw) (Hs.cell 1 rfl rfl w hw)) ?_ | refine valJ_at (fun w hw => ld23 (Hs.cell 2 rfl rfl w hw) (Hs.cell 2 rfl rfl w hw)) ?_ | refine valJ_at (fun w hw => ld23 (Hs.cell 3 rfl rfl w hw) (Hs.cell 3 rfl rfl w hw)) ?_ | refine valJ_at (fun w hw => ld23 (Hs.cell 4 rfl rfl w hw) (Hs.cell 4 rfl rfl w hw)) ?_ | refine valJ_at (fun w hw => ld23 (Hs.cell 5 rfl rfl w hw) (Hs.cell 5 rfl rfl w hw)) ?_ | refine valJ_at (fun w hw => ld23 (Hs.cell 6 rfl rfl w hw) (Hs.cell 6 rfl rfl w hw)) ?_ | refine valJ_at (fun w hw => ld23 (Hs.cell 7 rfl rfl w hw) (Hs.cell 7 rfl rfl w hw)) ?_
        first | refine valJ_ok (fa26_2 _) ?_ | refine valJ_ok (fao26_2 _ _) ?_
        first | refine valJ_load ld24 (Hs.cell 0 rfl rfl) ?_ | refine valJ_load ld24 (Hs.cell 1 rfl rfl) ?_ | refine valJ_load ld24 (Hs.cell 2 rfl rfl) ?_ | refine valJ_load ld24 (Hs.cell 3 rfl rfl) ?_ | refine valJ_load ld24 (Hs.cell 4 rfl rfl) ?_ | refine valJ_load ld24 (Hs.cell 5 rfl rfl) ?_ | refine valJ_load ld24 (Hs.cell 6 rfl rfl) ?_ | refine valJ_load ld24 (Hs.cell 7 rfl rfl) ?_ | refine valJ_load ld24 (by assumption) ?_
        first | refine valJ_load ld3 (Hs.cell 0 rfl rfl) ?_ | refine valJ_load ld3 (Hs.cell 1 rfl rfl) ?_ | refine valJ_load ld3 (Hs.cell 2 rfl rfl) ?_ | refine valJ_load ld3 (Hs.cell 3 rfl rfl) ?_ | refine valJ_load ld3 (Hs.cell 4 rfl rfl) ?_ | refine valJ_load ld3 (Hs.cell 5 rfl rfl) ?_ | refine valJ_load ld3 (Hs.cell 6 rfl rfl) ?_ | refine valJ_load ld3 (Hs.cell 7 rfl rfl) ?_ | refine valJ_load ld3 (by assumption) ?_
        first | refine valJ_ok (ixz24 (by first | assumption | omega)) ?_ | refine valJ_ok (ix24 (by first | assumption | omega)) ?_
        refine valJ_at (fun w hw => ld33 (p i hlt w hw).1 (p i hlt w hw).2) ?_
        first | refine valJ_ok (fa26_0 _) ?_ | refine valJ_ok (fao26_0 _ _) ?_
        first | refine valJ_load ld3 (Hs.cell 0 rfl rfl) ?_ | refine valJ_load ld3 (Hs.cell 1 rfl rfl) ?_ | refine valJ_load ld3 (Hs.cell 2 rfl rfl) ?_ | refine valJ_load ld3 (Hs.cell 3 rfl rfl) ?_ | refine valJ_load ld3 (Hs.cell 4 rfl rfl) ?_ | refine valJ_load ld3 (Hs.cell 5 rfl rfl) ?_ | refine valJ_load ld3 (Hs.cell 6 rfl rfl) ?_ | refine valJ_load ld3 (Hs.cell 7 rfl rfl) ?_ | refine valJ_load ld3 (by assumption) ?_
        refine callR (by kernel_rfl) (span_ret (c := fL[i].c) (mark := fm) hgap hmk.2 (by omega) (hf.emax _ (List.getElem_mem hlt)) hS (hf'.evs _ (List.getElem_mem hlt))) ?_
        rintro v w ⟨⟨t1, rfl, ht1⟩, hS⟩
        refine stay_Hs hS (by first | exact fun _ h => h | exact fun _ h => .tail _ h | exact fun _ h => .tail _ (.tail _ h) | simp) ?_
        have nospan : ¬ SpanOk g fL[i].s.key fL[i].s.l fm → ¬ FlowOk g fm fl (ses fL) := fun h hF => h (hF.span _ (List.mem_map.2 ⟨_, List.getElem_mem hlt, rfl⟩))
        refine cond_bsplit (fun h3 => ?_) (fun h3 => ?_)
        · have hsp := ht1.1 h3
          have tail : ∀ w, St w0 F w (Res.cells b6 3 [.int .i64 (i : Int)] :: Res.cells b3 26 [.int .i64 fm, .int .i64 fl, .slice (some ⟨b, o, none⟩) fL.length fc] :: gC b2 g :: L) → (∀ h0 : 0 < i, Bef (fL[i - 1]'(by omega)).s fL[i].s) → ∀ K : Value × Value → World → Prop, (∀ t : Bool, (t = true → PreOk g fm fL (i + 1)) → (t = false → ¬ FlowOk g fm fl (ses fL)) → ∀ w b6, St w0 F w (Res.cells b6 3 [.int .i64 ((i + 1 : Nat) : Int)] :: Res.cells b3 26 [.int .i64 fm, .int .i64 fl, .slice (some ⟨b, o, none⟩) fL.length fc] :: gC b2 g :: L) → K (.bool t, .pointer (some ⟨b6, 0, none⟩)) w) → m15_14 R K (.pointer (some ⟨b2, 0, none⟩)) (.pointer (some ⟨b3, 0, none⟩)) (.bool true) (.pointer (some ⟨b6, 0, none⟩)) w := by
            clear hS
            intro w hS hbef K hK
            unfold m15_14
            refine cond_t rfl ?_
            first | refine valP_ok (fa26_2 _ _) ?_ | refine valP_ok (fao26_2 _ _ _) ?_
            first | refine valP_ok (ld24 (hS.cell 0 rfl rfl)) ?_ | refine valP_ok (ld24 (hS.cell 1 rfl rfl)) ?_ | refine valP_ok (ld24 (hS.cell 2 rfl rfl)) ?_ | refine valP_ok (ld24 (hS.cell 3 rfl rfl)) ?_ | refine valP_ok (ld24 (hS.cell 4 rfl rfl)) ?_ | refine valP_ok (ld24 (hS.cell 5 rfl rfl)) ?_ | refine valP_ok (ld24 (hS.cell 6 rfl rfl)) ?_ | refine valP_ok (ld24 (hS.cell 7 rfl rfl)) ?_ | refine valP_ok (ld24 (by assumption)) ?_
            first | refine valP_ok (ld3 (hS.cell 0 rfl rfl)) ?_ | refine valP_ok (ld3 (hS.cell 1 rfl rfl)) ?_ | refine valP_ok (ld3 (hS.cell 2 rfl rfl)) ?_ | refine valP_ok (ld3 (hS.cell 3 rfl rfl)) ?_ | refine valP_ok (ld3 (hS.cell 4 rfl rfl)) ?_ | refine valP_ok (ld3 (hS.cell 5 rfl rfl)) ?_ | refine valP_ok (ld3 (hS.cell 6 rfl rfl)) ?_ | refine valP_ok (ld3 (hS.cell 7 rfl rfl)) ?_ | refine valP_ok (ld3 (by assumption)) ?_
            refine valP_ok (sh24 (by omega) _) ?_
            refine valP_ok (mf36 _ _ _ _) ?_
            refine callR (by kernel_rfl) (contains_ret (f := ⟨fm, fl, some ⟨b, o, none⟩, fc, fL⟩) hgap hlt (fun j hj hji => ?_) hS hf) ?_
            · by_cases e : j = i
              · subst e
                exact hsp.tb hmk.2
              · exact (hp.span j hj (by omega)).tb hmk.2
            rintro v w ⟨⟨t2, rfl, ht2⟩, hS⟩
            first | refine valP_ok (not_ok _ _) ?_ | refine valP_ok (notb_ok _ _) ?_
            first | refine pick_dt (by first | assumption | omega) ?_ | refine pick_df (by first | assumption | omega) ?_ | refine pick_t (by first | rfl | assumption) ?_ | refine pick_f (by first | rfl | assumption) ?_ | refine pick_dt rfl ?_ | refine pick_df (not_not_intro rfl) ?_
            cases t2 with
            | false =>
              have hpre : PreOk g fm fL (i + 1) := pre_step hp hlt hsp hbef fun k hk hn => by
                have := ht2.2 ⟨k, hk, hn⟩
                cases this
              exact step w true (fun _ => hpre) (fun h => by cases h) hS K (hK true (fun _ => hpre) (fun h => by cases h))
            | true =>
              have hno : ¬ FlowOk g fm fl (ses fL) := fun hF => by
                obtain ⟨j, hj, hn⟩ := ht2.1 rfl
                exact ((flow_pre.1 hF).2.2.2.2.pair j i hj hlt hlt).2 hn
              exact step w false (fun h => by cases h) (fun _ => hno) hS K (hK false (fun h => by cases h) (fun _ => hno))
          first | refine valJ_load ld3 (Hs.cell 0 rfl rfl) ?_ | refine valJ_load ld3 (Hs.cell 1 rfl rfl) ?_ | refine valJ_load ld3 (Hs.cell 2 rfl rfl) ?_ | refine valJ_load ld3 (Hs.cell 3 rfl rfl) ?_ | refine valJ_load ld3 (Hs.cell 4 rfl rfl) ?_ | refine valJ_load ld3 (Hs.cell 5 rfl rfl) ?_ | refine valJ_load ld3 (Hs.cell 6 rfl rfl) ?_ | refine valJ_load ld3 (Hs.cell 7 rfl rfl) ?_ | refine valJ_load ld3 (by assumption) ?_
          refine valJ_ok (eq3 _ _ _ _) ?_
          refine cond_split (fun h4 => ?_) (fun h4 => ?_)
          · first | refine pick_dt (by first | assumption | omega) ?_ | refine pick_df (by first | assumption | omega) ?_ | refine pick_t (by first | rfl | assumption) ?_ | refine pick_f (by first | rfl | assumption) ?_ | refine pick_dt rfl ?_ | refine pick_df (not_not_intro rfl) ?_
            refine pick_t h3 ?_
            exact tail w hS (fun h => by omega) _ fun t h1 h2 w b6' hS => inv t h1 h2 w b6' hS
          · have hi0 : 0 < i := by omega
            first | refine valJ_ok (fa26_2 _) ?_ | refine valJ_ok (fao26_2 _ _) ?_
            first | refine valJ_load ld24 (Hs.cell 0 rfl rfl) ?_ | refine valJ_load ld24 (Hs.cell 1 rfl rfl) ?_ | refine valJ_load ld24 (Hs.cell 2 rfl rfl) ?_ | refine valJ_load ld24 (Hs.cell 3 rfl rfl) ?_ | refine valJ_load ld24 (Hs.cell 4 rfl rfl) ?_ | refine valJ_load ld24 (Hs.cell 5 rfl rfl) ?_ | refine valJ_load ld24 (Hs.cell 6 rfl rfl) ?_ | refine valJ_load ld24 (Hs.cell 7 rfl rfl) ?_ | refine valJ_load ld24 (by assumption) ?_
            first | refine valJ_load ld3 (Hs.cell 0 rfl rfl) ?_ | refine valJ_load ld3 (Hs.cell 1 rfl rfl) ?_ | refine valJ_load ld3 (Hs.cell 2 rfl rfl) ?_ | refine valJ_load ld3 (Hs.cell 3 rfl rfl) ?_ | refine valJ_load ld3 (Hs.cell 4 rfl rfl) ?_ | refine valJ_load ld3 (Hs.cell 5 rfl rfl) ?_ | refine valJ_load ld3 (Hs.cell 6 rfl rfl) ?_ | refine valJ_load ld3 (Hs.cell 7 rfl rfl) ?_ | refine valJ_load ld3 (by assumption) ?_
            refine valJ_ok (sub_ok _ _ _ (by omega) (by omega)) ?_
            rw [show (i : Int) - 1 = ((i - 1 : Nat) : Int) by omega]
            refine valJ_ok (ix24 (k := i - 1) (by omega)) ?_
            refine valJ_at (fun w hw => ld33 (p (i - 1) (by omega) w hw).1 (p (i - 1) (by omega) w hw).2) ?_
            first | refine valJ_ok (fa26_2 _) ?_ | refine valJ_ok (fao26_2 _ _) ?_
            first | refine valJ_load ld24 (Hs.cell 0 rfl rfl) ?_ | refine valJ_load ld24 (Hs.cell 1 rfl rfl) ?_ | refine valJ_load ld24 (Hs.cell 2 rfl rfl) ?_ | refine valJ_load ld24 (Hs.cell 3 rfl rfl) ?_ | refine valJ_load ld24 (Hs.cell 4 rfl rfl) ?_ | refine valJ_load ld24 (Hs.cell 5 rfl rfl) ?_ | refine valJ_load ld24 (Hs.cell 6 rfl rfl) ?_ | refine valJ_load ld24 (Hs.cell 7 rfl rfl) ?_ | refine valJ_load ld24 (by assumption) ?_
            first | refine valJ_load ld3 (Hs.cell 0 rfl rfl) ?_ | refine valJ_load ld3 (Hs.cell 1 rfl rfl) ?_ | refine valJ_load ld3 (Hs.cell 2 rfl rfl) ?_ | refine valJ_load ld3 (Hs.cell 3 rfl rfl) ?_ | refine valJ_load ld3 (Hs.cell 4 rfl rfl) ?_ | refine valJ_load ld3 (Hs.cell 5 rfl rfl) ?_ | refine valJ_load ld3 (Hs.cell 6 rfl rfl) ?_ | refine valJ_load ld3 (Hs.cell 7 rfl rfl) ?_ | refine valJ_load ld3 (by assumption) ?_
            first | refine valJ_ok (ixz24 (by first | assumption | omega)) ?_ | refine valJ_ok (ix24 (by first | assumption | omega)) ?_
            refine valJ_at (fun w hw => ld33 (p i hlt w hw).1 (p i hlt w hw).2) ?_
            have hm1 := List.getElem_mem (l := fL) (n := i - 1) (by omega)
            refine callR (by kernel_rfl) (bystart_cmp (c := fL[i - 1].c) (c2 := fL[i].c) ((hp.span (i - 1) (by omega) (by omega)).tb hmk.2).pos (hsp.tb hmk.2).pos ((hf'.evs _ hm1).rd hS) ((hf'.evs _ (List.getElem_mem hlt)).rd hS)) ?_
            rintro v w' ⟨rfl, q, os, hgr⟩
            have hS := hS.quiet (w' := w') (by rw [hgr]; exact (Chg.drewN _ _ _).trans (chg_grow _ _ _))
            refine stay_Hs hS (by first | exact fun _ h => h | exact fun _ h => .tail _ h | exact fun _ h => .tail _ (.tail _ h) | simp) ?_
            refine valJ_ok (lss_ok _ _ _ _ _ _) ?_
            have hneg := or2_neg (a := fT (fL[i - 1]'(by omega)).s.l) (b := fT fL[i].s.l) (c := (fL[i - 1]'(by omega)).s.key) (d := fL[i].s.key)
            first | refine pick_dt (by first | assumption | omega) ?_ | refine pick_df (by first | assumption | omega) ?_ | refine pick_t (by first | rfl | assumption) ?_ | refine pick_f (by first | rfl | assumption) ?_ | refine pick_dt rfl ?_ | refine pick_df (not_not_intro rfl) ?_
            refine pick_t h3 ?_
            by_cases h5 : byS (fL[i - 1]'(by omega)).s.key (fL[i - 1]'(by omega)).s.l fL[i].s.key fL[i].s.l < 0
            · rw [decide_eq_true h5]
              exact tail w' hS (fun _ => hneg.1 h5) _ fun t h1 h2 w b6' hS => inv t h1 h2 w b6' hS
            · rw [decide_eq_false h5]
              have hno : ¬ FlowOk g fm fl (ses fL) := fun hF => h5 (hneg.2 ((flow_pre.1 hF).2.2.2.2.pair (i - 1) i (by omega) hlt hlt).1)
              unfold m15_14
              refine cond_f rfl ?_
              refine pick_f rfl ?_
              exact step w' false (fun h => by cases h) (fun _ => hno) hS _ (inv false (fun h => by cases h) (fun _ => hno))
        · first | refine pick_dt (by first | assumption | omega) ?_ | refine pick_df (by first | assumption | omega) ?_ | refine pick_t (by first | rfl | assumption) ?_ | refine pick_f (by first | rfl | assumption) ?_ | refine pick_dt rfl ?_ | refine pick_df (not_not_intro rfl) ?_
          have hno := nospan fun h => by rw [ht1.2 h] at h3; cases h3
          unfold m15_14
          refine cond_f rfl ?_
          refine pick_f rfl ?_
          exact step w false (fun h => by cases h) (fun _ => hno) hS _ (inv false (fun h => by cases h) (fun _ => hno))
      · exact fin w true hS.tail.tail.tail (by simp only [true_iff]; exact pre_or (f := ⟨fm, fl, fA, fc, fL⟩) hb hp (by simp only; omega))
  unfold m15_1
  first | refine ls23 0 hS rfl ?_ | refine ls23 1 hS rfl ?_ | refine ls23 2 hS rfl ?_ | refine ls23 3 hS rfl ?_ | refine ls23 4 hS rfl ?_ | refine ls23 5 hS rfl ?_ | refine ls23 6 hS rfl ?_ | refine ls23 7 hS rfl ?_ | refine valP_ok (ld23 (by assumption) (by assumption)) ?_
  refine callR (by kernel_rfl) (gaps_ret hS) ?_
  rintro v w ⟨⟨t, rfl, ht⟩, hS⟩
  have ht' : ∀ b : Bool, t = b → (b = true ↔ GapOk g) := fun b h => by subst h; exact ht
  first | refine cond_split (fun hc0 => ?_) (fun hc0 => ?_) | refine cond_bsplit (fun hc0 => ?_) (fun hc0 => ?_)
  · first | refine valP_ok (fa26_0 _ _) ?_ | refine valP_ok (fao26_0 _ _ _) ?_
    first | refine valP_ok (ld3 (hS.cell 0 rfl rfl)) ?_ | refine valP_ok (ld3 (hS.cell 1 rfl rfl)) ?_ | refine valP_ok (ld3 (hS.cell 2 rfl rfl)) ?_ | refine valP_ok (ld3 (hS.cell 3 rfl rfl)) ?_ | refine valP_ok (ld3 (hS.cell 4 rfl rfl)) ?_ | refine valP_ok (ld3 (hS.cell 5 rfl rfl)) ?_ | refine valP_ok (ld3 (hS.cell 6 rfl rfl)) ?_ | refine valP_ok (ld3 (hS.cell 7 rfl rfl)) ?_ | refine valP_ok (ld3 (by assumption)) ?_
    refine valP_ok (geq_ok _ _ _ _ _ _ _) ?_
    first | refine pick_dt (by first | assumption | omega) ?_ | refine pick_df (by first | assumption | omega) ?_ | refine pick_t (by first | rfl | assumption) ?_ | refine pick_f (by first | rfl | assumption) ?_ | refine pick_dt rfl ?_ | refine pick_df (not_not_intro rfl) ?_
    first | refine cond_split (fun hc1 => ?_) (fun hc1 => ?_) | refine cond_bsplit (fun hc1 => ?_) (fun hc1 => ?_)
    · first | refine valP_ok (fa26_0 _ _) ?_ | refine valP_ok (fao26_0 _ _ _) ?_
      first | refine valP_ok (ld3 (hS.cell 0 rfl rfl)) ?_ | refine valP_ok (ld3 (hS.cell 1 rfl rfl)) ?_ | refine valP_ok (ld3 (hS.cell 2 rfl rfl)) ?_ | refine valP_ok (ld3 (hS.cell 3 rfl rfl)) ?_ | refine valP_ok (ld3 (hS.cell 4 rfl rfl)) ?_ | refine valP_ok (ld3 (hS.cell 5 rfl rfl)) ?_ | refine valP_ok (ld3 (hS.cell 6 rfl rfl)) ?_ | refine valP_ok (ld3 (hS.cell 7 rfl rfl)) ?_ | refine valP_ok (ld3 (by assumption)) ?_
      refine valP_ok (leq_ok _ _ _ _ _ _ _) ?_
      first | refine pick_dt (by first | assumption | omega) ?_ | refine pick_df (by first | assumption | omega) ?_ | refine pick_t (by first | rfl | assumption) ?_ | refine pick_f (by first | rfl | assumption) ?_ | refine pick_dt rfl ?_ | refine pick_df (not_not_intro rfl) ?_
      first | refine cond_split (fun hc2 => ?_) (fun hc2 => ?_) | refine cond_bsplit (fun hc2 => ?_) (fun hc2 => ?_)
      · first | refine valP_ok (fa26_1 _ _) ?_ | refine valP_ok (fao26_1 _ _ _) ?_
        first | refine valP_ok (ld3 (hS.cell 0 rfl rfl)) ?_ | refine valP_ok (ld3 (hS.cell 1 rfl rfl)) ?_ | refine valP_ok (ld3 (hS.cell 2 rfl rfl)) ?_ | refine valP_ok (ld3 (hS.cell 3 rfl rfl)) ?_ | refine valP_ok (ld3 (hS.cell 4 rfl rfl)) ?_ | refine valP_ok (ld3 (hS.cell 5 rfl rfl)) ?_ | refine valP_ok (ld3 (hS.cell 6 rfl rfl)) ?_ | refine valP_ok (ld3 (hS.cell 7 rfl rfl)) ?_ | refine valP_ok (ld3 (by assumption)) ?_
        refine valP_ok (geq_ok _ _ _ _ _ _ _) ?_
        first | refine pick_dt (by first | assumption | omega) ?_ | refine pick_df (by first | assumption | omega) ?_ | refine pick_t (by first | rfl | assumption) ?_ | refine pick_f (by first | rfl | assumption) ?_ | refine pick_dt rfl ?_ | refine pick_df (not_not_intro rfl) ?_
        first | refine cond_split (fun hc3 => ?_) (fun hc3 => ?_) | refine cond_bsplit (fun hc3 => ?_) (fun hc3 => ?_)
        · first | refine valP_ok (fa26_1 _ _) ?_ | refine valP_ok (fao26_1 _ _ _) ?_
          first | refine valP_ok (ld3 (hS.cell 0 rfl rfl)) ?_ | refine valP_ok (ld3 (hS.cell 1 rfl rfl)) ?_ | refine valP_ok (ld3 (hS.cell 2 rfl rfl)) ?_ | refine valP_ok (ld3 (hS.cell 3 rfl rfl)) ?_ | refine valP_ok (ld3 (hS.cell 4 rfl rfl)) ?_ | refine valP_ok (ld3 (hS.cell 5 rfl rfl)) ?_ | refine valP_ok (ld3 (hS.cell 6 rfl rfl)) ?_ | refine valP_ok (ld3 (hS.cell 7 rfl rfl)) ?_ | refine valP_ok (ld3 (by assumption)) ?_
          refine valP_ok (leq_ok _ _ _ _ _ _ _) ?_
          first | refine pick_dt (by first | assumption | omega) ?_ | refine pick_df (by first | assumption | omega) ?_ | refine pick_t (by first | rfl | assumption) ?_ | refine pick_f (by first | rfl | assumption) ?_ | refine pick_dt rfl ?_ | refine pick_df (not_not_intro rfl) ?_
          first | refine cond_split (fun hc4 => ?_) (fun hc4 => ?_) | refine cond_bsplit (fun hc4 => ?_) (fun hc4 => ?_)
          · first | refine valP_ok (fa26_2 _ _) ?_ | refine valP_ok (fao26_2 _ _ _) ?_
            first | refine valP_ok (ld24 (hS.cell 0 rfl rfl)) ?_ | refine valP_ok (ld24 (hS.cell 1 rfl rfl)) ?_ | refine valP_ok (ld24 (hS.cell 2 rfl rfl)) ?_ | refine valP_ok (ld24 (hS.cell 3 rfl rfl)) ?_ | refine valP_ok (ld24 (hS.cell 4 rfl rfl)) ?_ | refine valP_ok (ld24 (hS.cell 5 rfl rfl)) ?_ | refine valP_ok (ld24 (hS.cell 6 rfl rfl)) ?_ | refine valP_ok (ld24 (hS.cell 7 rfl rfl)) ?_ | refine valP_ok (ld24 (by assumption)) ?_
            refine builtin_ok (len24 _) ?_
            refine valP_ok (leq_ok _ _ _ _ _ _ _) ?_
            first | refine pick_dt (by first | assumption | omega) ?_ | refine pick_df (by first | assumption | omega) ?_ | refine pick_t (by first | rfl | assumption) ?_ | refine pick_f (by first | rfl | assumption) ?_ | refine pick_dt rfl ?_ | refine pick_df (not_not_intro rfl) ?_
            exact leaf _ _ hS (by have ht := ht' _ (by assumption); unfold BaseOk; simp only [decide_eq_true_eq, Bool.false_eq_true, false_iff, true_iff] at ht ⊢ <;> first | contradiction | exact ⟨ht, by omega, by omega, by omega⟩ | exact fun h => ht h.1 | (intro h; omega) | exact ⟨fun h => ⟨ht, by omega, by omega, by omega⟩, fun h => by have := h.2.2.2; omega⟩ | omega)
          · first | refine pick_dt (by first | assumption | omega) ?_ | refine pick_df (by first | assumption | omega) ?_ | refine pick_t (by first | rfl | assumption) ?_ | refine pick_f (by first | rfl | assumption) ?_ | refine pick_dt rfl ?_ | refine pick_df (not_not_intro rfl) ?_
            exact leaf _ _ hS (by have ht := ht' _ (by assumption); unfold BaseOk; simp only [decide_eq_true_eq, Bool.false_eq_true, false_iff, true_iff] at ht ⊢ <;> first | contradiction | exact ⟨ht, by omega, by omega, by omega⟩ | exact fun h => ht h.1 | (intro h; omega) | exact ⟨fun h => ⟨ht, by omega, by omega, by omega⟩, fun h => by have := h.2.2.2; omega⟩ | omega)
        · first | refine pick_dt (by first | assumption | omega) ?_ | refine pick_df (by first | assumption | omega) ?_ | refine pick_t (by first | rfl | assumption) ?_ | refine pick_f (by first | rfl | assumption) ?_ | refine pick_dt rfl ?_ | refine pick_df (not_not_intro rfl) ?_
          first | refine pick_dt (by first | assumption | omega) ?_ | refine pick_df (by first | assumption | omega) ?_ | refine pick_t (by first | rfl | assumption) ?_ | refine pick_f (by first | rfl | assumption) ?_ | refine pick_dt rfl ?_ | refine pick_df (not_not_intro rfl) ?_
          exact leaf _ _ hS (by have ht := ht' _ (by assumption); unfold BaseOk; simp only [decide_eq_true_eq, Bool.false_eq_true, false_iff, true_iff] at ht ⊢ <;> first | contradiction | exact ⟨ht, by omega, by omega, by omega⟩ | exact fun h => ht h.1 | (intro h; omega) | exact ⟨fun h => ⟨ht, by omega, by omega, by omega⟩, fun h => by have := h.2.2.2; omega⟩ | omega)
      · first | refine pick_dt (by first | assumption | omega) ?_ | refine pick_df (by first | assumption | omega) ?_ | refine pick_t (by first | rfl | assumption) ?_ | refine pick_f (by first | rfl | assumption) ?_ | refine pick_dt rfl ?_ | refine pick_df (not_not_intro rfl) ?_
        first | refine pick_dt (by first | assumption | omega) ?_ | refine pick_df (by first | assumption | omega) ?_ | refine pick_t (by first | rfl | assumption) ?_ | refine pick_f (by first | rfl | assumption) ?_ | refine pick_dt rfl ?_ | refine pick_df (not_not_intro rfl) ?_
        first | refine pick_dt (by first | assumption | omega) ?_ | refine pick_df (by first | assumption | omega) ?_ | refine pick_t (by first | rfl | assumption) ?_ | refine pick_f (by first | rfl | assumption) ?_ | refine pick_dt rfl ?_ | refine pick_df (not_not_intro rfl) ?_
        exact leaf _ _ hS (by have ht := ht' _ (by assumption); unfold BaseOk; simp only [decide_eq_true_eq, Bool.false_eq_true, false_iff, true_iff] at ht ⊢ <;> first | contradiction | exact ⟨ht, by omega, by omega, by omega⟩ | exact fun h => ht h.1 | (intro h; omega) | exact ⟨fun h => ⟨ht, by omega, by omega, by omega⟩, fun h => by have := h.2.2.2; omega⟩ | omega)
    · first | refine pick_dt (by first | assumption | omega) ?_ | refine pick_df (by first | assumption | omega) ?_ | refine pick_t (by first | rfl | assumption) ?_ | refine pick_f (by first | rfl | assumption) ?_ | refine pick_dt rfl ?_ | refine pick_df (not_not_intro rfl) ?_
      first | refine pick_dt (by first | assumption | omega) ?_ | refine pick_df (by first | assumption | omega) ?_ | refine pick_t (by first | rfl | assumption) ?_ | refine pick_f (by first | rfl | assumption) ?_ | refine pick_dt rfl ?_ | refine pick_df (not_not_intro rfl) ?_
      first | refine pick_dt (by first | assumption | omega) ?_ | refine pick_df (by first | assumption | omega) ?_ | refine pick_t (by first | rfl | assumption) ?_ | refine pick_f (by first | rfl | assumption) ?_ | refine pick_dt rfl ?_ | refine pick_df (not_not_intro rfl) ?_
      first | refine pick_dt (by first | assumption | omega) ?_ | refine pick_df (by first | assumption | omega) ?_ | refine pick_t (by first | rfl | assumption) ?_ | refine pick_f (by first | rfl | assumption) ?_ | refine pick_dt rfl ?_ | refine pick_df (not_not_intro rfl) ?_
      exact leaf _ _ hS (by have ht := ht' _ (by assumption); unfold BaseOk; simp only [decide_eq_true_eq, Bool.false_eq_true, false_iff, true_iff] at ht ⊢ <;> first | contradiction | exact ⟨ht, by omega, by omega, by omega⟩ | exact fun h => ht h.1 | (intro h; omega) | exact ⟨fun h => ⟨ht, by omega, by omega, by omega⟩, fun h => by have := h.2.2.2; omega⟩ | omega)
  · first | refine pick_dt (by first | assumption | omega) ?_ | refine pick_df (by first | assumption | omega) ?_ | refine pick_t (by first | rfl | assumption) ?_ | refine pick_f (by first | rfl | assumption) ?_ | refine pick_dt rfl ?_ | refine pick_df (not_not_intro rfl) ?_
    first | refine pick_dt (by first | assumption | omega) ?_ | refine pick_df (by first | assumption | omega) ?_ | refine pick_t (by first | rfl | assumption) ?_ | refine pick_f (by first | rfl | assumption) ?_ | refine pick_dt rfl ?_ | refine pick_df (not_not_intro rfl) ?_
    first | refine pick_dt (by first | assumption | omega) ?_ | refine pick_df (by first | assumption | omega) ?_ | refine pick_t (by first | rfl | assumption) ?_ | refine pick_f (by first | rfl | assumption) ?_ | refine pick_dt rfl ?_ | refine pick_df (not_not_intro rfl) ?_
    first | refine pick_dt (by first | assumption | omega) ?_ | refine pick_df (by first | assumption | omega) ?_ | refine pick_t (by first | rfl | assumption) ?_ | refine pick_f (by first | rfl | assumption) ?_ | refine pick_dt rfl ?_ | refine pick_df (not_not_intro rfl) ?_
    first | refine pick_dt (by first | assumption | omega) ?_ | refine pick_df (by first | assumption | omega) ?_ | refine pick_t (by first | rfl | assumption) ?_ | refine pick_f (by first | rfl | assumption) ?_ | refine pick_dt rfl ?_ | refine pick_df (not_not_intro rfl) ?_
    exact leaf _ _ hS (by have ht := ht' _ (by assumption); unfold BaseOk; simp only [decide_eq_true_eq, Bool.false_eq_true, false_iff, true_iff] at ht ⊢ <;> first | contradiction | exact ⟨ht, by omega, by omega, by omega⟩ | exact fun h => ht h.1 | (intro h; omega) | exact ⟨fun h => ⟨ht, by omega, by omega, by omega⟩, fun h => by have := h.2.2.2; omega⟩ | omega)
theorem check_ret (hc : f.l.length ≤ f.c) (hf : BesS w0 F L f.A f.l) (hS : St w0 F w L) :
    Ret Try.prog 15 #[gv g, fv f] w fun v w' => (∃ e : Int, v = .int .i64 e ∧ (e = 0 ∨ e = 1) ∧ (e = 0 ↔ FlowOk g f.mark f.late (ses f.l))) ∧ St w0 F w' L :=
  s15 _ _ (check_m hc hf hS fun v w h => h)
end

end Go.Proofs.Ytojgdmcojmllkaa.M
