/- Whether a session may be. -/
import Derived.Test.YtojgdmcojmllkaaS3
namespace Go.Proofs.Ytojgdmcojmllkaa.M
open Go.Proofs.Ytojgdmcojmllkaa.F Go.RowKit
set_option linter.unusedVariables false
set_option linter.unusedSimpArgs false
set_option maxRecDepth 100000
set_option maxHeartbeats 2000000
attribute [local irreducible] Res.cells Res.row Res.map Res.any World.cell? World.frozen? Instr.fieldAt Instr.loadAt Instr.storeAt Instr.indexAt Instr.lookup Instr.mapUpdate Instr.box Instr.build Instr.buildSlice Instr.extract Instr.alloc Instr.field Instr.index Instr.sliceAt Instr.makeSlice Instr.makeMap Instr.makeFunc binS Op.unary Sem.run
structure SpanOk (g : Gp) (key : Int) (l : List Ev) (mark : Int) : Prop where
  key : 0 ≤ key ∧ key ≤ 1048576
  len : 1 ≤ l.length ∧ l.length ≤ 64
  time : ∀ i (h : i < l.length), 0 ≤ l[i].t ∧ l[i].t ≤ mark
  step : ∀ i (h : i + 1 < l.length), ¬ AheadE l[i + 1] l[i] ∧ l[i + 1].t - l[i].t ≤ g.gap
  over : ¬ OverT g (lT l) mark
section
variable {w0 w : World} {F : List Nat} {L : List Res} {key : Int} {A : Option Addr} {c : Nat} {l : List Ev} {g : Gp} {mark : Int}
theorem CmpK.st {P : Program} {α : Type} {f : FuncId} {cb : Array Value} {enc : α → List Value} {cf : α → α → Int} (h : CmpK P f cb enc cf) (x y : α) (hS : St w0 F w L) : Ret P f (#[.agg (enc x).toArray, .agg (enc y).toArray] ++ cb) w fun v w' => v = .int .i64 (cf x y) ∧ St w0 F w' L :=
  (h x y w).mono fun v w' ⟨hv, q, os, hw⟩ => ⟨hv, hS.quiet (by subst hw; exact (Chg.drewN _ _ _).trans (chg_grow _ _ _))⟩
theorem bytime_ret (a b : Ev) (hS : St w0 F w L) : Ret Try.prog 45 #[ev a, ev b] w fun v w' => v = .int .i64 (byT a b) ∧ St w0 F w' L := CmpK.st bytime_cmp a b hS
theorem SpanOk.at_ (h : SpanOk g key l mark) {i : Nat} (h0 : 0 < i) (hi : i < l.length) : ¬ AheadE l[i] l[i - 1] ∧ l[i].t - l[i - 1].t ≤ g.gap := by
  obtain ⟨k, rfl⟩ : ∃ k, i = k + 1 := ⟨i - 1, by omega⟩
  exact h.step k hi
theorem span_no {R : Value → World → Prop} (hS : St w0 F w L) (hR : ∀ v w, ((∃ b, v = .bool b ∧ (b = true ↔ SpanOk g key l mark)) ∧ St w0 F w L) → R v w) (h : ¬ SpanOk g key l mark) : R (.bool false) w :=
  hR _ _ ⟨⟨false, rfl, by simp [h]⟩, hS⟩
theorem span_m {R : Value → World → Prop} (hg : GapOk g) (hm : mark ≤ 1099511627776) (hmk : -2 ≤ mark) (hl : l.length ≤ 140737488351232) (hS : St w0 F w L) (hE : BE w0 F L A l)
    (hR : ∀ v w, ((∃ b, v = .bool b ∧ (b = true ↔ SpanOk g key l mark)) ∧ St w0 F w L) → R v w) : m33 R (gv g) (spv key A l.length c) (.int .i64 mark) w := by
  have hgap := hg.gap
  unfold m33
  unfold m33_0
  refine new_ok (bx23 _ _ _) hS ?_
  intro b3 w hS
  refine new_ok (bx33 _ _ _) hS ?_
  intro b4 w hS
  have leaf : ∀ w t, St w0 F w (Res.cells b4 33 [.int .i64 key, .slice A l.length c] :: Res.cells b3 23 [.int .i64 g.gap, .int .i64 g.late] :: L) → (t = true ↔ (key < 0 ∨ 1048576 < key ∨ l.length = 0 ∨ 64 < l.length)) → m33_14 R (.int .i64 mark) (.pointer (some ⟨b3, 0, none⟩)) (.pointer (some ⟨b4, 0, none⟩)) (.bool t) w := by
    clear hS w
    intro w t hS ht
    unfold m33_14
    by_cases hb : key < 0 ∨ 1048576 < key ∨ l.length = 0 ∨ 64 < l.length
    · refine cond_t (ht.2 hb) ?_
      unfold m33_15
      refine span_no hS.tail.tail hR fun h => ?_
      have := h.key
      have := h.len
      omega
    refine cond_f (Bool.eq_false_iff.2 fun h => hb (ht.1 h)) ?_
    have hE' := fun a b => (hE.cons a).cons b
    obtain ⟨b, o, rfl⟩ := (hE.rd hS.tail.tail).some_ (by omega) (by omega)
    unfold m33_2
    first | refine valP_ok (fa33_1 _ _) ?_ | refine valP_ok (fao33_1 _ _ _) ?_
    first | refine valP_ok (ld31 (hS.cell 0 rfl rfl)) ?_ | refine valP_ok (ld31 (hS.cell 1 rfl rfl)) ?_ | refine valP_ok (ld31 (hS.cell 2 rfl rfl)) ?_ | refine valP_ok (ld31 (hS.cell 3 rfl rfl)) ?_ | refine valP_ok (ld31 (hS.cell 4 rfl rfl)) ?_ | refine valP_ok (ld31 (hS.cell 5 rfl rfl)) ?_ | refine valP_ok (ld31 (hS.cell 6 rfl rfl)) ?_ | refine valP_ok (ld31 (hS.cell 7 rfl rfl)) ?_ | refine valP_ok (ld31 (by assumption)) ?_
    refine builtin_ok (len31 _) ?_
    unfold m33_6
    refine loop_in (fun u w' => ∃ i : Nat, u = .int .i64 i ∧ i ≤ l.length ∧ (∀ j (h : j < l.length), j < i → 0 ≤ l[j].t ∧ l[j].t ≤ mark) ∧ (∀ j (h : j + 1 < l.length), j + 1 < i → ¬ AheadE l[j + 1] l[j] ∧ l[j + 1].t - l[j].t ≤ g.gap) ∧ St w0 F w' (Res.cells b4 33 [.int .i64 key, .slice (some ⟨b, o, none⟩) l.length c] :: Res.cells b3 23 [.int .i64 g.gap, .int .i64 g.late] :: L)) (fun u _ => l.length - (intOf u).toNat) ⟨0, rfl, by omega, fun j h hj => by omega, fun j h hj => by omega, hS⟩ ?_
    clear hS w
    rintro u w ⟨i, rfl, hi, hT, hP, hS⟩
    unfold m33_7
    refine valP_ok (lss_ok _ _ _ _ _ _ _) ?_
    unfold m33_8
    refine cond_split (fun h => ?_) (fun h => ?_)
    · have hlt : i < l.length := by omega
      have p := ev_at ((hE' _ _).rd hS) hlt
      unfold m33_9
      refine valP_ok (ix31 hlt _) ?_
      refine valP_ok (ld28 p.1 p.2) ?_
      refine new_ok (al28 _) hS ?_
      intro b8 w hS
      first | refine ss28 0 hS rfl rfl rfl ?_ | refine ss28 1 hS rfl rfl rfl ?_ | refine ss28 2 hS rfl rfl rfl ?_ | refine ss28 3 hS rfl rfl rfl ?_ | refine ss28 4 hS rfl rfl rfl ?_ | refine ss28 5 hS rfl rfl rfl ?_ | refine ss28 6 hS rfl rfl rfl ?_ | refine ss28 7 hS rfl rfl rfl ?_
      intro w hS
      simp only [List.set_cons_zero, List.set_cons_succ] at hS
      have no : ∀ w L', St w0 F w (L' ++ L) → ¬ SpanOk g key l mark → R (.bool false) w := fun w L' hS h => span_no (by
        have := hS.perm (List.perm_append_comm (l₁ := L') (l₂ := L))
        exact this.left) hR h
      unfold m33_11
      refine drawn_ok hS ?_
      intro w hS
      refine held_Hs hS ?_
      first | refine valJ_ok (fa28_0 _) ?_ | refine valJ_ok (fao28_0 _ _) ?_
      first | refine valJ_load ld3 (Hs.cell 0 rfl rfl) ?_ | refine valJ_load ld3 (Hs.cell 1 rfl rfl) ?_ | refine valJ_load ld3 (Hs.cell 2 rfl rfl) ?_ | refine valJ_load ld3 (Hs.cell 3 rfl rfl) ?_ | refine valJ_load ld3 (Hs.cell 4 rfl rfl) ?_ | refine valJ_load ld3 (Hs.cell 5 rfl rfl) ?_ | refine valJ_load ld3 (Hs.cell 6 rfl rfl) ?_ | refine valJ_load ld3 (Hs.cell 7 rfl rfl) ?_ | refine valJ_load ld3 (by assumption) ?_
      refine valJ_ok (lss_ok _ _ _ _ _ _) ?_
      refine cond_split (fun h1 => ?_) (fun h1 => ?_)
      · first | refine pick_dt (by first | assumption | omega) ?_ | refine pick_df (by first | assumption | omega) ?_ | refine pick_t (by first | rfl | assumption) ?_ | refine pick_f (by first | rfl | assumption) ?_ | refine pick_dt rfl ?_ | refine pick_df (not_not_intro rfl) ?_
        first | refine pick_dt (by first | assumption | omega) ?_ | refine pick_df (by first | assumption | omega) ?_ | refine pick_t (by first | rfl | assumption) ?_ | refine pick_f (by first | rfl | assumption) ?_ | refine pick_dt rfl ?_ | refine pick_df (not_not_intro rfl) ?_
        unfold m33_12
        refine cond_t rfl ?_
        unfold m33_13
        exact no w [_, _, _] hS fun h => by have := h.time i hlt; omega
      · first | refine valJ_ok (fa28_0 _) ?_ | refine valJ_ok (fao28_0 _ _) ?_
        first | refine valJ_load ld3 (Hs.cell 0 rfl rfl) ?_ | refine valJ_load ld3 (Hs.cell 1 rfl rfl) ?_ | refine valJ_load ld3 (Hs.cell 2 rfl rfl) ?_ | refine valJ_load ld3 (Hs.cell 3 rfl rfl) ?_ | refine valJ_load ld3 (Hs.cell 4 rfl rfl) ?_ | refine valJ_load ld3 (Hs.cell 5 rfl rfl) ?_ | refine valJ_load ld3 (Hs.cell 6 rfl rfl) ?_ | refine valJ_load ld3 (Hs.cell 7 rfl rfl) ?_ | refine valJ_load ld3 (by assumption) ?_
        refine valJ_ok (gtr_ok _ _ _ _ _ _) ?_
        first | refine pick_dt (by first | assumption | omega) ?_ | refine pick_df (by first | assumption | omega) ?_ | refine pick_t (by first | rfl | assumption) ?_ | refine pick_f (by first | rfl | assumption) ?_ | refine pick_dt rfl ?_ | refine pick_df (not_not_intro rfl) ?_
        refine cond_split (fun h2 => ?_) (fun h2 => ?_)
        · first | refine pick_dt (by first | assumption | omega) ?_ | refine pick_df (by first | assumption | omega) ?_ | refine pick_t (by first | rfl | assumption) ?_ | refine pick_f (by first | rfl | assumption) ?_ | refine pick_dt rfl ?_ | refine pick_df (not_not_intro rfl) ?_
          unfold m33_12
          refine cond_t rfl ?_
          unfold m33_13
          exact no w [_, _, _] hS fun h => by have := h.time i hlt; omega
        · have hT' : ∀ j (h : j < l.length), j < i + 1 → 0 ≤ l[j].t ∧ l[j].t ≤ mark := fun j hj hji => by
            by_cases e : j = i
            · subst e
              omega
            · exact hT j hj (by omega)
          have next : ∀ w t, St w0 F w (Res.cells b8 28 [.int .i64 l[i].t, .int .i64 l[i].v] :: Res.cells b4 33 [.int .i64 key, .slice (some ⟨b, o, none⟩) l.length c] :: Res.cells b3 23 [.int .i64 g.gap, .int .i64 g.late] :: L) → t = false → ∀ K : Value → World → Prop, (∀ w, St w0 F w (Res.cells b4 33 [.int .i64 key, .slice (some ⟨b, o, none⟩) l.length c] :: Res.cells b3 23 [.int .i64 g.gap, .int .i64 g.late] :: L) → K (.int .i64 ((i + 1 : Nat) : Int)) w) → m33_12 R K (.int .i64 mark) (.pointer (some ⟨b3, 0, none⟩)) (.pointer (some ⟨b4, 0, none⟩)) (.slice (some ⟨b, o, none⟩) l.length c) (.int .i64 l.length) (.int .i64 i) (.bool t) w := fun w t hS ht K hK => by
            unfold m33_12
            refine cond_f ht ?_
            unfold m33_10
            refine valP_ok (add_ok _ _ _ (by omega) (by omega) _) ?_
            exact hK w hS.tail
          have inv : ∀ w, (∀ j (h : j + 1 < l.length), j + 1 = i → ¬ AheadE l[j + 1] l[j] ∧ l[j + 1].t - l[j].t ≤ g.gap) → St w0 F w (Res.cells b4 33 [.int .i64 key, .slice (some ⟨b, o, none⟩) l.length c] :: Res.cells b3 23 [.int .i64 g.gap, .int .i64 g.late] :: L) → (∃ i' : Nat, Value.int .i64 ((i + 1 : Nat) : Int) = .int .i64 i' ∧ i' ≤ l.length ∧ (∀ j (h : j < l.length), j < i' → 0 ≤ l[j].t ∧ l[j].t ≤ mark) ∧ (∀ j (h : j + 1 < l.length), j + 1 < i' → ¬ AheadE l[j + 1] l[j] ∧ l[j + 1].t - l[j].t ≤ g.gap) ∧ St w0 F w (Res.cells b4 33 [.int .i64 key, .slice (some ⟨b, o, none⟩) l.length c] :: Res.cells b3 23 [.int .i64 g.gap, .int .i64 g.late] :: L)) ∧ l.length - (intOf (.int .i64 ((i + 1 : Nat) : Int))).toNat < l.length - (intOf (.int .i64 (i : Int))).toNat := fun w hj hS => by
            refine ⟨⟨i + 1, rfl, by omega, hT', fun j h1 h2 => ?_, hS⟩, by simp [intOf]; omega⟩
            by_cases e : j + 1 = i
            · exact hj j h1 e
            · exact hP j h1 (by omega)
          refine valJ_ok (gtr_ok _ _ _ _ _ _) ?_
          refine cond_split (fun h3 => ?_) (fun h3 => ?_)
          · have hi0 : 0 < i := by omega
            first | refine valJ_ok (fa33_1 _) ?_ | refine valJ_ok (fao33_1 _ _) ?_
            first | refine valJ_load ld31 (Hs.cell 0 rfl rfl) ?_ | refine valJ_load ld31 (Hs.cell 1 rfl rfl) ?_ | refine valJ_load ld31 (Hs.cell 2 rfl rfl) ?_ | refine valJ_load ld31 (Hs.cell 3 rfl rfl) ?_ | refine valJ_load ld31 (Hs.cell 4 rfl rfl) ?_ | refine valJ_load ld31 (Hs.cell 5 rfl rfl) ?_ | refine valJ_load ld31 (Hs.cell 6 rfl rfl) ?_ | refine valJ_load ld31 (Hs.cell 7 rfl rfl) ?_ | refine valJ_load ld31 (by assumption) ?_
            refine valJ_ok (sub_ok _ _ _ (by omega) (by omega)) ?_
            rw [show (i : Int) - 1 = ((i - 1 : Nat) : Int) by omega]
            refine valJ_ok (ix31 (k := i - 1) (by omega)) ?_
            have q := fun w (hw : Hs w0 F (Res.cells b8 28 [.int .i64 l[i].t, .int .i64 l[i].v] :: Res.cells b4 33 [.int .i64 key, .slice (some ⟨b, o, none⟩) l.length c] :: Res.cells b3 23 [.int .i64 g.gap, .int .i64 g.late] :: L) w) => ev_at (Hs.rd ((hE' _ _).cons (Res.cells b8 28 [.int .i64 l[i].t, .int .i64 l[i].v])) w hw) (i := i - 1) (by omega)
            refine valJ_at (fun w hw => ld28 (q w hw).1 (q w hw).2) ?_
            first | refine valJ_at (fun w hw => ld28 (Hs.cell 0 rfl rfl w hw) (Hs.cell 0 rfl rfl w hw)) ?_ | refine valJ_at (fun w hw => ld28 (Hs.cell 1 rfl rfl w hw) (Hs.cell 1 rfl rfl w hw)) ?_ | refine valJ_at (fun w hw => ld28 (Hs.cell 2 rfl rfl w hw) (Hs.cell 2 rfl rfl w hw)) ?_ | refine valJ_at (fun w hw => ld28 (Hs.cell 3 rfl rfl w hw) (Hs.cell 3 rfl rfl w hw)) ?_ | refine valJ_at (fun w hw => ld28 (Hs.cell 4 rfl rfl w hw) (Hs.cell 4 rfl rfl w hw)) ?_ | refine valJ_at (fun w hw => ld28 (Hs.cell 5 rfl rfl w hw) (Hs.cell 5 rfl rfl w hw)) ?_ | refine valJ_at (fun w hw => ld28 (Hs.cell 6 rfl rfl w hw) (Hs.cell 6 rfl rfl w hw)) ?_ | refine valJ_at (fun w hw => ld28 (Hs.cell 7 rfl rfl w hw) (Hs.cell 7 rfl rfl w hw)) ?_
            refine callR (by kernel_rfl) (bytime_ret l[i - 1] l[i] hS) ?_
            rintro v w ⟨rfl, hS⟩
            refine stay_Hs hS (by first | exact fun _ h => h | exact fun _ h => .tail _ h | exact fun _ h => .tail _ (.tail _ h) | simp) ?_
            refine valJ_ok (gtr_ok _ _ _ _ _ _) ?_
            have hpos := or2_pos (a := l[i - 1].t) (b := l[i].t) (c := l[i - 1].v) (d := l[i].v)
            refine cond_split (fun h4 => ?_) (fun h4 => ?_)
            · first | refine pick_dt (by first | assumption | omega) ?_ | refine pick_df (by first | assumption | omega) ?_ | refine pick_t (by first | rfl | assumption) ?_ | refine pick_f (by first | rfl | assumption) ?_ | refine pick_dt rfl ?_ | refine pick_df (not_not_intro rfl) ?_
              first | refine pick_dt (by first | assumption | omega) ?_ | refine pick_df (by first | assumption | omega) ?_ | refine pick_t (by first | rfl | assumption) ?_ | refine pick_f (by first | rfl | assumption) ?_ | refine pick_dt rfl ?_ | refine pick_df (not_not_intro rfl) ?_
              first | refine pick_dt (by first | assumption | omega) ?_ | refine pick_df (by first | assumption | omega) ?_ | refine pick_t (by first | rfl | assumption) ?_ | refine pick_f (by first | rfl | assumption) ?_ | refine pick_dt rfl ?_ | refine pick_df (not_not_intro rfl) ?_
              unfold m33_12
              refine cond_t rfl ?_
              unfold m33_13
              exact no w [_, _, _] hS fun h => (h.at_ hi0 hlt).1 (hpos.1 h4)
            · first | refine valJ_ok (fa28_0 _) ?_ | refine valJ_ok (fao28_0 _ _) ?_
              first | refine valJ_load ld3 (Hs.cell 0 rfl rfl) ?_ | refine valJ_load ld3 (Hs.cell 1 rfl rfl) ?_ | refine valJ_load ld3 (Hs.cell 2 rfl rfl) ?_ | refine valJ_load ld3 (Hs.cell 3 rfl rfl) ?_ | refine valJ_load ld3 (Hs.cell 4 rfl rfl) ?_ | refine valJ_load ld3 (Hs.cell 5 rfl rfl) ?_ | refine valJ_load ld3 (Hs.cell 6 rfl rfl) ?_ | refine valJ_load ld3 (Hs.cell 7 rfl rfl) ?_ | refine valJ_load ld3 (by assumption) ?_
              first | refine valJ_ok (fa33_1 _) ?_ | refine valJ_ok (fao33_1 _ _) ?_
              first | refine valJ_load ld31 (Hs.cell 0 rfl rfl) ?_ | refine valJ_load ld31 (Hs.cell 1 rfl rfl) ?_ | refine valJ_load ld31 (Hs.cell 2 rfl rfl) ?_ | refine valJ_load ld31 (Hs.cell 3 rfl rfl) ?_ | refine valJ_load ld31 (Hs.cell 4 rfl rfl) ?_ | refine valJ_load ld31 (Hs.cell 5 rfl rfl) ?_ | refine valJ_load ld31 (Hs.cell 6 rfl rfl) ?_ | refine valJ_load ld31 (Hs.cell 7 rfl rfl) ?_ | refine valJ_load ld31 (by assumption) ?_
              refine valJ_ok (sub_ok _ _ _ (by omega) (by omega)) ?_
              rw [show (i : Int) - 1 = ((i - 1 : Nat) : Int) by omega]
              refine valJ_ok (ix31 (k := i - 1) (by omega)) ?_
              refine valJ_ok (fao28_0 _ _) ?_
              refine valJ_load ld3 (fun w hw => (q w hw).1) ?_
              have ta := hT (i - 1) (by omega) (by omega)
              refine valJ_ok (sub_ok _ _ _ (by omega) (by omega)) ?_
              first | refine valJ_ok (fa23_0 _) ?_ | refine valJ_ok (fao23_0 _ _) ?_
              first | refine valJ_load ld3 (Hs.cell 0 rfl rfl) ?_ | refine valJ_load ld3 (Hs.cell 1 rfl rfl) ?_ | refine valJ_load ld3 (Hs.cell 2 rfl rfl) ?_ | refine valJ_load ld3 (Hs.cell 3 rfl rfl) ?_ | refine valJ_load ld3 (Hs.cell 4 rfl rfl) ?_ | refine valJ_load ld3 (Hs.cell 5 rfl rfl) ?_ | refine valJ_load ld3 (Hs.cell 6 rfl rfl) ?_ | refine valJ_load ld3 (Hs.cell 7 rfl rfl) ?_ | refine valJ_load ld3 (by assumption) ?_
              refine valJ_ok (gtr_ok _ _ _ _ _ _) ?_
              first | refine pick_dt (by first | assumption | omega) ?_ | refine pick_df (by first | assumption | omega) ?_ | refine pick_t (by first | rfl | assumption) ?_ | refine pick_f (by first | rfl | assumption) ?_ | refine pick_dt rfl ?_ | refine pick_df (not_not_intro rfl) ?_
              first | refine pick_dt (by first | assumption | omega) ?_ | refine pick_df (by first | assumption | omega) ?_ | refine pick_t (by first | rfl | assumption) ?_ | refine pick_f (by first | rfl | assumption) ?_ | refine pick_dt rfl ?_ | refine pick_df (not_not_intro rfl) ?_
              first | refine pick_dt (by first | assumption | omega) ?_ | refine pick_df (by first | assumption | omega) ?_ | refine pick_t (by first | rfl | assumption) ?_ | refine pick_f (by first | rfl | assumption) ?_ | refine pick_dt rfl ?_ | refine pick_df (not_not_intro rfl) ?_
              by_cases h6 : g.gap < l[i].t - l[i - 1].t
              · unfold m33_12
                refine cond_dt h6 ?_
                unfold m33_13
                refine no w [_, _, _] hS fun h => ?_
                have h7 := (h.at_ hi0 hlt).2
                omega
              · have hj : ∀ j (h : j + 1 < l.length), j + 1 = i → ¬ AheadE l[j + 1] l[j] ∧ l[j + 1].t - l[j].t ≤ g.gap := fun j h e => by
                  subst e
                  simp only [Nat.add_sub_cancel] at h6 hpos h4
                  refine ⟨fun ha => h4 (hpos.2 ha), by omega⟩
                exact next w _ hS (decide_eq_false h6) _ (fun w hS => inv w hj hS)
          · first | refine pick_dt (by first | assumption | omega) ?_ | refine pick_df (by first | assumption | omega) ?_ | refine pick_t (by first | rfl | assumption) ?_ | refine pick_f (by first | rfl | assumption) ?_ | refine pick_dt rfl ?_ | refine pick_df (not_not_intro rfl) ?_
            first | refine pick_dt (by first | assumption | omega) ?_ | refine pick_df (by first | assumption | omega) ?_ | refine pick_t (by first | rfl | assumption) ?_ | refine pick_f (by first | rfl | assumption) ?_ | refine pick_dt rfl ?_ | refine pick_df (not_not_intro rfl) ?_
            have hj : ∀ j (h : j + 1 < l.length), j + 1 = i → ¬ AheadE l[j + 1] l[j] ∧ l[j + 1].t - l[j].t ≤ g.gap := fun j h e => by omega
            exact next w _ hS rfl _ (fun w hS => inv w hj hS)
    · have hie : i = l.length := by omega
      subst hie
      unfold m33_3
      first | refine ls33 0 hS rfl ?_ | refine ls33 1 hS rfl ?_ | refine ls33 2 hS rfl ?_ | refine ls33 3 hS rfl ?_ | refine ls33 4 hS rfl ?_ | refine ls33 5 hS rfl ?_ | refine ls33 6 hS rfl ?_ | refine ls33 7 hS rfl ?_ | refine valP_ok (ld33 (by assumption) (by assumption)) ?_
      refine callR (by kernel_rfl) (ends_ret hS (hE' _ _) (by omega) hl) ?_
      rintro v w ⟨rfl, hS⟩
      refine valP_ok (extract_ok _ 0 rfl _) ?_
      refine valP_ok (extract_ok _ 1 rfl _) ?_
      unfold m33_4
      first | refine ls23 0 hS rfl ?_ | refine ls23 1 hS rfl ?_ | refine ls23 2 hS rfl ?_ | refine ls23 3 hS rfl ?_ | refine ls23 4 hS rfl ?_ | refine ls23 5 hS rfl ?_ | refine ls23 6 hS rfl ?_ | refine ls23 7 hS rfl ?_ | refine valP_ok (ld23 (by assumption) (by assumption)) ?_
      refine callR (by kernel_rfl) (over_ret hg ⟨hmk, hm⟩ hS) ?_
      rintro v w ⟨⟨t, rfl, ht⟩, hS⟩
      first | refine valP_ok (not_ok _ _) ?_ | refine valP_ok (notb_ok _ _) ?_
      unfold m33_5
      refine hR _ _ ⟨⟨_, rfl, ?_⟩, hS.tail.tail⟩
      constructor
      · intro h
        have h : ¬ OverT g (lT l) mark := fun h' => by rw [ht.2 h'] at h; cases h
        exact ⟨by omega, by omega, fun j hj => hT j hj hj, fun j hj => hP j hj (by omega), h⟩
      · intro h
        have := h.over
        cases t with
        | true => exact absurd (ht.1 rfl) this
        | false => rfl
  unfold m33_1
  first | refine valP_ok (fa33_0 _ _) ?_ | refine valP_ok (fao33_0 _ _ _) ?_
  first | refine valP_ok (ld3 (hS.cell 0 rfl rfl)) ?_ | refine valP_ok (ld3 (hS.cell 1 rfl rfl)) ?_ | refine valP_ok (ld3 (hS.cell 2 rfl rfl)) ?_ | refine valP_ok (ld3 (hS.cell 3 rfl rfl)) ?_ | refine valP_ok (ld3 (hS.cell 4 rfl rfl)) ?_ | refine valP_ok (ld3 (hS.cell 5 rfl rfl)) ?_ | refine valP_ok (ld3 (hS.cell 6 rfl rfl)) ?_ | refine valP_ok (ld3 (hS.cell 7 rfl rfl)) ?_ | refine valP_ok (ld3 (by assumption)) ?_
  refine valP_ok (lss_ok _ _ _ _ _ _ _) ?_
  first | refine cond_split (fun hc0 => ?_) (fun hc0 => ?_) | refine cond_bsplit (fun hc0 => ?_) (fun hc0 => ?_)
  · first | refine pick_dt (by first | assumption | omega) ?_ | refine pick_df (by first | assumption | omega) ?_ | refine pick_t (by first | rfl | assumption) ?_ | refine pick_f (by first | rfl | assumption) ?_ | refine pick_dt rfl ?_ | refine pick_df (not_not_intro rfl) ?_
    first | refine cond_split (fun hc1 => ?_) (fun hc1 => ?_) | refine cond_bsplit (fun hc1 => ?_) (fun hc1 => ?_)
    · first | refine pick_dt (by first | assumption | omega) ?_ | refine pick_df (by first | assumption | omega) ?_ | refine pick_t (by first | rfl | assumption) ?_ | refine pick_f (by first | rfl | assumption) ?_ | refine pick_dt rfl ?_ | refine pick_df (not_not_intro rfl) ?_
      first | refine cond_split (fun hc2 => ?_) (fun hc2 => ?_) | refine cond_bsplit (fun hc2 => ?_) (fun hc2 => ?_)
      · first | refine pick_dt (by first | assumption | omega) ?_ | refine pick_df (by first | assumption | omega) ?_ | refine pick_t (by first | rfl | assumption) ?_ | refine pick_f (by first | rfl | assumption) ?_ | refine pick_dt rfl ?_ | refine pick_df (not_not_intro rfl) ?_
        exact leaf _ _ hS (by simp only [decide_eq_true_eq, Bool.false_eq_true, false_iff, true_iff] <;> first | contradiction | omega)
      · first | refine valP_ok (fa33_1 _ _) ?_ | refine valP_ok (fao33_1 _ _ _) ?_
        first | refine valP_ok (ld31 (hS.cell 0 rfl rfl)) ?_ | refine valP_ok (ld31 (hS.cell 1 rfl rfl)) ?_ | refine valP_ok (ld31 (hS.cell 2 rfl rfl)) ?_ | refine valP_ok (ld31 (hS.cell 3 rfl rfl)) ?_ | refine valP_ok (ld31 (hS.cell 4 rfl rfl)) ?_ | refine valP_ok (ld31 (hS.cell 5 rfl rfl)) ?_ | refine valP_ok (ld31 (hS.cell 6 rfl rfl)) ?_ | refine valP_ok (ld31 (hS.cell 7 rfl rfl)) ?_ | refine valP_ok (ld31 (by assumption)) ?_
        refine builtin_ok (len31 _) ?_
        refine valP_ok (gtr_ok _ _ _ _ _ _ _) ?_
        first | refine pick_dt (by first | assumption | omega) ?_ | refine pick_df (by first | assumption | omega) ?_ | refine pick_t (by first | rfl | assumption) ?_ | refine pick_f (by first | rfl | assumption) ?_ | refine pick_dt rfl ?_ | refine pick_df (not_not_intro rfl) ?_
        exact leaf _ _ hS (by simp only [decide_eq_true_eq, Bool.false_eq_true, false_iff, true_iff] <;> first | contradiction | omega)
    · first | refine valP_ok (fa33_1 _ _) ?_ | refine valP_ok (fao33_1 _ _ _) ?_
      first | refine valP_ok (ld31 (hS.cell 0 rfl rfl)) ?_ | refine valP_ok (ld31 (hS.cell 1 rfl rfl)) ?_ | refine valP_ok (ld31 (hS.cell 2 rfl rfl)) ?_ | refine valP_ok (ld31 (hS.cell 3 rfl rfl)) ?_ | refine valP_ok (ld31 (hS.cell 4 rfl rfl)) ?_ | refine valP_ok (ld31 (hS.cell 5 rfl rfl)) ?_ | refine valP_ok (ld31 (hS.cell 6 rfl rfl)) ?_ | refine valP_ok (ld31 (hS.cell 7 rfl rfl)) ?_ | refine valP_ok (ld31 (by assumption)) ?_
      refine builtin_ok (len31 _) ?_
      refine valP_ok (eq3 _ _ _ _ _) ?_
      first | refine pick_dt (by first | assumption | omega) ?_ | refine pick_df (by first | assumption | omega) ?_ | refine pick_t (by first | rfl | assumption) ?_ | refine pick_f (by first | rfl | assumption) ?_ | refine pick_dt rfl ?_ | refine pick_df (not_not_intro rfl) ?_
      first | refine cond_split (fun hc2 => ?_) (fun hc2 => ?_) | refine cond_bsplit (fun hc2 => ?_) (fun hc2 => ?_)
      · first | refine pick_dt (by first | assumption | omega) ?_ | refine pick_df (by first | assumption | omega) ?_ | refine pick_t (by first | rfl | assumption) ?_ | refine pick_f (by first | rfl | assumption) ?_ | refine pick_dt rfl ?_ | refine pick_df (not_not_intro rfl) ?_
        exact leaf _ _ hS (by simp only [decide_eq_true_eq, Bool.false_eq_true, false_iff, true_iff] <;> first | contradiction | omega)
      · first | refine valP_ok (fa33_1 _ _) ?_ | refine valP_ok (fao33_1 _ _ _) ?_
        first | refine valP_ok (ld31 (hS.cell 0 rfl rfl)) ?_ | refine valP_ok (ld31 (hS.cell 1 rfl rfl)) ?_ | refine valP_ok (ld31 (hS.cell 2 rfl rfl)) ?_ | refine valP_ok (ld31 (hS.cell 3 rfl rfl)) ?_ | refine valP_ok (ld31 (hS.cell 4 rfl rfl)) ?_ | refine valP_ok (ld31 (hS.cell 5 rfl rfl)) ?_ | refine valP_ok (ld31 (hS.cell 6 rfl rfl)) ?_ | refine valP_ok (ld31 (hS.cell 7 rfl rfl)) ?_ | refine valP_ok (ld31 (by assumption)) ?_
        refine builtin_ok (len31 _) ?_
        refine valP_ok (gtr_ok _ _ _ _ _ _ _) ?_
        first | refine pick_dt (by first | assumption | omega) ?_ | refine pick_df (by first | assumption | omega) ?_ | refine pick_t (by first | rfl | assumption) ?_ | refine pick_f (by first | rfl | assumption) ?_ | refine pick_dt rfl ?_ | refine pick_df (not_not_intro rfl) ?_
        exact leaf _ _ hS (by simp only [decide_eq_true_eq, Bool.false_eq_true, false_iff, true_iff] <;> first | contradiction | omega)
  · first | refine valP_ok (fa33_0 _ _) ?_ | refine valP_ok (fao33_0 _ _ _) ?_
    first | refine valP_ok (ld3 (hS.cell 0 rfl rfl)) ?_ | refine valP_ok (ld3 (hS.cell 1 rfl rfl)) ?_ | refine valP_ok (ld3 (hS.cell 2 rfl rfl)) ?_ | refine valP_ok (ld3 (hS.cell 3 rfl rfl)) ?_ | refine valP_ok (ld3 (hS.cell 4 rfl rfl)) ?_ | refine valP_ok (ld3 (hS.cell 5 rfl rfl)) ?_ | refine valP_ok (ld3 (hS.cell 6 rfl rfl)) ?_ | refine valP_ok (ld3 (hS.cell 7 rfl rfl)) ?_ | refine valP_ok (ld3 (by assumption)) ?_
    refine valP_ok (gtr_ok _ _ _ _ _ _ _) ?_
    first | refine pick_dt (by first | assumption | omega) ?_ | refine pick_df (by first | assumption | omega) ?_ | refine pick_t (by first | rfl | assumption) ?_ | refine pick_f (by first | rfl | assumption) ?_ | refine pick_dt rfl ?_ | refine pick_df (not_not_intro rfl) ?_
    first | refine cond_split (fun hc1 => ?_) (fun hc1 => ?_) | refine cond_bsplit (fun hc1 => ?_) (fun hc1 => ?_)
    · first | refine pick_dt (by first | assumption | omega) ?_ | refine pick_df (by first | assumption | omega) ?_ | refine pick_t (by first | rfl | assumption) ?_ | refine pick_f (by first | rfl | assumption) ?_ | refine pick_dt rfl ?_ | refine pick_df (not_not_intro rfl) ?_
      first | refine cond_split (fun hc2 => ?_) (fun hc2 => ?_) | refine cond_bsplit (fun hc2 => ?_) (fun hc2 => ?_)
      · first | refine pick_dt (by first | assumption | omega) ?_ | refine pick_df (by first | assumption | omega) ?_ | refine pick_t (by first | rfl | assumption) ?_ | refine pick_f (by first | rfl | assumption) ?_ | refine pick_dt rfl ?_ | refine pick_df (not_not_intro rfl) ?_
        exact leaf _ _ hS (by simp only [decide_eq_true_eq, Bool.false_eq_true, false_iff, true_iff] <;> first | contradiction | omega)
      · first | refine valP_ok (fa33_1 _ _) ?_ | refine valP_ok (fao33_1 _ _ _) ?_
        first | refine valP_ok (ld31 (hS.cell 0 rfl rfl)) ?_ | refine valP_ok (ld31 (hS.cell 1 rfl rfl)) ?_ | refine valP_ok (ld31 (hS.cell 2 rfl rfl)) ?_ | refine valP_ok (ld31 (hS.cell 3 rfl rfl)) ?_ | refine valP_ok (ld31 (hS.cell 4 rfl rfl)) ?_ | refine valP_ok (ld31 (hS.cell 5 rfl rfl)) ?_ | refine valP_ok (ld31 (hS.cell 6 rfl rfl)) ?_ | refine valP_ok (ld31 (hS.cell 7 rfl rfl)) ?_ | refine valP_ok (ld31 (by assumption)) ?_
        refine builtin_ok (len31 _) ?_
        refine valP_ok (gtr_ok _ _ _ _ _ _ _) ?_
        first | refine pick_dt (by first | assumption | omega) ?_ | refine pick_df (by first | assumption | omega) ?_ | refine pick_t (by first | rfl | assumption) ?_ | refine pick_f (by first | rfl | assumption) ?_ | refine pick_dt rfl ?_ | refine pick_df (not_not_intro rfl) ?_
        exact leaf _ _ hS (by simp only [decide_eq_true_eq, Bool.false_eq_true, false_iff, true_iff] <;> first | contradiction | omega)
    · first | refine valP_ok (fa33_1 _ _) ?_ | refine valP_ok (fao33_1 _ _ _) ?_
      first | refine valP_ok (ld31 (hS.cell 0 rfl rfl)) ?_ | refine valP_ok (ld31 (hS.cell 1 rfl rfl)) ?_ | refine valP_ok (ld31 (hS.cell 2 rfl rfl)) ?_ | refine valP_ok (ld31 (hS.cell 3 rfl rfl)) ?_ | refine valP_ok (ld31 (hS.cell 4 rfl rfl)) ?_ | refine valP_ok (ld31 (hS.cell 5 rfl rfl)) ?_ | refine valP_ok (ld31 (hS.cell 6 rfl rfl)) ?_ | refine valP_ok (ld31 (hS.cell 7 rfl rfl)) ?_ | refine valP_ok (ld31 (by assumption)) ?_
      refine builtin_ok (len31 _) ?_
      refine valP_ok (eq3 _ _ _ _ _) ?_
      first | refine pick_dt (by first | assumption | omega) ?_ | refine pick_df (by first | assumption | omega) ?_ | refine pick_t (by first | rfl | assumption) ?_ | refine pick_f (by first | rfl | assumption) ?_ | refine pick_dt rfl ?_ | refine pick_df (not_not_intro rfl) ?_
      first | refine cond_split (fun hc2 => ?_) (fun hc2 => ?_) | refine cond_bsplit (fun hc2 => ?_) (fun hc2 => ?_)
      · first | refine pick_dt (by first | assumption | omega) ?_ | refine pick_df (by first | assumption | omega) ?_ | refine pick_t (by first | rfl | assumption) ?_ | refine pick_f (by first | rfl | assumption) ?_ | refine pick_dt rfl ?_ | refine pick_df (not_not_intro rfl) ?_
        exact leaf _ _ hS (by simp only [decide_eq_true_eq, Bool.false_eq_true, false_iff, true_iff] <;> first | contradiction | omega)
      · first | refine valP_ok (fa33_1 _ _) ?_ | refine valP_ok (fao33_1 _ _ _) ?_
        first | refine valP_ok (ld31 (hS.cell 0 rfl rfl)) ?_ | refine valP_ok (ld31 (hS.cell 1 rfl rfl)) ?_ | refine valP_ok (ld31 (hS.cell 2 rfl rfl)) ?_ | refine valP_ok (ld31 (hS.cell 3 rfl rfl)) ?_ | refine valP_ok (ld31 (hS.cell 4 rfl rfl)) ?_ | refine valP_ok (ld31 (hS.cell 5 rfl rfl)) ?_ | refine valP_ok (ld31 (hS.cell 6 rfl rfl)) ?_ | refine valP_ok (ld31 (hS.cell 7 rfl rfl)) ?_ | refine valP_ok (ld31 (by assumption)) ?_
        refine builtin_ok (len31 _) ?_
        refine valP_ok (gtr_ok _ _ _ _ _ _ _) ?_
        first | refine pick_dt (by first | assumption | omega) ?_ | refine pick_df (by first | assumption | omega) ?_ | refine pick_t (by first | rfl | assumption) ?_ | refine pick_f (by first | rfl | assumption) ?_ | refine pick_dt rfl ?_ | refine pick_df (not_not_intro rfl) ?_
        exact leaf _ _ hS (by simp only [decide_eq_true_eq, Bool.false_eq_true, false_iff, true_iff] <;> first | contradiction | omega)
theorem span_ret (hg : GapOk g) (hm : mark ≤ 1099511627776) (hmk : -2 ≤ mark) (hl : l.length ≤ 140737488351232) (hS : St w0 F w L) (hE : BE w0 F L A l) :
    Ret Try.prog 33 #[gv g, spv key A l.length c, .int .i64 mark] w fun v w' => (∃ b, v = .bool b ∧ (b = true ↔ SpanOk g key l mark)) ∧ St w0 F w' L :=
  s33 _ _ _ (span_m hg hm hmk hl hS hE fun v w h => h)
end

end Go.Proofs.Ytojgdmcojmllkaa.M
