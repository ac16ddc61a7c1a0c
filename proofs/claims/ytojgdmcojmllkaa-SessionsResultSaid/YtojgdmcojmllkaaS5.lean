/- Whether a session may be, by the document. -/
import Derived.Test.YtojgdmcojmllkaaS4
import Derived.Test.YtojgdmcojmllkaaMmid0
import Derived.Test.YtojgdmcojmllkaaMmid1
namespace Go.Proofs.Ytojgdmcojmllkaa.M
open Go.Proofs.Ytojgdmcojmllkaa.F Go.RowKit
set_option linter.unusedVariables false
set_option linter.unusedSimpArgs false
set_option maxRecDepth 100000
set_option maxHeartbeats 2000000
attribute [local irreducible] Res.cells Res.row Res.map Res.any World.cell? World.frozen? Instr.fieldAt Instr.loadAt Instr.storeAt Instr.indexAt Instr.lookup Instr.mapUpdate Instr.box Instr.build Instr.buildSlice Instr.extract Instr.alloc Instr.field Instr.index Instr.sliceAt Instr.makeSlice Instr.makeMap Instr.makeFunc binS Op.unary Sem.run
section
variable {w0 w : World} {F : List Nat} {L : List Res} {key : Int} {A : Option Addr} {c : Nat} {l : List Ev} {g : Gp} {mark : Int}
theorem rspan_m {R : Value → World → Prop} (hg : GapOk g) (hm : mark ≤ 1099511627776) (hmk : -2 ≤ mark) (hl : l.length ≤ 140737488351232) (hS : St w0 F w L) (hE : BE w0 F L A l)
    (hR : ∀ v w, ((∃ b, v = .bool b ∧ (b = true ↔ SpanOk g key l mark)) ∧ St w0 F w L) → R v w) : m22 R (gv g) (spv key A l.length c) (.int .i64 mark) w := by
  have hgap := hg.gap
  unfold m22
  unfold m22_0
  refine new_ok (bx23 _ _ _) hS ?_
  intro b3 w hS
  refine new_ok (bx33 _ _ _) hS ?_
  intro b4 w hS
  have leaf : ∀ w t, St w0 F w (Res.cells b4 33 [.int .i64 key, .slice A l.length c] :: Res.cells b3 23 [.int .i64 g.gap, .int .i64 g.late] :: L) → (t = true ↔ (key < 0 ∨ 1048576 < key ∨ l.length = 0 ∨ 64 < l.length)) → m22_15 R (.int .i64 mark) (.pointer (some ⟨b3, 0, none⟩)) (.pointer (some ⟨b4, 0, none⟩)) (.bool t) w := by
    clear hS w
    intro w t hS ht
    unfold m22_15
    by_cases hb : key < 0 ∨ 1048576 < key ∨ l.length = 0 ∨ 64 < l.length
    · refine cond_t (ht.2 hb) ?_
      unfold m22_16
      refine span_no hS.tail.tail hR fun h => ?_
      have := h.key
      have := h.len
      omega
    refine cond_f (Bool.eq_false_iff.2 fun h => hb (ht.1 h)) ?_
    have hE' := fun a b => (hE.cons a).cons b
    obtain ⟨b, o, rfl⟩ := (hE.rd hS.tail.tail).some_ (by omega) (by omega)
    unfold m22_2 m22_5
    refine loop_in (fun u w' => ∃ i : Nat, u = .int .i64 i ∧ i ≤ l.length ∧ (∀ j (h : j < l.length), j < i → 0 ≤ l[j].t ∧ l[j].t ≤ mark) ∧ (∀ j (h : j + 1 < l.length), j + 1 < i → ¬ AheadE l[j + 1] l[j] ∧ l[j + 1].t - l[j].t ≤ g.gap) ∧ St w0 F w' (Res.cells b4 33 [.int .i64 key, .slice (some ⟨b, o, none⟩) l.length c] :: Res.cells b3 23 [.int .i64 g.gap, .int .i64 g.late] :: L)) (fun u _ => l.length - (intOf u).toNat) ⟨0, rfl, by omega, fun j h hj => by omega, fun j h hj => by omega, hS⟩ ?_
    clear hS w
    rintro u w ⟨i, rfl, hi, hT, hP, hS⟩
    unfold m22_6
    first | refine valP_ok (fa33_1 _ _) ?_ | refine valP_ok (fao33_1 _ _ _) ?_
    first | refine valP_ok (ld31 (hS.cell 0 rfl rfl)) ?_ | refine valP_ok (ld31 (hS.cell 1 rfl rfl)) ?_ | refine valP_ok (ld31 (hS.cell 2 rfl rfl)) ?_ | refine valP_ok (ld31 (hS.cell 3 rfl rfl)) ?_ | refine valP_ok (ld31 (hS.cell 4 rfl rfl)) ?_ | refine valP_ok (ld31 (hS.cell 5 rfl rfl)) ?_ | refine valP_ok (ld31 (hS.cell 6 rfl rfl)) ?_ | refine valP_ok (ld31 (hS.cell 7 rfl rfl)) ?_ | refine valP_ok (ld31 (by assumption)) ?_
    refine builtin_ok (len31 _) ?_
    refine valP_ok (lss_ok _ _ _ _ _ _ _) ?_
    unfold m22_14
    refine cond_split (fun h => ?_) (fun h => ?_)
    · have hlt : i < l.length := by omega
      have p := ev_at ((hE' _ _).rd hS) hlt
      have no : ∀ w L', St w0 F w (L' ++ L) → ¬ SpanOk g key l mark → R (.bool false) w := fun w L' hS h => span_no (by
        have := hS.perm (List.perm_append_comm (l₁ := L') (l₂ := L))
        exact this.left) hR h
      unfold m22_7
      first | refine valP_ok (fa33_1 _ _) ?_ | refine valP_ok (fao33_1 _ _ _) ?_
      first | refine valP_ok (ld31 (hS.cell 0 rfl rfl)) ?_ | refine valP_ok (ld31 (hS.cell 1 rfl rfl)) ?_ | refine valP_ok (ld31 (hS.cell 2 rfl rfl)) ?_ | refine valP_ok (ld31 (hS.cell 3 rfl rfl)) ?_ | refine valP_ok (ld31 (hS.cell 4 rfl rfl)) ?_ | refine valP_ok (ld31 (hS.cell 5 rfl rfl)) ?_ | refine valP_ok (ld31 (hS.cell 6 rfl rfl)) ?_ | refine valP_ok (ld31 (hS.cell 7 rfl rfl)) ?_ | refine valP_ok (ld31 (by assumption)) ?_
      refine valP_ok (ix31 hlt _) ?_
      refine valP_ok (fao28_0 _ _ _) ?_
      refine valP_ok (ld3 p.1) ?_
      refine valP_ok (lss_ok _ _ _ _ _ _ _) ?_
      refine cond_split (fun h1 => ?_) (fun h1 => ?_)
      · first | refine pick_dt (by first | assumption | omega) ?_ | refine pick_df (by first | assumption | omega) ?_ | refine pick_t (by first | rfl | assumption) ?_ | refine pick_f (by first | rfl | assumption) ?_ | refine pick_dt rfl ?_ | refine pick_df (not_not_intro rfl) ?_
        unfold m22_12
        refine cond_t rfl ?_
        unfold m22_13
        exact no w [_, _] hS fun h => by have := h.time i hlt; omega
      · first | refine valP_ok (fa33_1 _ _) ?_ | refine valP_ok (fao33_1 _ _ _) ?_
        first | refine valP_ok (ld31 (hS.cell 0 rfl rfl)) ?_ | refine valP_ok (ld31 (hS.cell 1 rfl rfl)) ?_ | refine valP_ok (ld31 (hS.cell 2 rfl rfl)) ?_ | refine valP_ok (ld31 (hS.cell 3 rfl rfl)) ?_ | refine valP_ok (ld31 (hS.cell 4 rfl rfl)) ?_ | refine valP_ok (ld31 (hS.cell 5 rfl rfl)) ?_ | refine valP_ok (ld31 (hS.cell 6 rfl rfl)) ?_ | refine valP_ok (ld31 (hS.cell 7 rfl rfl)) ?_ | refine valP_ok (ld31 (by assumption)) ?_
        refine valP_ok (ix31 hlt _) ?_
        refine valP_ok (fao28_0 _ _ _) ?_
        refine valP_ok (ld3 p.1) ?_
        refine valP_ok (gtr_ok _ _ _ _ _ _ _) ?_
        first | refine pick_dt (by first | assumption | omega) ?_ | refine pick_df (by first | assumption | omega) ?_ | refine pick_t (by first | rfl | assumption) ?_ | refine pick_f (by first | rfl | assumption) ?_ | refine pick_dt rfl ?_ | refine pick_df (not_not_intro rfl) ?_
        unfold m22_12
        refine cond_split (fun h2 => ?_) (fun h2 => ?_)
        · unfold m22_13
          exact no w [_, _] hS fun h => by have := h.time i hlt; omega
        · have hT' : ∀ j (h : j < l.length), j < i + 1 → 0 ≤ l[j].t ∧ l[j].t ≤ mark := fun j hj hji => by
            by_cases e : j = i
            · subst e
              omega
            · exact hT j hj (by omega)
          have next : ∀ w t, St w0 F w (Res.cells b4 33 [.int .i64 key, .slice (some ⟨b, o, none⟩) l.length c] :: Res.cells b3 23 [.int .i64 g.gap, .int .i64 g.late] :: L) → t = false → ∀ K : Value → World → Prop, (∀ w, St w0 F w (Res.cells b4 33 [.int .i64 key, .slice (some ⟨b, o, none⟩) l.length c] :: Res.cells b3 23 [.int .i64 g.gap, .int .i64 g.late] :: L) → K (.int .i64 ((i + 1 : Nat) : Int)) w) → m22_10 R K (.int .i64 mark) (.pointer (some ⟨b3, 0, none⟩)) (.pointer (some ⟨b4, 0, none⟩)) (.int .i64 i) (.bool t) w := fun w t hS ht K hK => by
            unfold m22_10
            refine cond_f ht ?_
            unfold m22_8
            refine valP_ok (add_ok _ _ _ (by omega) (by omega) _) ?_
            exact hK w hS
          have inv : ∀ w, (∀ j (h : j + 1 < l.length), j + 1 = i → ¬ AheadE l[j + 1] l[j] ∧ l[j + 1].t - l[j].t ≤ g.gap) → St w0 F w (Res.cells b4 33 [.int .i64 key, .slice (some ⟨b, o, none⟩) l.length c] :: Res.cells b3 23 [.int .i64 g.gap, .int .i64 g.late] :: L) → (∃ i' : Nat, Value.int .i64 ((i + 1 : Nat) : Int) = .int .i64 i' ∧ i' ≤ l.length ∧ (∀ j (h : j < l.length), j < i' → 0 ≤ l[j].t ∧ l[j].t ≤ mark) ∧ (∀ j (h : j + 1 < l.length), j + 1 < i' → ¬ AheadE l[j + 1] l[j] ∧ l[j + 1].t - l[j].t ≤ g.gap) ∧ St w0 F w (Res.cells b4 33 [.int .i64 key, .slice (some ⟨b, o, none⟩) l.length c] :: Res.cells b3 23 [.int .i64 g.gap, .int .i64 g.late] :: L)) ∧ l.length - (intOf (.int .i64 ((i + 1 : Nat) : Int))).toNat < l.length - (intOf (.int .i64 (i : Int))).toNat := fun w hj hS => by
            refine ⟨⟨i + 1, rfl, by omega, hT', fun j h1 h2 => ?_, hS⟩, by simp [intOf]; omega⟩
            by_cases e : j + 1 = i
            · exact hj j h1 e
            · exact hP j h1 (by omega)
          unfold m22_9
          refine drawn_ok hS ?_
          intro w hS
          refine held_Hs hS ?_
          refine valJ_ok (gtr_ok _ _ _ _ _ _) ?_
          refine cond_split (fun h3 => ?_) (fun h3 => ?_)
          · have hi0 : 0 < i := by omega
            have p := fun w (hw : Hs w0 F (Res.cells b4 33 [.int .i64 key, .slice (some ⟨b, o, none⟩) l.length c] :: Res.cells b3 23 [.int .i64 g.gap, .int .i64 g.late] :: L) w) => ev_at (Hs.rd (hE' _ _) w hw) hlt
            have q := fun w (hw : Hs w0 F (Res.cells b4 33 [.int .i64 key, .slice (some ⟨b, o, none⟩) l.length c] :: Res.cells b3 23 [.int .i64 g.gap, .int .i64 g.late] :: L) w) => ev_at (Hs.rd (hE' _ _) w hw) (i := i - 1) (by omega)
            first | refine valJ_ok (fa33_1 _) ?_ | refine valJ_ok (fao33_1 _ _) ?_
            first | refine valJ_load ld31 (Hs.cell 0 rfl rfl) ?_ | refine valJ_load ld31 (Hs.cell 1 rfl rfl) ?_ | refine valJ_load ld31 (Hs.cell 2 rfl rfl) ?_ | refine valJ_load ld31 (Hs.cell 3 rfl rfl) ?_ | refine valJ_load ld31 (Hs.cell 4 rfl rfl) ?_ | refine valJ_load ld31 (Hs.cell 5 rfl rfl) ?_ | refine valJ_load ld31 (Hs.cell 6 rfl rfl) ?_ | refine valJ_load ld31 (Hs.cell 7 rfl rfl) ?_ | refine valJ_load ld31 (by assumption) ?_
            refine valJ_ok (ix31 hlt) ?_
            refine valJ_at (fun w hw => ld28 (p w hw).1 (p w hw).2) ?_
            first | refine valJ_ok (fa33_1 _) ?_ | refine valJ_ok (fao33_1 _ _) ?_
            first | refine valJ_load ld31 (Hs.cell 0 rfl rfl) ?_ | refine valJ_load ld31 (Hs.cell 1 rfl rfl) ?_ | refine valJ_load ld31 (Hs.cell 2 rfl rfl) ?_ | refine valJ_load ld31 (Hs.cell 3 rfl rfl) ?_ | refine valJ_load ld31 (Hs.cell 4 rfl rfl) ?_ | refine valJ_load ld31 (Hs.cell 5 rfl rfl) ?_ | refine valJ_load ld31 (Hs.cell 6 rfl rfl) ?_ | refine valJ_load ld31 (Hs.cell 7 rfl rfl) ?_ | refine valJ_load ld31 (by assumption) ?_
            refine valJ_ok (sub_ok _ _ _ (by omega) (by omega)) ?_
            rw [show (i : Int) - 1 = ((i - 1 : Nat) : Int) by omega]
            refine valJ_ok (ix31 (k := i - 1) (by omega)) ?_
            refine valJ_at (fun w hw => ld28 (q w hw).1 (q w hw).2) ?_
            refine callR (by kernel_rfl) (ahead_ret (a := l[i]) (b := l[i - 1]) hS) ?_
            rintro v w ⟨⟨t, rfl, ht⟩, hS⟩
            refine stay_Hs hS (by first | exact fun _ h => h | exact fun _ h => .tail _ h | exact fun _ h => .tail _ (.tail _ h) | simp) ?_
            refine cond_bsplit (fun h4 => ?_) (fun h4 => ?_)
            · refine pick_t h4 ?_
              first | refine pick_dt (by first | assumption | omega) ?_ | refine pick_df (by first | assumption | omega) ?_ | refine pick_t (by first | rfl | assumption) ?_ | refine pick_f (by first | rfl | assumption) ?_ | refine pick_dt rfl ?_ | refine pick_df (not_not_intro rfl) ?_
              unfold m22_10
              refine cond_t rfl ?_
              unfold m22_11
              exact no w [_, _] hS fun h => (h.at_ hi0 hlt).1 (ht.1 h4)
            · first | refine valJ_ok (fa33_1 _) ?_ | refine valJ_ok (fao33_1 _ _) ?_
              first | refine valJ_load ld31 (Hs.cell 0 rfl rfl) ?_ | refine valJ_load ld31 (Hs.cell 1 rfl rfl) ?_ | refine valJ_load ld31 (Hs.cell 2 rfl rfl) ?_ | refine valJ_load ld31 (Hs.cell 3 rfl rfl) ?_ | refine valJ_load ld31 (Hs.cell 4 rfl rfl) ?_ | refine valJ_load ld31 (Hs.cell 5 rfl rfl) ?_ | refine valJ_load ld31 (Hs.cell 6 rfl rfl) ?_ | refine valJ_load ld31 (Hs.cell 7 rfl rfl) ?_ | refine valJ_load ld31 (by assumption) ?_
              refine valJ_ok (ix31 hlt) ?_
              refine valJ_ok (fao28_0 _ _) ?_
              refine valJ_load ld3 (fun w hw => (p w hw).1) ?_
              first | refine valJ_ok (fa33_1 _) ?_ | refine valJ_ok (fao33_1 _ _) ?_
              first | refine valJ_load ld31 (Hs.cell 0 rfl rfl) ?_ | refine valJ_load ld31 (Hs.cell 1 rfl rfl) ?_ | refine valJ_load ld31 (Hs.cell 2 rfl rfl) ?_ | refine valJ_load ld31 (Hs.cell 3 rfl rfl) ?_ | refine valJ_load ld31 (Hs.cell 4 rfl rfl) ?_ | refine valJ_load ld31 (Hs.cell 5 rfl rfl) ?_ | refine valJ_load ld31 (Hs.cell 6 rfl rfl) ?_ | refine valJ_load ld31 (Hs.cell 7 rfl rfl) ?_ | refine valJ_load ld31 (by assumption) ?_
              refine valJ_ok (sub_ok _ _ _ (by omega) (by omega)) ?_
              rw [show (i : Int) - 1 = ((i - 1 : Nat) : Int) by omega]
              refine valJ_ok (ix31 (k := i - 1) (by omega)) ?_
              refine valJ_ok (fao28_0 _ _) ?_
              refine valJ_load ld3 (fun w hw => (q w hw).1) ?_
              have ta := hT (i - 1) (by omega) (by omega)
              refine valJ_ok (sub_ok _ _ _ (by omega) (by omega)) ?_
              first | refine valJ_ok (fa23_0 _) ?_ | refine valJ_ok (fao23_0 _ _) ?_
              first | refine valJ_load ld3 (Hs.cell 0 rfl rfl) ?_ | refine valJ_load ld3 (Hs.cell 1 rfl rfl) ?_ | refine valJ_load ld3 (Hs.cell 2 rfl rfl) ?_ | refine valJ_load ld3 (Hs.cell 3 rfl rfl) ?_ | refine valJ_load ld3 (Hs.cell 4 rfl rfl) ?_ | refine valJ_load ld3 (Hs.cell 5 rfl rfl) ?_ | refine valJ_load ld3 (Hs.cell 6 rfl rfl) ?_ | refine valJ_load ld3 (Hs.cell 7 rfl rfl) ?_ | refine valJ_load ld3 (by assumption) ?_
              refine valJ_ok (gtr_ok _ _ _ _ _ _) ?_
              refine pick_f h4 ?_
              first | refine pick_dt (by first | assumption | omega) ?_ | refine pick_df (by first | assumption | omega) ?_ | refine pick_t (by first | rfl | assumption) ?_ | refine pick_f (by first | rfl | assumption) ?_ | refine pick_dt rfl ?_ | refine pick_df (not_not_intro rfl) ?_
              have h4 : ¬ AheadE l[i] l[i - 1] := fun h => by rw [ht.2 h] at h4; cases h4
              by_cases h6 : g.gap < l[i].t - l[i - 1].t
              · unfold m22_10
                refine cond_dt h6 ?_
                unfold m22_11
                refine no w [_, _] hS fun h => ?_
                have h7 := (h.at_ hi0 hlt).2
                omega
              · have hj : ∀ j (h : j + 1 < l.length), j + 1 = i → ¬ AheadE l[j + 1] l[j] ∧ l[j + 1].t - l[j].t ≤ g.gap := fun j h e => by
                  subst e
                  simp only [Nat.add_sub_cancel] at h6 h4
                  exact ⟨h4, by omega⟩
                exact next w _ hS (decide_eq_false h6) _ (fun w hS => inv w hj hS)
          · first | refine pick_dt (by first | assumption | omega) ?_ | refine pick_df (by first | assumption | omega) ?_ | refine pick_t (by first | rfl | assumption) ?_ | refine pick_f (by first | rfl | assumption) ?_ | refine pick_dt rfl ?_ | refine pick_df (not_not_intro rfl) ?_
            have hj : ∀ j (h : j + 1 < l.length), j + 1 = i → ¬ AheadE l[j + 1] l[j] ∧ l[j + 1].t - l[j].t ≤ g.gap := fun j h e => by omega
            exact next w _ hS rfl _ (fun w hS => inv w hj hS)
    · have hie : i = l.length := by omega
      subst hie
      unfold m22_3
      refine drawn_ok hS ?_
      intro w hS
      refine held_Hs hS ?_
      first | refine valJ_at (fun w hw => ld23 (Hs.cell 0 rfl rfl w hw) (Hs.cell 0 rfl rfl w hw)) ?_ | refine valJ_at (fun w hw => ld23 (Hs.cell 1 rfl rfl w hw) (Hs.cell 1 rfl rfl w hw)) ?_ | refine valJ_at (fun w hw => ld23 (Hs.cell 2 rfl rfl w hw) (Hs.cell 2 rfl rfl w hw)) ?_ | refine valJ_at (fun w hw => ld23 (Hs.cell 3 rfl rfl w hw) (Hs.cell 3 rfl rfl w hw)) ?_ | refine valJ_at (fun w hw => ld23 (Hs.cell 4 rfl rfl w hw) (Hs.cell 4 rfl rfl w hw)) ?_ | refine valJ_at (fun w hw => ld23 (Hs.cell 5 rfl rfl w hw) (Hs.cell 5 rfl rfl w hw)) ?_ | refine valJ_at (fun w hw => ld23 (Hs.cell 6 rfl rfl w hw) (Hs.cell 6 rfl rfl w hw)) ?_ | refine valJ_at (fun w hw => ld23 (Hs.cell 7 rfl rfl w hw) (Hs.cell 7 rfl rfl w hw)) ?_
      first | refine valJ_at (fun w hw => ld33 (Hs.cell 0 rfl rfl w hw) (Hs.cell 0 rfl rfl w hw)) ?_ | refine valJ_at (fun w hw => ld33 (Hs.cell 1 rfl rfl w hw) (Hs.cell 1 rfl rfl w hw)) ?_ | refine valJ_at (fun w hw => ld33 (Hs.cell 2 rfl rfl w hw) (Hs.cell 2 rfl rfl w hw)) ?_ | refine valJ_at (fun w hw => ld33 (Hs.cell 3 rfl rfl w hw) (Hs.cell 3 rfl rfl w hw)) ?_ | refine valJ_at (fun w hw => ld33 (Hs.cell 4 rfl rfl w hw) (Hs.cell 4 rfl rfl w hw)) ?_ | refine valJ_at (fun w hw => ld33 (Hs.cell 5 rfl rfl w hw) (Hs.cell 5 rfl rfl w hw)) ?_ | refine valJ_at (fun w hw => ld33 (Hs.cell 6 rfl rfl w hw) (Hs.cell 6 rfl rfl w hw)) ?_ | refine valJ_at (fun w hw => ld33 (Hs.cell 7 rfl rfl w hw) (Hs.cell 7 rfl rfl w hw)) ?_
      refine callR (by kernel_rfl) (last_ret hS (hE' _ _) (by omega) hl) ?_
      rintro v w ⟨rfl, hS⟩
      refine stay_Hs hS (by first | exact fun _ h => h | exact fun _ h => .tail _ h | exact fun _ h => .tail _ (.tail _ h) | simp) ?_
      refine callR (by kernel_rfl) (rover_ret hg ⟨hmk, hm⟩ hS) ?_
      rintro v w ⟨⟨t, rfl, ht⟩, hS⟩
      refine stay_Hs hS (by first | exact fun _ h => h | exact fun _ h => .tail _ h | exact fun _ h => .tail _ (.tail _ h) | simp) ?_
      first | refine valJ_ok (not_ok _) ?_ | refine valJ_ok (notb_ok _) ?_
      unfold m22_4
      refine hR _ _ ⟨⟨_, rfl, ?_⟩, hS.tail.tail⟩
      constructor
      · intro h
        have h : ¬ OverT g (lT l) mark := fun h' => by rw [ht.2 h'] at h; cases h
        exact ⟨by omega, by omega, fun j hj => hT j hj hj, fun j hj => hP j hj (by omega), h⟩
      · intro h
        have := h.over
        cases t with
        | true => exact absurd (ht.1 rfl) this
        | false => rfl
  unfold m22_1
  first | refine valP_ok (fa33_0 _ _) ?_ | refine valP_ok (fao33_0 _ _ _) ?_
  first | refine valP_ok (ld3 (hS.cell 0 rfl rfl)) ?_ | refine valP_ok (ld3 (hS.cell 1 rfl rfl)) ?_ | refine valP_ok (ld3 (hS.cell 2 rfl rfl)) ?_ | refine valP_ok (ld3 (hS.cell 3 rfl rfl)) ?_ | refine valP_ok (ld3 (hS.cell 4 rfl rfl)) ?_ | refine valP_ok (ld3 (hS.cell 5 rfl rfl)) ?_ | refine valP_ok (ld3 (hS.cell 6 rfl rfl)) ?_ | refine valP_ok (ld3 (hS.cell 7 rfl rfl)) ?_ | refine valP_ok (ld3 (by assumption)) ?_
  refine valP_ok (lss_ok _ _ _ _ _ _ _) ?_
  first | refine cond_split (fun hc0 => ?_) (fun hc0 => ?_) | refine cond_bsplit (fun hc0 => ?_) (fun hc0 => ?_)
  · first | refine pick_dt (by first | assumption | omega) ?_ | refine pick_df (by first | assumption | omega) ?_ | refine pick_t (by first | rfl | assumption) ?_ | refine pick_f (by first | rfl | assumption) ?_ | refine pick_dt rfl ?_ | refine pick_df (not_not_intro rfl) ?_
    first | refine cond_split (fun hc1 => ?_) (fun hc1 => ?_) | refine cond_bsplit (fun hc1 => ?_) (fun hc1 => ?_)
    · first | refine pick_dt (by first | assumption | omega) ?_ | refine pick_df (by first | assumption | omega) ?_ | refine pick_t (by first | rfl | assumption) ?_ | refine pick_f (by first | rfl | assumption) ?_ | refine pick_dt rfl ?_ | refine pick_df (not_not_intro rfl) ?_
      first | refine cond_split (fun hc2 => ?_) (fun hc2 => ?_) | refine cond_bsplit (fun hc2 => ?_) (fun hc2 => ?_)
      · first | refine pick_dt (by first | assumption | omega) ?_ | refine pick_df (by first | assumption | omega) ?_ | refine pick_t (by first | rfl | assumption) ?_ | refine pick_f (by first | rfl | assumption) ?_ | refine pick_dt rfl ?_ | refine pick_df (not_not_intro rfl) ?_
        exact leaf _ _ hS (by simp only [decide_eq_true_eq, Bool.false_eq_true, false_iff, true_iff] <;> first | contradiction | omega)
      · first | refine valP_ok (fa33_1 _ _) ?_ | refine valP_ok (fao33_1 _ _ _) ?_
        first | refine valP_ok (ld31 (hS.cell 0 rfl rfl)) ?_ | refine valP_ok (ld31 (hS.cell 1 rfl rfl)) ?_ | refine valP_ok (ld31 (hS.cell 2 rfl rfl)) ?_ | refine valP_ok (ld31 (hS.cell 3 rfl rfl)) ?_ | refine valP_ok (ld31 (hS.cell 4 rfl rfl)) ?_ | refine valP_ok (ld31 (hS.cell 5 rfl rfl)) ?_ | refine valP_ok (ld31 (hS.cell 6 rfl rfl)) ?_ | refine valP_ok (ld31 (hS.cell 7 rfl rfl)) ?_ | refine valP_ok (ld31 (by assumption)) ?_
        refine builtin_ok (len31 _) ?_
        refine valP_ok (gtr_ok _ _ _ _ _ _ _) ?_
        first | refine pick_dt (by first | assumption | omega) ?_ | refine pick_df (by first | assumption | omega) ?_ | refine pick_t (by first | rfl | assumption) ?_ | refine pick_f (by first | rfl | assumption) ?_ | refine pick_dt rfl ?_ | refine pick_df (not_not_intro rfl) ?_
        exact leaf _ _ hS (by simp only [decide_eq_true_eq, Bool.false_eq_true, false_iff, true_iff] <;> first | contradiction | omega)
    · first | refine valP_ok (fa33_1 _ _) ?_ | refine valP_ok (fao33_1 _ _ _) ?_
      first | refine valP_ok (ld31 (hS.cell 0 rfl rfl)) ?_ | refine valP_ok (ld31 (hS.cell 1 rfl rfl)) ?_ | refine valP_ok (ld31 (hS.cell 2 rfl rfl)) ?_ | refine valP_ok (ld31 (hS.cell 3 rfl rfl)) ?_ | refine valP_ok (ld31 (hS.cell 4 rfl rfl)) ?_ | refine valP_ok (ld31 (hS.cell 5 rfl rfl)) ?_ | refine valP_ok (ld31 (hS.cell 6 rfl rfl)) ?_ | refine valP_ok (ld31 (hS.cell 7 rfl rfl)) ?_ | refine valP_ok (ld31 (by assumption)) ?_
      refine builtin_ok (len31 _) ?_
      refine valP_ok (lss_ok _ _ _ _ _ _ _) ?_
      first | refine pick_dt (by first | assumption | omega) ?_ | refine pick_df (by first | assumption | omega) ?_ | refine pick_t (by first | rfl | assumption) ?_ | refine pick_f (by first | rfl | assumption) ?_ | refine pick_dt rfl ?_ | refine pick_df (not_not_intro rfl) ?_
      first | refine cond_split (fun hc2 => ?_) (fun hc2 => ?_) | refine cond_bsplit (fun hc2 => ?_) (fun hc2 => ?_)
      · first | refine pick_dt (by first | assumption | omega) ?_ | refine pick_df (by first | assumption | omega) ?_ | refine pick_t (by first | rfl | assumption) ?_ | refine pick_f (by first | rfl | assumption) ?_ | refine pick_dt rfl ?_ | refine pick_df (not_not_intro rfl) ?_
        exact leaf _ _ hS (by simp only [decide_eq_true_eq, Bool.false_eq_true, false_iff, true_iff] <;> first | contradiction | omega)
      · first | refine valP_ok (fa33_1 _ _) ?_ | refine valP_ok (fao33_1 _ _ _) ?_
        first | refine valP_ok (ld31 (hS.cell 0 rfl rfl)) ?_ | refine valP_ok (ld31 (hS.cell 1 rfl rfl)) ?_ | refine valP_ok (ld31 (hS.cell 2 rfl rfl)) ?_ | refine valP_ok (ld31 (hS.cell 3 rfl rfl)) ?_ | refine valP_ok (ld31 (hS.cell 4 rfl rfl)) ?_ | refine valP_ok (ld31 (hS.cell 5 rfl rfl)) ?_ | refine valP_ok (ld31 (hS.cell 6 rfl rfl)) ?_ | refine valP_ok (ld31 (hS.cell 7 rfl rfl)) ?_ | refine valP_ok (ld31 (by assumption)) ?_
        refine builtin_ok (len31 _) ?_
        refine valP_ok (gtr_ok _ _ _ _ _ _ _) ?_
        first | refine pick_dt (by first | assumption | omega) ?_ | refine pick_df (by first | assumption | omega) ?_ | refine pick_t (by first | rfl | assumption) ?_ | refine pick_f (by first | rfl | assumption) ?_ | refine pick_dt rfl ?_ | refine pick_df (not_not_intro rfl) ?_
        exact leaf _ _ hS (by simp only [decide_eq_true_eq, Bool.false_eq_true, false_iff, true_iff] <;> first | contradiction | omega)
  · first | refine valP_ok (fa33_0 _ _) ?_ | refine valP_ok (fao33_0 _ _ _) ?_
    first | refine valP_ok (ld3 (hS.cell 0 rfl rfl)) ?_ | refine valP_ok (ld3 (hS.cell 1 rfl rfl)) ?_ | refine valP_ok (ld3 (hS.cell 2 rfl rfl)) ?_ | refine valP_ok (ld3 (hS.cell 3 rfl rfl)) ?_ | refine valP_ok (ld3 (hS.cell 4 rfl rfl)) ?_ | refine valP_ok (ld3 (hS.cell 5 rfl rfl)) ?_ | refine valP_ok (ld3 (hS.cell 6 rfl rfl)) ?_ | refine valP_ok (ld3 (hS.cell 7 rfl rfl)) ?_ | refine valP_ok (ld3 (by assumption)) ?_
    refine valP_ok (gtr_ok _ _ _ _ _ _ _) ?_
    first | refine pick_dt (by first | assumption | omega) ?_ | refine pick_df (by first | assumption | omega) ?_ | refine pick_t (by first | rfl | assumption) ?_ | refine pick_f (by first | rfl | assumption) ?_ | refine pick_dt rfl ?_ | refine pick_df (not_not_intro rfl) ?_
    first | refine cond_split (fun hc1 => ?_) (fun hc1 => ?_) | refine cond_bsplit (fun hc1 => ?_) (fun hc1 => ?_)
    · first | refine pick_dt (by first | assumption | omega) ?_ | refine pick_df (by first | assumption | omega) ?_ | refine pick_t (by first | rfl | assumption) ?_ | refine pick_f (by first | rfl | assumption) ?_ | refine pick_dt rfl ?_ | refine pick_df (not_not_intro rfl) ?_
      first | refine cond_split (fun hc2 => ?_) (fun hc2 => ?_) | refine cond_bsplit (fun hc2 => ?_) (fun hc2 => ?_)
      · first | refine pick_dt (by first | assumption | omega) ?_ | refine pick_df (by first | assumption | omega) ?_ | refine pick_t (by first | rfl | assumption) ?_ | refine pick_f (by first | rfl | assumption) ?_ | refine pick_dt rfl ?_ | refine pick_df (not_not_intro rfl) ?_
        exact leaf _ _ hS (by simp only [decide_eq_true_eq, Bool.false_eq_true, false_iff, true_iff] <;> first | contradiction | omega)
      · first | refine valP_ok (fa33_1 _ _) ?_ | refine valP_ok (fao33_1 _ _ _) ?_
        first | refine valP_ok (ld31 (hS.cell 0 rfl rfl)) ?_ | refine valP_ok (ld31 (hS.cell 1 rfl rfl)) ?_ | refine valP_ok (ld31 (hS.cell 2 rfl rfl)) ?_ | refine valP_ok (ld31 (hS.cell 3 rfl rfl)) ?_ | refine valP_ok (ld31 (hS.cell 4 rfl rfl)) ?_ | refine valP_ok (ld31 (hS.cell 5 rfl rfl)) ?_ | refine valP_ok (ld31 (hS.cell 6 rfl rfl)) ?_ | refine valP_ok (ld31 (hS.cell 7 rfl rfl)) ?_ | refine valP_ok (ld31 (by assumption)) ?_
        refine builtin_ok (len31 _) ?_
        refine valP_ok (gtr_ok _ _ _ _ _ _ _) ?_
        first | refine pick_dt (by first | assumption | omega) ?_ | refine pick_df (by first | assumption | omega) ?_ | refine pick_t (by first | rfl | assumption) ?_ | refine pick_f (by first | rfl | assumption) ?_ | refine pick_dt rfl ?_ | refine pick_df (not_not_intro rfl) ?_
        exact leaf _ _ hS (by simp only [decide_eq_true_eq, Bool.false_eq_true, false_iff, true_iff] <;> first | contradiction | omega)
    · first | refine valP_ok (fa33_1 _ _) ?_ | refine valP_ok (fao33_1 _ _ _) ?_
      first | refine valP_ok (ld31 (hS.cell 0 rfl rfl)) ?_ | refine valP_ok (ld31 (hS.cell 1 rfl rfl)) ?_ | refine valP_ok (ld31 (hS.cell 2 rfl rfl)) ?_ | refine valP_ok (ld31 (hS.cell 3 rfl rfl)) ?_ | refine valP_ok (ld31 (hS.cell 4 rfl rfl)) ?_ | refine valP_ok (ld31 (hS.cell 5 rfl rfl)) ?_ | refine valP_ok (ld31 (hS.cell 6 rfl rfl)) ?_ | refine valP_ok (ld31 (hS.cell 7 rfl rfl)) ?_ | refine valP_ok (ld31 (by assumption)) ?_
      refine builtin_ok (len31 _) ?_
      refine valP_ok (lss_ok _ _ _ _ _ _ _) ?_
      first | refine pick_dt (by first | assumption | omega) ?_ | refine pick_df (by first | assumption | omega) ?_ | refine pick_t (by first | rfl | assumption) ?_ | refine pick_f (by first | rfl | assumption) ?_ | refine pick_dt rfl ?_ | refine pick_df (not_not_intro rfl) ?_
      first | refine cond_split (fun hc2 => ?_) (fun hc2 => ?_) | refine cond_bsplit (fun hc2 => ?_) (fun hc2 => ?_)
      · first | refine pick_dt (by first | assumption | omega) ?_ | refine pick_df (by first | assumption | omega) ?_ | refine pick_t (by first | rfl | assumption) ?_ | refine pick_f (by first | rfl | assumption) ?_ | refine pick_dt rfl ?_ | refine pick_df (not_not_intro rfl) ?_
        exact leaf _ _ hS (by simp only [decide_eq_true_eq, Bool.false_eq_true, false_iff, true_iff] <;> first | contradiction | omega)
      · first | refine valP_ok (fa33_1 _ _) ?_ | refine valP_ok (fao33_1 _ _ _) ?_
        first | refine valP_ok (ld31 (hS.cell 0 rfl rfl)) ?_ | refine valP_ok (ld31 (hS.cell 1 rfl rfl)) ?_ | refine valP_ok (ld31 (hS.cell 2 rfl rfl)) ?_ | refine valP_ok (ld31 (hS.cell 3 rfl rfl)) ?_ | refine valP_ok (ld31 (hS.cell 4 rfl rfl)) ?_ | refine valP_ok (ld31 (hS.cell 5 rfl rfl)) ?_ | refine valP_ok (ld31 (hS.cell 6 rfl rfl)) ?_ | refine valP_ok (ld31 (hS.cell 7 rfl rfl)) ?_ | refine valP_ok (ld31 (by assumption)) ?_
        refine builtin_ok (len31 _) ?_
        refine valP_ok (gtr_ok _ _ _ _ _ _ _) ?_
        first | refine pick_dt (by first | assumption | omega) ?_ | refine pick_df (by first | assumption | omega) ?_ | refine pick_t (by first | rfl | assumption) ?_ | refine pick_f (by first | rfl | assumption) ?_ | refine pick_dt rfl ?_ | refine pick_df (not_not_intro rfl) ?_
        exact leaf _ _ hS (by simp only [decide_eq_true_eq, Bool.false_eq_true, false_iff, true_iff] <;> first | contradiction | omega)
theorem rspan_ret (hg : GapOk g) (hm : mark ≤ 1099511627776) (hmk : -2 ≤ mark) (hl : l.length ≤ 140737488351232) (hS : St w0 F w L) (hE : BE w0 F L A l) :
    Ret Try.prog 22 #[gv g, spv key A l.length c, .int .i64 mark] w fun v w' => (∃ b, v = .bool b ∧ (b = true ↔ SpanOk g key l mark)) ∧ St w0 F w' L :=
  s22 _ _ _ (rspan_m hg hm hmk hl hS hE fun v w h => h)
end

end Go.Proofs.Ytojgdmcojmllkaa.M
