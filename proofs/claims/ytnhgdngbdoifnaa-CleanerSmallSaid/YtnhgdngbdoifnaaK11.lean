/- Diff: the walk. -/
import Derived.Test.YtnhgdngbdoifnaaK10
import Derived.Test.YtnhgdngbdoifnaaFwW
import Derived.Test.YtnhgdngbdoifnaaMbase0
import Derived.Test.YtnhgdngbdoifnaaMmid0
import Derived.Test.YtnhgdngbdoifnaaMgrid0
import Derived.Test.YtnhgdngbdoifnaaMfold0
import Derived.Test.YtnhgdngbdoifnaaMeng0
import Derived.Test.YtnhgdngbdoifnaaMdiff0
namespace Go.Proofs.Ytnhgdngbdoifnaa.M
open Go.Proofs.Ytnhgdngbdoifnaa.F Go.RowKit
set_option linter.unusedVariables false
set_option linter.unusedSimpArgs false
set_option maxRecDepth 100000
set_option maxHeartbeats 2000000
attribute [local irreducible] Res.cells Res.row Res.map Res.any World.cell? World.frozen? Instr.fieldAt Instr.loadAt Instr.storeAt Instr.indexAt Instr.lookup Instr.mapUpdate Instr.box Instr.build Instr.buildSlice Instr.extract Instr.alloc Instr.field Instr.index Instr.sliceAt Instr.makeSlice Instr.makeMap Instr.makeFunc binS Op.unary Sem.run
section
variable {w0 w : World} {F : List Nat} {L : List Res}
section
variable {s t : Sg} {A1 A2 : Option Addr} {c1 c2 b2 b3 : Nat} {i k c : Nat} {A : Option Addr} {rs : List Rc} {K1 : Value × Value × Value → World → Prop}
theorem up3 {x y z : Res} {A : Option Addr} {c : Nat} {l : List Ce} (h : Sl w0 F L A c l) : Sl w0 F (x :: y :: z :: L) A c l := ((h.cons _).cons _).cons _
theorem DfI.bnd (h : DfI s t i k rs) (h64 : s.L.length ≤ 64 ∧ t.L.length ≤ 64) : i ≤ 64 ∧ k ≤ 64 ∧ rs.length ≤ 1 + i + k := ⟨by have := h.1.1; omega, by have := h.1.2; omega, h.2.1⟩
theorem df_10 (h64 : s.L.length ≤ 64 ∧ t.L.length ≤ 64) (hs : SgOk s) (ht : SgOk t) (hE1 : Sl w0 F L A1 c1 s.L) (hE2 : Sl w0 F L A2 c2 t.L) (hi : i < s.L.length) (hk : k < t.L.length) (h1 : ¬ AheadC s.L[i] t.L[k]) (h2 : ¬ AheadC t.L[k] s.L[i]) (hI : DfI s t i k rs) (hK : DfK s t w0 F L A1 A2 c1 c2 b2 b3 (i + k) K1) (hS : St w0 F w (rRow A c rs :: DfL L s t A1 A2 c1 c2 b2 b3)) : m14_10 (DiffR s t w0 F L) K1 (.pointer (some ⟨b2, 0, none⟩)) (.pointer (some ⟨b3, 0, none⟩)) (.slice A rs.length c) (.int .i64 (i : Int)) (.int .i64 (k : Int)) w := by
  classical
  have hb := hI.bnd h64
  have hc1 := hs.2 _ (List.getElem_mem hi)
  have hc2 := ht.2 _ (List.getElem_mem hk)
  obtain ⟨g1, o1, rfl⟩ := ((up3 hE1).rd.rd hS).some_ (by omega) (by omega)
  obtain ⟨g2, o2, rfl⟩ := ((up3 hE2).rd.rd hS).some_ (by omega) (by omega)
  obtain ⟨q, hq, hrun⟩ := ne67 (.tmp 137) (.tmp 142) hc1 hc2
  have hd := diff_both hi hk h1 h2
  unfold m14_10
  first | refine valQ_ok (fa28_4 _) ?_ | refine valQ_ok (fao28_4 _ _) ?_
  first | refine valQ_load ld26 (hS.cell 0 rfl rfl) ?_ | refine valQ_load ld26 (hS.cell 1 rfl rfl) ?_ | refine valQ_load ld26 (hS.cell 2 rfl rfl) ?_ | refine valQ_load ld26 (hS.cell 3 rfl rfl) ?_ | refine valQ_load ld26 (hS.cell 4 rfl rfl) ?_ | refine valQ_load ld26 (hS.cell 5 rfl rfl) ?_ | refine valQ_load ld26 (hS.cell 6 rfl rfl) ?_ | refine valQ_load ld26 (hS.cell 7 rfl rfl) ?_ | refine valQ_load ld26 (by assumption) ?_
  first | refine valQ_ok (ixz26 (by first | assumption | omega)) ?_ | refine valQ_ok (ix26 (by first | assumption | omega)) ?_
  refine valQ_at (fun n => ldC ((up3 hE1).rd.rd (hS.drewN n)) hi) ?_
  first | refine valQ_ok (fa28_4 _) ?_ | refine valQ_ok (fao28_4 _ _) ?_
  first | refine valQ_load ld26 (hS.cell 0 rfl rfl) ?_ | refine valQ_load ld26 (hS.cell 1 rfl rfl) ?_ | refine valQ_load ld26 (hS.cell 2 rfl rfl) ?_ | refine valQ_load ld26 (hS.cell 3 rfl rfl) ?_ | refine valQ_load ld26 (hS.cell 4 rfl rfl) ?_ | refine valQ_load ld26 (hS.cell 5 rfl rfl) ?_ | refine valQ_load ld26 (hS.cell 6 rfl rfl) ?_ | refine valQ_load ld26 (hS.cell 7 rfl rfl) ?_ | refine valQ_load ld26 (by assumption) ?_
  first | refine valQ_ok (ixz26 (by first | assumption | omega)) ?_ | refine valQ_ok (ix26 (by first | assumption | omega)) ?_
  refine valQ_at (fun n => ldC ((up3 hE2).rd.rd (hS.drewN n)) hk) ?_
  refine valQ_ok hrun ?_
  refine drawn_ok hS ?_
  intro w hS
  unfold m14_13
  cases q with
  | true =>
    have hne := hq.1 rfl
    rw [if_neg hne] at hd
    refine cond_t rfl ?_
    first | refine valP_ok (fa28_4 _ _) ?_ | refine valP_ok (fao28_4 _ _ _) ?_
    first | refine valP_ok (ld26 (hS.cell 0 rfl rfl)) ?_ | refine valP_ok (ld26 (hS.cell 1 rfl rfl)) ?_ | refine valP_ok (ld26 (hS.cell 2 rfl rfl)) ?_ | refine valP_ok (ld26 (hS.cell 3 rfl rfl)) ?_ | refine valP_ok (ld26 (hS.cell 4 rfl rfl)) ?_ | refine valP_ok (ld26 (hS.cell 5 rfl rfl)) ?_ | refine valP_ok (ld26 (hS.cell 6 rfl rfl)) ?_ | refine valP_ok (ld26 (hS.cell 7 rfl rfl)) ?_ | refine valP_ok (ld26 (by assumption)) ?_
    first | refine valP_ok (ixz26 (by first | assumption | omega) _) ?_ | refine valP_ok (ix26 (by first | assumption | omega) _) ?_
    refine valP_ok (ldC ((up3 hE2).rd.rd hS) hk) ?_
    refine callR (by kernel_rfl) (there_ret hc2 hS) ?_
    rintro _ w ⟨rfl, hS⟩
    refine newslice_ok (bs24_1 _) hS ?_
    intro b151 w hS
    refine df_put (i := i) (k := k) h64 ⟨by omega, by omega⟩ (by omega) hS ?_
    intro A' c' w hS
    refine df_11 h64 ⟨by omega, by omega⟩ ⟨⟨by omega, by omega⟩, by rw [List.length_append]; simp; omega, ?_⟩ hK hS
    rw [List.append_assoc, ← hd]
    exact hI.2.2
  | false =>
    have he : s.L[i] = t.L[k] := Classical.byContradiction fun h => by have := hq.2 h; cases this
    rw [if_pos he, List.nil_append] at hd
    refine cond_f rfl ?_
    exact df_11 h64 ⟨by omega, by omega⟩ ⟨⟨by omega, by omega⟩, by omega, by rw [← hd]; exact hI.2.2⟩ hK hS
theorem df_14 (h64 : s.L.length ≤ 64 ∧ t.L.length ≤ 64) (hs : SgOk s) (ht : SgOk t) (hE1 : Sl w0 F L A1 c1 s.L) (hE2 : Sl w0 F L A2 c2 t.L) (hI : DfI s t i k rs) (hK : DfK s t w0 F L A1 A2 c1 c2 b2 b3 (i + k) K1) (hS : St w0 F w (rRow A c rs :: DfL L s t A1 A2 c1 c2 b2 b3)) (q : Bool) (hk : k < t.L.length) (hq1 : q = true → s.L.length ≤ i ∨ ∃ hi : i < s.L.length, ¬ AheadC s.L[i] t.L[k] ∧ AheadC t.L[k] s.L[i]) (hq2 : q = false → ∃ hi : i < s.L.length, ¬ AheadC s.L[i] t.L[k] ∧ ¬ AheadC t.L[k] s.L[i]) : m14_14 (DiffR s t w0 F L) K1 (.pointer (some ⟨b2, 0, none⟩)) (.pointer (some ⟨b3, 0, none⟩)) (.slice A rs.length c) (.int .i64 (i : Int)) (.int .i64 (k : Int)) (.bool q) w := by
  unfold m14_14
  cases q with
  | true =>
    have hb := hI.bnd h64
    have hc2 := ht.2 _ (List.getElem_mem hk)
    obtain ⟨g2, o2, rfl⟩ := ((up3 hE2).rd.rd hS).some_ (by omega) (by omega)
    have hd := diff_there hk (hq1 rfl)
    refine cond_t rfl ?_
    first | refine valP_ok (fa28_4 _ _) ?_ | refine valP_ok (fao28_4 _ _ _) ?_
    first | refine valP_ok (ld26 (hS.cell 0 rfl rfl)) ?_ | refine valP_ok (ld26 (hS.cell 1 rfl rfl)) ?_ | refine valP_ok (ld26 (hS.cell 2 rfl rfl)) ?_ | refine valP_ok (ld26 (hS.cell 3 rfl rfl)) ?_ | refine valP_ok (ld26 (hS.cell 4 rfl rfl)) ?_ | refine valP_ok (ld26 (hS.cell 5 rfl rfl)) ?_ | refine valP_ok (ld26 (hS.cell 6 rfl rfl)) ?_ | refine valP_ok (ld26 (hS.cell 7 rfl rfl)) ?_ | refine valP_ok (ld26 (by assumption)) ?_
    first | refine valP_ok (ixz26 (by first | assumption | omega) _) ?_ | refine valP_ok (ix26 (by first | assumption | omega) _) ?_
    refine valP_ok (ldC ((up3 hE2).rd.rd hS) hk) ?_
    refine callR (by kernel_rfl) (there_ret hc2 hS) ?_
    rintro _ w ⟨rfl, hS⟩
    refine newslice_ok (bs24_1 _) hS ?_
    intro b129 w hS
    refine df_put (i := i) (k := k) h64 ⟨by omega, by omega⟩ (by omega) hS ?_
    intro A' c' w hS
    unfold m14_15
    refine valP_ok (add_ok _ _ _ (by omega) (by omega) _) ?_
    unfold m14_16
    refine hK w i (k + 1) _ _ _ ⟨⟨hI.1.1, by omega⟩, by rw [List.length_append]; simp; omega, ?_⟩ (by omega) hS
    rw [List.append_assoc, List.singleton_append, ← hd]
    exact hI.2.2
  | false =>
    obtain ⟨hi, h1, h2⟩ := hq2 rfl
    refine cond_f rfl ?_
    exact df_10 h64 hs ht hE1 hE2 hi hk h1 h2 hI hK hS
theorem df_9 (h64 : s.L.length ≤ 64 ∧ t.L.length ≤ 64) (hs : SgOk s) (ht : SgOk t) (hE1 : Sl w0 F L A1 c1 s.L) (hE2 : Sl w0 F L A2 c2 t.L) (hI : DfI s t i k rs) (hK : DfK s t w0 F L A1 A2 c1 c2 b2 b3 (i + k) K1) (hS : St w0 F w (rRow A c rs :: DfL L s t A1 A2 c1 c2 b2 b3)) (hk : k < t.L.length) (h : s.L.length ≤ i ∨ ∃ hi : i < s.L.length, ¬ AheadC s.L[i] t.L[k]) : m14_9 (DiffR s t w0 F L) K1 (.pointer (some ⟨b2, 0, none⟩)) (.pointer (some ⟨b3, 0, none⟩)) (.slice A rs.length c) (.int .i64 (i : Int)) (.int .i64 (k : Int)) w := by
  have hb := hI.bnd h64
  unfold m14_9
  refine drawn_ok hS ?_
  intro w hS
  first | refine valS_ok (fa28_4 _ _) ?_ | refine valS_ok (fao28_4 _ _ _) ?_
  first | refine valS_ok (ld26 (hS.cell 0 rfl rfl)) ?_ | refine valS_ok (ld26 (hS.cell 1 rfl rfl)) ?_ | refine valS_ok (ld26 (hS.cell 2 rfl rfl)) ?_ | refine valS_ok (ld26 (hS.cell 3 rfl rfl)) ?_ | refine valS_ok (ld26 (hS.cell 4 rfl rfl)) ?_ | refine valS_ok (ld26 (hS.cell 5 rfl rfl)) ?_ | refine valS_ok (ld26 (hS.cell 6 rfl rfl)) ?_ | refine valS_ok (ld26 (hS.cell 7 rfl rfl)) ?_ | refine valS_ok (ld26 (by assumption)) ?_
  refine builtinS_ok (len26 _) ?_
  refine valS_ok (eq3 _ _ _ _ _) ?_
  refine cond_split (fun he => ?_) (fun he => ?_)
  · first | refine pick_dt (by first | assumption | omega) ?_ | refine pick_df (by first | assumption | omega) ?_ | refine pick_t (by first | rfl | assumption) ?_ | refine pick_f (by first | rfl | assumption) ?_ | refine pick_dt rfl ?_ | refine pick_df (not_not_intro rfl) ?_
    exact df_14 h64 hs ht hE1 hE2 hI hK hS true hk (fun _ => .inl (by omega)) (fun h => (by cases h))
  · obtain ⟨hi, h1⟩ : ∃ hi : i < s.L.length, ¬ AheadC s.L[i] t.L[k] := h.resolve_left (by have := hI.1.1; omega)
    obtain ⟨g1, o1, rfl⟩ := ((up3 hE1).rd.rd hS).some_ (by omega) (by omega)
    obtain ⟨g2, o2, rfl⟩ := ((up3 hE2).rd.rd hS).some_ (by omega) (by omega)
    first | refine valS_ok (fa28_4 _ _) ?_ | refine valS_ok (fao28_4 _ _ _) ?_
    first | refine valS_ok (ld26 (hS.cell 0 rfl rfl)) ?_ | refine valS_ok (ld26 (hS.cell 1 rfl rfl)) ?_ | refine valS_ok (ld26 (hS.cell 2 rfl rfl)) ?_ | refine valS_ok (ld26 (hS.cell 3 rfl rfl)) ?_ | refine valS_ok (ld26 (hS.cell 4 rfl rfl)) ?_ | refine valS_ok (ld26 (hS.cell 5 rfl rfl)) ?_ | refine valS_ok (ld26 (hS.cell 6 rfl rfl)) ?_ | refine valS_ok (ld26 (hS.cell 7 rfl rfl)) ?_ | refine valS_ok (ld26 (by assumption)) ?_
    first | refine valS_ok (ixz26 (by first | assumption | omega) _) ?_ | refine valS_ok (ix26 (by first | assumption | omega) _) ?_
    refine valS_ok (ldC ((up3 hE2).rd.rd hS) hk) ?_
    first | refine valS_ok (fa28_4 _ _) ?_ | refine valS_ok (fao28_4 _ _ _) ?_
    first | refine valS_ok (ld26 (hS.cell 0 rfl rfl)) ?_ | refine valS_ok (ld26 (hS.cell 1 rfl rfl)) ?_ | refine valS_ok (ld26 (hS.cell 2 rfl rfl)) ?_ | refine valS_ok (ld26 (hS.cell 3 rfl rfl)) ?_ | refine valS_ok (ld26 (hS.cell 4 rfl rfl)) ?_ | refine valS_ok (ld26 (hS.cell 5 rfl rfl)) ?_ | refine valS_ok (ld26 (hS.cell 6 rfl rfl)) ?_ | refine valS_ok (ld26 (hS.cell 7 rfl rfl)) ?_ | refine valS_ok (ld26 (by assumption)) ?_
    first | refine valS_ok (ixz26 (by first | assumption | omega) _) ?_ | refine valS_ok (ix26 (by first | assumption | omega) _) ?_
    refine valS_ok (ldC ((up3 hE1).rd.rd hS) hi) ?_
    refine callR (by kernel_rfl) (ahead_ret hS) ?_
    rintro _ w ⟨rfl, hS⟩
    first | refine pick_dt (by first | assumption | omega) ?_ | refine pick_df (by first | assumption | omega) ?_ | refine pick_t (by first | rfl | assumption) ?_ | refine pick_f (by first | rfl | assumption) ?_ | refine pick_dt rfl ?_ | refine pick_df (not_not_intro rfl) ?_
    exact df_14 h64 hs ht hE1 hE2 hI hK hS _ hk (fun h => .inr ⟨hi, h1, of_decide_eq_true h⟩) (fun h => ⟨hi, h1, of_decide_eq_false h⟩)
theorem df_17 (h64 : s.L.length ≤ 64 ∧ t.L.length ≤ 64) (hs : SgOk s) (ht : SgOk t) (hE1 : Sl w0 F L A1 c1 s.L) (hE2 : Sl w0 F L A2 c2 t.L) (hI : DfI s t i k rs) (hK : DfK s t w0 F L A1 A2 c1 c2 b2 b3 (i + k) K1) (hS : St w0 F w (rRow A c rs :: DfL L s t A1 A2 c1 c2 b2 b3)) (q : Bool) (hq1 : q = true → ∃ hi : i < s.L.length, t.L.length ≤ k ∨ ∃ hk : k < t.L.length, AheadC s.L[i] t.L[k]) (hq2 : q = false → ∃ hk : k < t.L.length, s.L.length ≤ i ∨ ∃ hi : i < s.L.length, ¬ AheadC s.L[i] t.L[k]) : m14_17 (DiffR s t w0 F L) K1 (.pointer (some ⟨b2, 0, none⟩)) (.pointer (some ⟨b3, 0, none⟩)) (.slice A rs.length c) (.int .i64 (i : Int)) (.int .i64 (k : Int)) (.bool q) w := by
  unfold m14_17
  cases q with
  | true =>
    obtain ⟨hi, h⟩ := hq1 rfl
    have hb := hI.bnd h64
    have hc1 := hs.2 _ (List.getElem_mem hi)
    obtain ⟨g1, o1, rfl⟩ := ((up3 hE1).rd.rd hS).some_ (by omega) (by omega)
    have hd := diff_gone hi h
    refine cond_t rfl ?_
    refine drawn_ok hS ?_
    intro w hS
    refine held_Hs hS.tail ?_
    have hE1' : Sl w0 F (DfL L s t (some ⟨g1, o1, none⟩) A2 c1 c2 b2 b3) (some ⟨g1, o1, none⟩) c1 s.L := (hE1.cons _).cons _
    have p := fun w (hw : Hs w0 F (DfL L s t (some ⟨g1, o1, none⟩) A2 c1 c2 b2 b3) w) j hj v hv => c_at (v := v) (Hs.rd hE1'.rd w hw) hi j hj hv
    first | refine valJ_ok (fa28_4 _) ?_ | refine valJ_ok (fao28_4 _ _) ?_
    first | refine valJ_load ld26 (Hs.cell 0 rfl rfl) ?_ | refine valJ_load ld26 (Hs.cell 1 rfl rfl) ?_ | refine valJ_load ld26 (Hs.cell 2 rfl rfl) ?_ | refine valJ_load ld26 (Hs.cell 3 rfl rfl) ?_ | refine valJ_load ld26 (Hs.cell 4 rfl rfl) ?_ | refine valJ_load ld26 (Hs.cell 5 rfl rfl) ?_ | refine valJ_load ld26 (Hs.cell 6 rfl rfl) ?_ | refine valJ_load ld26 (Hs.cell 7 rfl rfl) ?_ | refine valJ_load ld26 (by assumption) ?_
    refine valJ_ok (fun w => ix26 hi w) ?_
    refine valJ_ok (fun w => fao67_0 _ _ w) ?_
    refine valJ_at (fun w hw => ld3 (p w hw 0 (by omega) _ rfl)) ?_
    first | refine valJ_ok (fa28_4 _) ?_ | refine valJ_ok (fao28_4 _ _) ?_
    first | refine valJ_load ld26 (Hs.cell 0 rfl rfl) ?_ | refine valJ_load ld26 (Hs.cell 1 rfl rfl) ?_ | refine valJ_load ld26 (Hs.cell 2 rfl rfl) ?_ | refine valJ_load ld26 (Hs.cell 3 rfl rfl) ?_ | refine valJ_load ld26 (Hs.cell 4 rfl rfl) ?_ | refine valJ_load ld26 (Hs.cell 5 rfl rfl) ?_ | refine valJ_load ld26 (Hs.cell 6 rfl rfl) ?_ | refine valJ_load ld26 (Hs.cell 7 rfl rfl) ?_ | refine valJ_load ld26 (by assumption) ?_
    refine valJ_ok (fun w => ix26 hi w) ?_
    refine valJ_ok (fun w => fao67_1 _ _ w) ?_
    refine valJ_at (fun w hw => ld3 (p w hw 1 (by omega) _ rfl)) ?_
    refine callR (by kernel_rfl) (rput_ret (by omega) hS) ?_
    rintro _ w ⟨rfl, hS⟩
    refine stay_Hs hS (fun _ h => .tail _ h) ?_
    refine valJ_ok (bd46_0_1_2 rfl rfl rfl) ?_
    refine newslice_ok (bs24_1 _) hS ?_
    intro b100 w hS
    refine stay_Hs hS (fun _ h => .tail _ (.tail _ h)) ?_
    refine df_put (i := i) (k := k) (r := goneR s.L[i]) h64 ⟨by omega, by omega⟩ (by omega) hS ?_
    intro A' c' w hS
    refine stay_Hs hS (fun _ h => .tail _ h) ?_
    unfold m14_18
    refine valP_ok (add_ok _ _ _ (by omega) (by omega) _) ?_
    unfold m14_19
    refine hK w (i + 1) k _ _ _ ⟨⟨by omega, hI.1.2⟩, by rw [List.length_append]; simp; omega, ?_⟩ (by omega) hS
    rw [List.append_assoc, List.singleton_append, ← hd]
    exact hI.2.2
  | false =>
    obtain ⟨hk, h⟩ := hq2 rfl
    refine cond_f rfl ?_
    exact df_9 h64 hs ht hE1 hE2 hI hK hS hk h
theorem df_8 (h64 : s.L.length ≤ 64 ∧ t.L.length ≤ 64) (hs : SgOk s) (ht : SgOk t) (hE1 : Sl w0 F L A1 c1 s.L) (hE2 : Sl w0 F L A2 c2 t.L) (hI : DfI s t i k rs) (hK : DfK s t w0 F L A1 A2 c1 c2 b2 b3 (i + k) K1) (hS : St w0 F w (rRow A c rs :: DfL L s t A1 A2 c1 c2 b2 b3)) (h : i < s.L.length ∨ k < t.L.length) : m14_8 (DiffR s t w0 F L) K1 (.pointer (some ⟨b2, 0, none⟩)) (.pointer (some ⟨b3, 0, none⟩)) (.slice A rs.length c) (.int .i64 (i : Int)) (.int .i64 (k : Int)) w := by
  have hb := hI.bnd h64
  unfold m14_8
  refine drawn_ok hS ?_
  intro w hS
  first | refine valS_ok (fa28_4 _ _) ?_ | refine valS_ok (fao28_4 _ _ _) ?_
  first | refine valS_ok (ld26 (hS.cell 0 rfl rfl)) ?_ | refine valS_ok (ld26 (hS.cell 1 rfl rfl)) ?_ | refine valS_ok (ld26 (hS.cell 2 rfl rfl)) ?_ | refine valS_ok (ld26 (hS.cell 3 rfl rfl)) ?_ | refine valS_ok (ld26 (hS.cell 4 rfl rfl)) ?_ | refine valS_ok (ld26 (hS.cell 5 rfl rfl)) ?_ | refine valS_ok (ld26 (hS.cell 6 rfl rfl)) ?_ | refine valS_ok (ld26 (hS.cell 7 rfl rfl)) ?_ | refine valS_ok (ld26 (by assumption)) ?_
  refine builtinS_ok (len26 _) ?_
  refine valS_ok (eq3 _ _ _ _ _) ?_
  refine cond_split (fun he => ?_) (fun he => ?_)
  · first | refine pick_dt (by first | assumption | omega) ?_ | refine pick_df (by first | assumption | omega) ?_ | refine pick_t (by first | rfl | assumption) ?_ | refine pick_f (by first | rfl | assumption) ?_ | refine pick_dt rfl ?_ | refine pick_df (not_not_intro rfl) ?_
    exact df_17 h64 hs ht hE1 hE2 hI hK hS true (fun _ => ⟨by omega, .inl (by omega)⟩) (fun h => (by cases h))
  · have hk : k < t.L.length := by have := hI.1.2; omega
    first | refine valS_ok (fa28_4 _ _) ?_ | refine valS_ok (fao28_4 _ _ _) ?_
    first | refine valS_ok (ld26 (hS.cell 0 rfl rfl)) ?_ | refine valS_ok (ld26 (hS.cell 1 rfl rfl)) ?_ | refine valS_ok (ld26 (hS.cell 2 rfl rfl)) ?_ | refine valS_ok (ld26 (hS.cell 3 rfl rfl)) ?_ | refine valS_ok (ld26 (hS.cell 4 rfl rfl)) ?_ | refine valS_ok (ld26 (hS.cell 5 rfl rfl)) ?_ | refine valS_ok (ld26 (hS.cell 6 rfl rfl)) ?_ | refine valS_ok (ld26 (hS.cell 7 rfl rfl)) ?_ | refine valS_ok (ld26 (by assumption)) ?_
    refine builtinS_ok (len26 _) ?_
    refine valS_ok (lss_ok _ _ _ _ _ _ _) ?_
    refine cond_split (fun he2 => ?_) (fun he2 => ?_)
    · have hi : i < s.L.length := by omega
      obtain ⟨g1, o1, rfl⟩ := ((up3 hE1).rd.rd hS).some_ (by omega) (by omega)
      obtain ⟨g2, o2, rfl⟩ := ((up3 hE2).rd.rd hS).some_ (by omega) (by omega)
      first | refine valS_ok (fa28_4 _ _) ?_ | refine valS_ok (fao28_4 _ _ _) ?_
      first | refine valS_ok (ld26 (hS.cell 0 rfl rfl)) ?_ | refine valS_ok (ld26 (hS.cell 1 rfl rfl)) ?_ | refine valS_ok (ld26 (hS.cell 2 rfl rfl)) ?_ | refine valS_ok (ld26 (hS.cell 3 rfl rfl)) ?_ | refine valS_ok (ld26 (hS.cell 4 rfl rfl)) ?_ | refine valS_ok (ld26 (hS.cell 5 rfl rfl)) ?_ | refine valS_ok (ld26 (hS.cell 6 rfl rfl)) ?_ | refine valS_ok (ld26 (hS.cell 7 rfl rfl)) ?_ | refine valS_ok (ld26 (by assumption)) ?_
      first | refine valS_ok (ixz26 (by first | assumption | omega) _) ?_ | refine valS_ok (ix26 (by first | assumption | omega) _) ?_
      refine valS_ok (ldC ((up3 hE1).rd.rd hS) hi) ?_
      first | refine valS_ok (fa28_4 _ _) ?_ | refine valS_ok (fao28_4 _ _ _) ?_
      first | refine valS_ok (ld26 (hS.cell 0 rfl rfl)) ?_ | refine valS_ok (ld26 (hS.cell 1 rfl rfl)) ?_ | refine valS_ok (ld26 (hS.cell 2 rfl rfl)) ?_ | refine valS_ok (ld26 (hS.cell 3 rfl rfl)) ?_ | refine valS_ok (ld26 (hS.cell 4 rfl rfl)) ?_ | refine valS_ok (ld26 (hS.cell 5 rfl rfl)) ?_ | refine valS_ok (ld26 (hS.cell 6 rfl rfl)) ?_ | refine valS_ok (ld26 (hS.cell 7 rfl rfl)) ?_ | refine valS_ok (ld26 (by assumption)) ?_
      first | refine valS_ok (ixz26 (by first | assumption | omega) _) ?_ | refine valS_ok (ix26 (by first | assumption | omega) _) ?_
      refine valS_ok (ldC ((up3 hE2).rd.rd hS) hk) ?_
      refine callR (by kernel_rfl) (ahead_ret hS) ?_
      rintro _ w ⟨rfl, hS⟩
      first | refine pick_dt (by first | assumption | omega) ?_ | refine pick_df (by first | assumption | omega) ?_ | refine pick_t (by first | rfl | assumption) ?_ | refine pick_f (by first | rfl | assumption) ?_ | refine pick_dt rfl ?_ | refine pick_df (not_not_intro rfl) ?_
      first | refine pick_dt (by first | assumption | omega) ?_ | refine pick_df (by first | assumption | omega) ?_ | refine pick_t (by first | rfl | assumption) ?_ | refine pick_f (by first | rfl | assumption) ?_ | refine pick_dt rfl ?_ | refine pick_df (not_not_intro rfl) ?_
      exact df_17 h64 hs ht hE1 hE2 hI hK hS _ (fun h => ⟨hi, .inr ⟨hk, of_decide_eq_true h⟩⟩) (fun h => ⟨hk, .inr ⟨hi, of_decide_eq_false h⟩⟩)
    · first | refine pick_dt (by first | assumption | omega) ?_ | refine pick_df (by first | assumption | omega) ?_ | refine pick_t (by first | rfl | assumption) ?_ | refine pick_f (by first | rfl | assumption) ?_ | refine pick_dt rfl ?_ | refine pick_df (not_not_intro rfl) ?_
      first | refine pick_dt (by first | assumption | omega) ?_ | refine pick_df (by first | assumption | omega) ?_ | refine pick_t (by first | rfl | assumption) ?_ | refine pick_f (by first | rfl | assumption) ?_ | refine pick_dt rfl ?_ | refine pick_df (not_not_intro rfl) ?_
      exact df_17 h64 hs ht hE1 hE2 hI hK hS false (fun h => (by cases h)) (fun _ => ⟨hk, .inl (by omega)⟩)
end
section
variable {s t : Sg} {A1 A2 : Option Addr} {c1 c2 b2 b3 : Nat}
theorem df_3 {c : Nat} {A : Option Addr} {rs : List Rc} (h64 : s.L.length ≤ 64 ∧ t.L.length ≤ 64) (hs : SgOk s) (ht : SgOk t) (hE1 : Sl w0 F L A1 c1 s.L) (hE2 : Sl w0 F L A2 c2 t.L) (hI : DfI s t 0 0 rs) (hS : St w0 F w (rRow A c rs :: DfL L s t A1 A2 c1 c2 b2 b3)) : m14_3 (DiffR s t w0 F L) (.pointer (some ⟨b2, 0, none⟩)) (.pointer (some ⟨b3, 0, none⟩)) (.slice A rs.length c) w := by
  unfold m14_3 m14_4
  refine loop_in (fun u w' => ∃ (i k : Nat) (A : Option Addr) (c : Nat) (rs : List Rc), u = (.slice A rs.length c, .int .i64 (i : Int), .int .i64 (k : Int)) ∧ DfI s t i k rs ∧ St w0 F w' (rRow A c rs :: DfL L s t A1 A2 c1 c2 b2 b3)) (fun u _ => 128 - ((intOf u.2.1).toNat + (intOf u.2.2).toNat)) ⟨0, 0, A, c, rs, rfl, hI, hS⟩ ?_
  clear hS hI
  rintro u w ⟨i, k, A, c, rs, rfl, hI, hS⟩
  simp only
  have hb := hI.bnd h64
  have leaf : ∀ (K1 : Value × Value × Value → World → Prop), DfK s t w0 F L A1 A2 c1 c2 b2 b3 (i + k) K1 → ∀ q : Bool, (q = true ↔ (i < s.L.length ∨ k < t.L.length)) → m14_20 (DiffR s t w0 F L) K1 (.pointer (some ⟨b2, 0, none⟩)) (.pointer (some ⟨b3, 0, none⟩)) (.slice A rs.length c) (.int .i64 (i : Int)) (.int .i64 (k : Int)) (.bool q) w := fun K1 hK q hq => by
    unfold m14_20
    cases q with
    | true =>
      refine cond_t rfl ?_
      exact df_8 h64 hs ht hE1 hE2 hI hK hS (hq.1 rfl)
    | false =>
      have hn : ¬ (i < s.L.length ∨ k < t.L.length) := fun h => by have := hq.2 h; cases this
      refine cond_f rfl ?_
      unfold m14_5 m14_6
      refine ⟨A, c, rs, rfl, ?_, by omega, St.mid (A := [_]) (B := [_, _]) hS⟩
      have := hI.2.2
      rw [List.drop_eq_nil_of_le (by omega), List.drop_eq_nil_of_le (by omega), diffL, List.append_nil] at this
      exact this
  have hK : ∀ (K1 : Value × Value × Value → World → Prop), (∀ (i2 k2 : Nat) (A : Option Addr) (c : Nat) (rs : List Rc) w, DfI s t i2 k2 rs → i + k < i2 + k2 → St w0 F w (rRow A c rs :: DfL L s t A1 A2 c1 c2 b2 b3) → K1 (.slice A rs.length c, .int .i64 (i2 : Int), .int .i64 (k2 : Int)) w) → DfK s t w0 F L A1 A2 c1 c2 b2 b3 (i + k) K1 := fun K1 h w i2 k2 A c rs hI hlt hS => h i2 k2 A c rs w hI hlt hS
  unfold m14_7
  first | refine valP_ok (fa28_4 _ _) ?_ | refine valP_ok (fao28_4 _ _ _) ?_
  first | refine valP_ok (ld26 (hS.cell 0 rfl rfl)) ?_ | refine valP_ok (ld26 (hS.cell 1 rfl rfl)) ?_ | refine valP_ok (ld26 (hS.cell 2 rfl rfl)) ?_ | refine valP_ok (ld26 (hS.cell 3 rfl rfl)) ?_ | refine valP_ok (ld26 (hS.cell 4 rfl rfl)) ?_ | refine valP_ok (ld26 (hS.cell 5 rfl rfl)) ?_ | refine valP_ok (ld26 (hS.cell 6 rfl rfl)) ?_ | refine valP_ok (ld26 (hS.cell 7 rfl rfl)) ?_ | refine valP_ok (ld26 (by assumption)) ?_
  refine builtin_ok (len26 _) ?_
  refine valP_ok (lss_ok _ _ _ _ _ _ _) ?_
  refine cond_split (fun h1 => ?_) (fun h1 => ?_)
  · first | refine pick_dt (by first | assumption | omega) ?_ | refine pick_df (by first | assumption | omega) ?_ | refine pick_t (by first | rfl | assumption) ?_ | refine pick_f (by first | rfl | assumption) ?_ | refine pick_dt rfl ?_ | refine pick_df (not_not_intro rfl) ?_
    refine leaf _ (hK _ fun i2 k2 A c rs w hI2 hlt hS => ⟨⟨i2, k2, A, c, rs, rfl, hI2, hS⟩, ?_⟩) true ⟨fun _ => .inl (by omega), fun _ => rfl⟩
    have := hI2.bnd h64
    simp [intOf]
    omega
  · first | refine valP_ok (fa28_4 _ _) ?_ | refine valP_ok (fao28_4 _ _ _) ?_
    first | refine valP_ok (ld26 (hS.cell 0 rfl rfl)) ?_ | refine valP_ok (ld26 (hS.cell 1 rfl rfl)) ?_ | refine valP_ok (ld26 (hS.cell 2 rfl rfl)) ?_ | refine valP_ok (ld26 (hS.cell 3 rfl rfl)) ?_ | refine valP_ok (ld26 (hS.cell 4 rfl rfl)) ?_ | refine valP_ok (ld26 (hS.cell 5 rfl rfl)) ?_ | refine valP_ok (ld26 (hS.cell 6 rfl rfl)) ?_ | refine valP_ok (ld26 (hS.cell 7 rfl rfl)) ?_ | refine valP_ok (ld26 (by assumption)) ?_
    refine builtin_ok (len26 _) ?_
    refine valP_ok (lss_ok _ _ _ _ _ _ _) ?_
    first | refine pick_dt (by first | assumption | omega) ?_ | refine pick_df (by first | assumption | omega) ?_ | refine pick_t (by first | rfl | assumption) ?_ | refine pick_f (by first | rfl | assumption) ?_ | refine pick_dt rfl ?_ | refine pick_df (not_not_intro rfl) ?_
    refine leaf _ (hK _ fun i2 k2 A c rs w hI2 hlt hS => ⟨⟨i2, k2, A, c, rs, rfl, hI2, hS⟩, ?_⟩) _ (by rw [decide_eq_true_eq]; omega)
    have := hI2.bnd h64
    simp [intOf]
    omega
theorem diff_ret (h64 : s.L.length ≤ 64 ∧ t.L.length ≤ 64) (hs : SgOk s) (ht : SgOk t) (hE1 : Sl w0 F L A1 c1 s.L) (hE2 : Sl w0 F L A2 c2 t.L) (hS : St w0 F w L) : Ret Try.prog 14 #[sgv s A1 c1, sgv t A2 c2] w (DiffR s t w0 F L) := by
  classical
  refine s14 _ _ ?_
  unfold m14
  unfold m14_0
  refine new_ok (bx28 _ _ _ _ _ _) hS ?_
  intro b2 w hS
  refine new_ok (bx28 _ _ _ _ _ _) hS ?_
  intro b3 w hS
  unfold m14_1
  have hS := hS.row_nil 46 3
  have leaf : ∀ q : Bool, (q = true ↔ (¬ s.mark = t.mark ∨ ¬ s.late = t.late ∨ ¬ s.bad = t.bad ∨ ¬ s.n = t.n)) → m14_21 (DiffR s t w0 F L) (.pointer (some ⟨b2, 0, none⟩)) (.pointer (some ⟨b3, 0, none⟩)) (.slice none 0 0) (.bool q) w := fun q hq => by
    unfold m14_21
    cases q with
    | true =>
      have hd : diffS s t = headR t :: diffL s.L t.L := by unfold diffS; rw [if_pos (hq.1 rfl)]; rfl
      refine cond_t rfl ?_
      first | refine valP_ok (fa28_0 _ _) ?_ | refine valP_ok (fao28_0 _ _ _) ?_
      first | refine valP_ok (ld3 (hS.cell 0 rfl rfl)) ?_ | refine valP_ok (ld3 (hS.cell 1 rfl rfl)) ?_ | refine valP_ok (ld3 (hS.cell 2 rfl rfl)) ?_ | refine valP_ok (ld3 (hS.cell 3 rfl rfl)) ?_ | refine valP_ok (ld3 (hS.cell 4 rfl rfl)) ?_ | refine valP_ok (ld3 (hS.cell 5 rfl rfl)) ?_ | refine valP_ok (ld3 (hS.cell 6 rfl rfl)) ?_ | refine valP_ok (ld3 (hS.cell 7 rfl rfl)) ?_ | refine valP_ok (ld3 (by assumption)) ?_
      first | refine valP_ok (fa28_1 _ _) ?_ | refine valP_ok (fao28_1 _ _ _) ?_
      first | refine valP_ok (ld3 (hS.cell 0 rfl rfl)) ?_ | refine valP_ok (ld3 (hS.cell 1 rfl rfl)) ?_ | refine valP_ok (ld3 (hS.cell 2 rfl rfl)) ?_ | refine valP_ok (ld3 (hS.cell 3 rfl rfl)) ?_ | refine valP_ok (ld3 (hS.cell 4 rfl rfl)) ?_ | refine valP_ok (ld3 (hS.cell 5 rfl rfl)) ?_ | refine valP_ok (ld3 (hS.cell 6 rfl rfl)) ?_ | refine valP_ok (ld3 (hS.cell 7 rfl rfl)) ?_ | refine valP_ok (ld3 (by assumption)) ?_
      first | refine valP_ok (fa28_2 _ _) ?_ | refine valP_ok (fao28_2 _ _ _) ?_
      first | refine valP_ok (ld3 (hS.cell 0 rfl rfl)) ?_ | refine valP_ok (ld3 (hS.cell 1 rfl rfl)) ?_ | refine valP_ok (ld3 (hS.cell 2 rfl rfl)) ?_ | refine valP_ok (ld3 (hS.cell 3 rfl rfl)) ?_ | refine valP_ok (ld3 (hS.cell 4 rfl rfl)) ?_ | refine valP_ok (ld3 (hS.cell 5 rfl rfl)) ?_ | refine valP_ok (ld3 (hS.cell 6 rfl rfl)) ?_ | refine valP_ok (ld3 (hS.cell 7 rfl rfl)) ?_ | refine valP_ok (ld3 (by assumption)) ?_
      first | refine valP_ok (fa28_3 _ _) ?_ | refine valP_ok (fao28_3 _ _ _) ?_
      first | refine valP_ok (ld3 (hS.cell 0 rfl rfl)) ?_ | refine valP_ok (ld3 (hS.cell 1 rfl rfl)) ?_ | refine valP_ok (ld3 (hS.cell 2 rfl rfl)) ?_ | refine valP_ok (ld3 (hS.cell 3 rfl rfl)) ?_ | refine valP_ok (ld3 (hS.cell 4 rfl rfl)) ?_ | refine valP_ok (ld3 (hS.cell 5 rfl rfl)) ?_ | refine valP_ok (ld3 (hS.cell 6 rfl rfl)) ?_ | refine valP_ok (ld3 (hS.cell 7 rfl rfl)) ?_ | refine valP_ok (ld3 (by assumption)) ?_
      refine newslice_ok (bs51_5 rfl rfl rfl rfl rfl _) hS ?_
      intro b43 w hS
      refine callR (by kernel_rfl) (all_ret (xs := [0, t.mark, t.late, t.bad, t.n]) (fun x hx => ?_) (by simp) (Bes.of_cells 0 rfl rfl) hS) ?_
      · have h0 : I64 0 := by omega
        simp only [List.mem_cons, List.not_mem_nil, or_false] at hx
        rcases hx with rfl | rfl | rfl | rfl | rfl
        · exact h0
        · exact ht.1.1
        · exact ht.1.2.1
        · exact ht.1.2.2.1
        · exact ht.1.2.2.2
      rintro _ w ⟨rfl, hS⟩
      refine valP_ok (bd46_2 rfl _) ?_
      refine newslice_ok (bs24_1 _) hS ?_
      intro b46 w hS
      refine append_one1 (enc := encR) (l := []) 1 (headR t) sl24 encR_len encR_one (by unfold maxLen; simp) (by simp) hS rfl ?_
      intro A' c' w hS
      simp only [List.set_cons_zero, List.set_cons_succ] at hS
      exact df_3 (rs := [headR t]) h64 hs ht hE1 hE2 ⟨⟨by omega, by omega⟩, by simp, by rw [hd]; rfl⟩ hS.tail
    | false =>
      have hd : diffS s t = diffL s.L t.L := by unfold diffS; rw [if_neg (fun h => by have := hq.2 h; cases this)]; rfl
      refine cond_f rfl ?_
      exact df_3 (rs := []) h64 hs ht hE1 hE2 ⟨⟨by omega, by omega⟩, by simp, by rw [hd]; rfl⟩ hS
  unfold m14_2
  first | refine valP_ok (fa28_0 _ _) ?_ | refine valP_ok (fao28_0 _ _ _) ?_
  first | refine valP_ok (ld3 (hS.cell 0 rfl rfl)) ?_ | refine valP_ok (ld3 (hS.cell 1 rfl rfl)) ?_ | refine valP_ok (ld3 (hS.cell 2 rfl rfl)) ?_ | refine valP_ok (ld3 (hS.cell 3 rfl rfl)) ?_ | refine valP_ok (ld3 (hS.cell 4 rfl rfl)) ?_ | refine valP_ok (ld3 (hS.cell 5 rfl rfl)) ?_ | refine valP_ok (ld3 (hS.cell 6 rfl rfl)) ?_ | refine valP_ok (ld3 (hS.cell 7 rfl rfl)) ?_ | refine valP_ok (ld3 (by assumption)) ?_
  first | refine valP_ok (fa28_0 _ _) ?_ | refine valP_ok (fao28_0 _ _ _) ?_
  first | refine valP_ok (ld3 (hS.cell 0 rfl rfl)) ?_ | refine valP_ok (ld3 (hS.cell 1 rfl rfl)) ?_ | refine valP_ok (ld3 (hS.cell 2 rfl rfl)) ?_ | refine valP_ok (ld3 (hS.cell 3 rfl rfl)) ?_ | refine valP_ok (ld3 (hS.cell 4 rfl rfl)) ?_ | refine valP_ok (ld3 (hS.cell 5 rfl rfl)) ?_ | refine valP_ok (ld3 (hS.cell 6 rfl rfl)) ?_ | refine valP_ok (ld3 (hS.cell 7 rfl rfl)) ?_ | refine valP_ok (ld3 (by assumption)) ?_
  refine valP_ok (ne3 _ _ _ _ _) ?_
  first | refine cond_split (fun hc0 => ?_) (fun hc0 => ?_) | refine cond_bsplit (fun hc0 => ?_) (fun hc0 => ?_)
  · first | refine pick_dt (by first | assumption | omega) ?_ | refine pick_df (by first | assumption | omega) ?_ | refine pick_t (by first | rfl | assumption) ?_ | refine pick_f (by first | rfl | assumption) ?_ | refine pick_dt rfl ?_ | refine pick_df (not_not_intro rfl) ?_
    first | refine cond_split (fun hc1 => ?_) (fun hc1 => ?_) | refine cond_bsplit (fun hc1 => ?_) (fun hc1 => ?_)
    · first | refine pick_dt (by first | assumption | omega) ?_ | refine pick_df (by first | assumption | omega) ?_ | refine pick_t (by first | rfl | assumption) ?_ | refine pick_f (by first | rfl | assumption) ?_ | refine pick_dt rfl ?_ | refine pick_df (not_not_intro rfl) ?_
      first | refine cond_split (fun hc2 => ?_) (fun hc2 => ?_) | refine cond_bsplit (fun hc2 => ?_) (fun hc2 => ?_)
      · first | refine pick_dt (by first | assumption | omega) ?_ | refine pick_df (by first | assumption | omega) ?_ | refine pick_t (by first | rfl | assumption) ?_ | refine pick_f (by first | rfl | assumption) ?_ | refine pick_dt rfl ?_ | refine pick_df (not_not_intro rfl) ?_
        exact leaf _ (by simp only [decide_eq_true_eq, Bool.false_eq_true, false_iff, true_iff] <;> first | contradiction | omega)
      · first | refine valP_ok (fa28_3 _ _) ?_ | refine valP_ok (fao28_3 _ _ _) ?_
        first | refine valP_ok (ld3 (hS.cell 0 rfl rfl)) ?_ | refine valP_ok (ld3 (hS.cell 1 rfl rfl)) ?_ | refine valP_ok (ld3 (hS.cell 2 rfl rfl)) ?_ | refine valP_ok (ld3 (hS.cell 3 rfl rfl)) ?_ | refine valP_ok (ld3 (hS.cell 4 rfl rfl)) ?_ | refine valP_ok (ld3 (hS.cell 5 rfl rfl)) ?_ | refine valP_ok (ld3 (hS.cell 6 rfl rfl)) ?_ | refine valP_ok (ld3 (hS.cell 7 rfl rfl)) ?_ | refine valP_ok (ld3 (by assumption)) ?_
        first | refine valP_ok (fa28_3 _ _) ?_ | refine valP_ok (fao28_3 _ _ _) ?_
        first | refine valP_ok (ld3 (hS.cell 0 rfl rfl)) ?_ | refine valP_ok (ld3 (hS.cell 1 rfl rfl)) ?_ | refine valP_ok (ld3 (hS.cell 2 rfl rfl)) ?_ | refine valP_ok (ld3 (hS.cell 3 rfl rfl)) ?_ | refine valP_ok (ld3 (hS.cell 4 rfl rfl)) ?_ | refine valP_ok (ld3 (hS.cell 5 rfl rfl)) ?_ | refine valP_ok (ld3 (hS.cell 6 rfl rfl)) ?_ | refine valP_ok (ld3 (hS.cell 7 rfl rfl)) ?_ | refine valP_ok (ld3 (by assumption)) ?_
        refine valP_ok (ne3 _ _ _ _ _) ?_
        first | refine pick_dt (by first | assumption | omega) ?_ | refine pick_df (by first | assumption | omega) ?_ | refine pick_t (by first | rfl | assumption) ?_ | refine pick_f (by first | rfl | assumption) ?_ | refine pick_dt rfl ?_ | refine pick_df (not_not_intro rfl) ?_
        exact leaf _ (by simp only [decide_eq_true_eq, Bool.false_eq_true, false_iff, true_iff] <;> first | contradiction | omega)
    · first | refine valP_ok (fa28_2 _ _) ?_ | refine valP_ok (fao28_2 _ _ _) ?_
      first | refine valP_ok (ld3 (hS.cell 0 rfl rfl)) ?_ | refine valP_ok (ld3 (hS.cell 1 rfl rfl)) ?_ | refine valP_ok (ld3 (hS.cell 2 rfl rfl)) ?_ | refine valP_ok (ld3 (hS.cell 3 rfl rfl)) ?_ | refine valP_ok (ld3 (hS.cell 4 rfl rfl)) ?_ | refine valP_ok (ld3 (hS.cell 5 rfl rfl)) ?_ | refine valP_ok (ld3 (hS.cell 6 rfl rfl)) ?_ | refine valP_ok (ld3 (hS.cell 7 rfl rfl)) ?_ | refine valP_ok (ld3 (by assumption)) ?_
      first | refine valP_ok (fa28_2 _ _) ?_ | refine valP_ok (fao28_2 _ _ _) ?_
      first | refine valP_ok (ld3 (hS.cell 0 rfl rfl)) ?_ | refine valP_ok (ld3 (hS.cell 1 rfl rfl)) ?_ | refine valP_ok (ld3 (hS.cell 2 rfl rfl)) ?_ | refine valP_ok (ld3 (hS.cell 3 rfl rfl)) ?_ | refine valP_ok (ld3 (hS.cell 4 rfl rfl)) ?_ | refine valP_ok (ld3 (hS.cell 5 rfl rfl)) ?_ | refine valP_ok (ld3 (hS.cell 6 rfl rfl)) ?_ | refine valP_ok (ld3 (hS.cell 7 rfl rfl)) ?_ | refine valP_ok (ld3 (by assumption)) ?_
      refine valP_ok (ne3 _ _ _ _ _) ?_
      first | refine pick_dt (by first | assumption | omega) ?_ | refine pick_df (by first | assumption | omega) ?_ | refine pick_t (by first | rfl | assumption) ?_ | refine pick_f (by first | rfl | assumption) ?_ | refine pick_dt rfl ?_ | refine pick_df (not_not_intro rfl) ?_
      first | refine cond_split (fun hc2 => ?_) (fun hc2 => ?_) | refine cond_bsplit (fun hc2 => ?_) (fun hc2 => ?_)
      · first | refine pick_dt (by first | assumption | omega) ?_ | refine pick_df (by first | assumption | omega) ?_ | refine pick_t (by first | rfl | assumption) ?_ | refine pick_f (by first | rfl | assumption) ?_ | refine pick_dt rfl ?_ | refine pick_df (not_not_intro rfl) ?_
        exact leaf _ (by simp only [decide_eq_true_eq, Bool.false_eq_true, false_iff, true_iff] <;> first | contradiction | omega)
      · first | refine valP_ok (fa28_3 _ _) ?_ | refine valP_ok (fao28_3 _ _ _) ?_
        first | refine valP_ok (ld3 (hS.cell 0 rfl rfl)) ?_ | refine valP_ok (ld3 (hS.cell 1 rfl rfl)) ?_ | refine valP_ok (ld3 (hS.cell 2 rfl rfl)) ?_ | refine valP_ok (ld3 (hS.cell 3 rfl rfl)) ?_ | refine valP_ok (ld3 (hS.cell 4 rfl rfl)) ?_ | refine valP_ok (ld3 (hS.cell 5 rfl rfl)) ?_ | refine valP_ok (ld3 (hS.cell 6 rfl rfl)) ?_ | refine valP_ok (ld3 (hS.cell 7 rfl rfl)) ?_ | refine valP_ok (ld3 (by assumption)) ?_
        first | refine valP_ok (fa28_3 _ _) ?_ | refine valP_ok (fao28_3 _ _ _) ?_
        first | refine valP_ok (ld3 (hS.cell 0 rfl rfl)) ?_ | refine valP_ok (ld3 (hS.cell 1 rfl rfl)) ?_ | refine valP_ok (ld3 (hS.cell 2 rfl rfl)) ?_ | refine valP_ok (ld3 (hS.cell 3 rfl rfl)) ?_ | refine valP_ok (ld3 (hS.cell 4 rfl rfl)) ?_ | refine valP_ok (ld3 (hS.cell 5 rfl rfl)) ?_ | refine valP_ok (ld3 (hS.cell 6 rfl rfl)) ?_ | refine valP_ok (ld3 (hS.cell 7 rfl rfl)) ?_ | refine valP_ok (ld3 (by assumption)) ?_
        refine valP_ok (ne3 _ _ _ _ _) ?_
        first | refine pick_dt (by first | assumption | omega) ?_ | refine pick_df (by first | assumption | omega) ?_ | refine pick_t (by first | rfl | assumption) ?_ | refine pick_f (by first | rfl | assumption) ?_ | refine pick_dt rfl ?_ | refine pick_df (not_not_intro rfl) ?_
        exact leaf _ (by simp only [decide_eq_true_eq, Bool.false_eq_true, false_iff, true_iff] <;> first | contradiction | omega)
  · first | refine valP_ok (fa28_1 _ _) ?_ | refine valP_ok (fao28_1 _ _ _) ?_
    first | refine valP_ok (ld3 (hS.cell 0 rfl rfl)) ?_ | refine valP_ok (ld3 (hS.cell 1 rfl rfl)) ?_ | refine valP_ok (ld3 (hS.cell 2 rfl rfl)) ?_ | refine valP_ok (ld3 (hS.cell 3 rfl rfl)) ?_ | refine valP_ok (ld3 (hS.cell 4 rfl rfl)) ?_ | refine valP_ok (ld3 (hS.cell 5 rfl rfl)) ?_ | refine valP_ok (ld3 (hS.cell 6 rfl rfl)) ?_ | refine valP_ok (ld3 (hS.cell 7 rfl rfl)) ?_ | refine valP_ok (ld3 (by assumption)) ?_
    first | refine valP_ok (fa28_1 _ _) ?_ | refine valP_ok (fao28_1 _ _ _) ?_
    first | refine valP_ok (ld3 (hS.cell 0 rfl rfl)) ?_ | refine valP_ok (ld3 (hS.cell 1 rfl rfl)) ?_ | refine valP_ok (ld3 (hS.cell 2 rfl rfl)) ?_ | refine valP_ok (ld3 (hS.cell 3 rfl rfl)) ?_ | refine valP_ok (ld3 (hS.cell 4 rfl rfl)) ?_ | refine valP_ok (ld3 (hS.cell 5 rfl rfl)) ?_ | refine valP_ok (ld3 (hS.cell 6 rfl rfl)) ?_ | refine valP_ok (ld3 (hS.cell 7 rfl rfl)) ?_ | refine valP_ok (ld3 (by assumption)) ?_
    refine valP_ok (ne3 _ _ _ _ _) ?_
    first | refine pick_dt (by first | assumption | omega) ?_ | refine pick_df (by first | assumption | omega) ?_ | refine pick_t (by first | rfl | assumption) ?_ | refine pick_f (by first | rfl | assumption) ?_ | refine pick_dt rfl ?_ | refine pick_df (not_not_intro rfl) ?_
    first | refine cond_split (fun hc1 => ?_) (fun hc1 => ?_) | refine cond_bsplit (fun hc1 => ?_) (fun hc1 => ?_)
    · first | refine pick_dt (by first | assumption | omega) ?_ | refine pick_df (by first | assumption | omega) ?_ | refine pick_t (by first | rfl | assumption) ?_ | refine pick_f (by first | rfl | assumption) ?_ | refine pick_dt rfl ?_ | refine pick_df (not_not_intro rfl) ?_
      first | refine cond_split (fun hc2 => ?_) (fun hc2 => ?_) | refine cond_bsplit (fun hc2 => ?_) (fun hc2 => ?_)
      · first | refine pick_dt (by first | assumption | omega) ?_ | refine pick_df (by first | assumption | omega) ?_ | refine pick_t (by first | rfl | assumption) ?_ | refine pick_f (by first | rfl | assumption) ?_ | refine pick_dt rfl ?_ | refine pick_df (not_not_intro rfl) ?_
        exact leaf _ (by simp only [decide_eq_true_eq, Bool.false_eq_true, false_iff, true_iff] <;> first | contradiction | omega)
      · first | refine valP_ok (fa28_3 _ _) ?_ | refine valP_ok (fao28_3 _ _ _) ?_
        first | refine valP_ok (ld3 (hS.cell 0 rfl rfl)) ?_ | refine valP_ok (ld3 (hS.cell 1 rfl rfl)) ?_ | refine valP_ok (ld3 (hS.cell 2 rfl rfl)) ?_ | refine valP_ok (ld3 (hS.cell 3 rfl rfl)) ?_ | refine valP_ok (ld3 (hS.cell 4 rfl rfl)) ?_ | refine valP_ok (ld3 (hS.cell 5 rfl rfl)) ?_ | refine valP_ok (ld3 (hS.cell 6 rfl rfl)) ?_ | refine valP_ok (ld3 (hS.cell 7 rfl rfl)) ?_ | refine valP_ok (ld3 (by assumption)) ?_
        first | refine valP_ok (fa28_3 _ _) ?_ | refine valP_ok (fao28_3 _ _ _) ?_
        first | refine valP_ok (ld3 (hS.cell 0 rfl rfl)) ?_ | refine valP_ok (ld3 (hS.cell 1 rfl rfl)) ?_ | refine valP_ok (ld3 (hS.cell 2 rfl rfl)) ?_ | refine valP_ok (ld3 (hS.cell 3 rfl rfl)) ?_ | refine valP_ok (ld3 (hS.cell 4 rfl rfl)) ?_ | refine valP_ok (ld3 (hS.cell 5 rfl rfl)) ?_ | refine valP_ok (ld3 (hS.cell 6 rfl rfl)) ?_ | refine valP_ok (ld3 (hS.cell 7 rfl rfl)) ?_ | refine valP_ok (ld3 (by assumption)) ?_
        refine valP_ok (ne3 _ _ _ _ _) ?_
        first | refine pick_dt (by first | assumption | omega) ?_ | refine pick_df (by first | assumption | omega) ?_ | refine pick_t (by first | rfl | assumption) ?_ | refine pick_f (by first | rfl | assumption) ?_ | refine pick_dt rfl ?_ | refine pick_df (not_not_intro rfl) ?_
        exact leaf _ (by simp only [decide_eq_true_eq, Bool.false_eq_true, false_iff, true_iff] <;> first | contradiction | omega)
    · first | refine valP_ok (fa28_2 _ _) ?_ | refine valP_ok (fao28_2 _ _ _) ?_
      first | refine valP_ok (ld3 (hS.cell 0 rfl rfl)) ?_ | refine valP_ok (ld3 (hS.cell 1 rfl rfl)) ?_ | refine valP_ok (ld3 (hS.cell 2 rfl rfl)) ?_ | refine valP_ok (ld3 (hS.cell 3 rfl rfl)) ?_ | refine valP_ok (ld3 (hS.cell 4 rfl rfl)) ?_ | refine valP_ok (ld3 (hS.cell 5 rfl rfl)) ?_ | refine valP_ok (ld3 (hS.cell 6 rfl rfl)) ?_ | refine valP_ok (ld3 (hS.cell 7 rfl rfl)) ?_ | refine valP_ok (ld3 (by assumption)) ?_
      first | refine valP_ok (fa28_2 _ _) ?_ | refine valP_ok (fao28_2 _ _ _) ?_
      first | refine valP_ok (ld3 (hS.cell 0 rfl rfl)) ?_ | refine valP_ok (ld3 (hS.cell 1 rfl rfl)) ?_ | refine valP_ok (ld3 (hS.cell 2 rfl rfl)) ?_ | refine valP_ok (ld3 (hS.cell 3 rfl rfl)) ?_ | refine valP_ok (ld3 (hS.cell 4 rfl rfl)) ?_ | refine valP_ok (ld3 (hS.cell 5 rfl rfl)) ?_ | refine valP_ok (ld3 (hS.cell 6 rfl rfl)) ?_ | refine valP_ok (ld3 (hS.cell 7 rfl rfl)) ?_ | refine valP_ok (ld3 (by assumption)) ?_
      refine valP_ok (ne3 _ _ _ _ _) ?_
      first | refine pick_dt (by first | assumption | omega) ?_ | refine pick_df (by first | assumption | omega) ?_ | refine pick_t (by first | rfl | assumption) ?_ | refine pick_f (by first | rfl | assumption) ?_ | refine pick_dt rfl ?_ | refine pick_df (not_not_intro rfl) ?_
      first | refine cond_split (fun hc2 => ?_) (fun hc2 => ?_) | refine cond_bsplit (fun hc2 => ?_) (fun hc2 => ?_)
      · first | refine pick_dt (by first | assumption | omega) ?_ | refine pick_df (by first | assumption | omega) ?_ | refine pick_t (by first | rfl | assumption) ?_ | refine pick_f (by first | rfl | assumption) ?_ | refine pick_dt rfl ?_ | refine pick_df (not_not_intro rfl) ?_
        exact leaf _ (by simp only [decide_eq_true_eq, Bool.false_eq_true, false_iff, true_iff] <;> first | contradiction | omega)
      · first | refine valP_ok (fa28_3 _ _) ?_ | refine valP_ok (fao28_3 _ _ _) ?_
        first | refine valP_ok (ld3 (hS.cell 0 rfl rfl)) ?_ | refine valP_ok (ld3 (hS.cell 1 rfl rfl)) ?_ | refine valP_ok (ld3 (hS.cell 2 rfl rfl)) ?_ | refine valP_ok (ld3 (hS.cell 3 rfl rfl)) ?_ | refine valP_ok (ld3 (hS.cell 4 rfl rfl)) ?_ | refine valP_ok (ld3 (hS.cell 5 rfl rfl)) ?_ | refine valP_ok (ld3 (hS.cell 6 rfl rfl)) ?_ | refine valP_ok (ld3 (hS.cell 7 rfl rfl)) ?_ | refine valP_ok (ld3 (by assumption)) ?_
        first | refine valP_ok (fa28_3 _ _) ?_ | refine valP_ok (fao28_3 _ _ _) ?_
        first | refine valP_ok (ld3 (hS.cell 0 rfl rfl)) ?_ | refine valP_ok (ld3 (hS.cell 1 rfl rfl)) ?_ | refine valP_ok (ld3 (hS.cell 2 rfl rfl)) ?_ | refine valP_ok (ld3 (hS.cell 3 rfl rfl)) ?_ | refine valP_ok (ld3 (hS.cell 4 rfl rfl)) ?_ | refine valP_ok (ld3 (hS.cell 5 rfl rfl)) ?_ | refine valP_ok (ld3 (hS.cell 6 rfl rfl)) ?_ | refine valP_ok (ld3 (hS.cell 7 rfl rfl)) ?_ | refine valP_ok (ld3 (by assumption)) ?_
        refine valP_ok (ne3 _ _ _ _ _) ?_
        first | refine pick_dt (by first | assumption | omega) ?_ | refine pick_df (by first | assumption | omega) ?_ | refine pick_t (by first | rfl | assumption) ?_ | refine pick_f (by first | rfl | assumption) ?_ | refine pick_dt rfl ?_ | refine pick_df (not_not_intro rfl) ?_
        exact leaf _ (by simp only [decide_eq_true_eq, Bool.false_eq_true, false_iff, true_iff] <;> first | contradiction | omega)
end
end

end Go.Proofs.Ytnhgdngbdoifnaa.M
