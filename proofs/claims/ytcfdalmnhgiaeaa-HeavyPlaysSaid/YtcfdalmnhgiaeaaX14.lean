/- The document's own answer: new, the least, one key, keys, how often. -/
import Derived.Test.YtcfdalmnhgiaeaaX13
namespace Go.Proofs.Ytcfdalmnhgiaeaa.M
open Go.Proofs.Ytcfdalmnhgiaeaa.F Go.RowKit
set_option linter.unusedVariables false
set_option linter.unusedSimpArgs false
set_option maxRecDepth 100000
set_option maxHeartbeats 2000000
attribute [local irreducible] Res.cells Res.row Res.map Res.any World.cell? World.frozen? Instr.fieldAt Instr.loadAt Instr.storeAt Instr.indexAt Instr.lookup Instr.mapUpdate Instr.box Instr.build Instr.buildSlice Instr.extract Instr.alloc Instr.field Instr.index Instr.sliceAt Instr.makeSlice Instr.makeMap Instr.makeFunc binS Op.unary Sem.run
abbrev rcl (b : Nat) (most n : Int) (v : Value) : Res := Res.cells b 30 [.int .i64 most, .int .i64 n, v]
theorem rnew_ret {w0 w : World} {F : List Nat} {L : List Res} (most : Int) (hS : St w0 F w L) :
    Ret Try.prog 11 #[.int .i64 most] w fun v w' => v = (if most < 1 ∨ 64 < most then .tuple #[.agg #[.int .i64 0, .int .i64 0, .slice none 0 0], .int .i64 1] else .tuple #[.agg #[.int .i64 most, .int .i64 0, .slice none 0 0], .int .i64 0]) ∧ St w0 F w' L := by
  refine s11 _ ?_
  unfold m11
  unfold m11_0
  refine new_ok (al30 _) hS ?_
  intro b2 w hS
  unfold m11_1
  refine valP_ok (lss_ok _ _ _ _ _ _ _) ?_
  by_cases h1 : most < 1
  · refine cond_dt h1 ?_
    first | refine pick_dt (by first | assumption | omega) ?_ | refine pick_df (by first | assumption | omega) ?_ | refine pick_t (by first | rfl | assumption) ?_ | refine pick_f (by first | rfl | assumption) ?_
    unfold m11_4
    refine cond_t rfl ?_
    refine valP_ok (bd30 _) ?_
    first | refine ss30 0 hS rfl rfl rfl rfl ?_ | refine ss30 1 hS rfl rfl rfl rfl ?_ | refine ss30 2 hS rfl rfl rfl rfl ?_ | refine ss30 3 hS rfl rfl rfl rfl ?_ | refine ss30 4 hS rfl rfl rfl rfl ?_
    intro w hS
    simp only [List.set_cons_zero, List.set_cons_succ] at hS
    unfold m11_5
    refine valS_ok (lc30 (hS.cell 0 rfl rfl) (hS.cell 0 rfl rfl) (hS.cell 0 rfl rfl)) ?_
    rw [if_pos (.inl h1)]
    exact ⟨rfl, hS.tail⟩
  · refine cond_df h1 ?_
    refine valP_ok (gtr_ok _ _ _ _ _ _ _) ?_
    first | refine pick_dt (by first | assumption | omega) ?_ | refine pick_df (by first | assumption | omega) ?_ | refine pick_t (by first | rfl | assumption) ?_ | refine pick_f (by first | rfl | assumption) ?_
    unfold m11_4
    by_cases h2 : 64 < most
    · refine cond_dt h2 ?_
      refine valP_ok (bd30 _) ?_
      first | refine ss30 0 hS rfl rfl rfl rfl ?_ | refine ss30 1 hS rfl rfl rfl rfl ?_ | refine ss30 2 hS rfl rfl rfl rfl ?_ | refine ss30 3 hS rfl rfl rfl rfl ?_ | refine ss30 4 hS rfl rfl rfl rfl ?_
      intro w hS
      simp only [List.set_cons_zero, List.set_cons_succ] at hS
      unfold m11_5
      refine valS_ok (lc30 (hS.cell 0 rfl rfl) (hS.cell 0 rfl rfl) (hS.cell 0 rfl rfl)) ?_
      rw [if_pos (.inr h2)]
      exact ⟨rfl, hS.tail⟩
    · refine cond_df h2 ?_
      unfold m11_2
      refine valP_ok (bd30_0 rfl _) ?_
      first | refine ss30 0 hS rfl rfl rfl rfl ?_ | refine ss30 1 hS rfl rfl rfl rfl ?_ | refine ss30 2 hS rfl rfl rfl rfl ?_ | refine ss30 3 hS rfl rfl rfl rfl ?_ | refine ss30 4 hS rfl rfl rfl rfl ?_
      intro w hS
      simp only [List.set_cons_zero, List.set_cons_succ] at hS
      unfold m11_3
      refine valS_ok (lc30 (hS.cell 0 rfl rfl) (hS.cell 0 rfl rfl) (hS.cell 0 rfl rfl)) ?_
      rw [if_neg (by omega)]
      exact ⟨rfl, hS.tail⟩
theorem least_leaf {w0 w : World} {F : List Nat} {L : List Res} {b i at_ at1 : Nat} {R : Value → World → Prop} {K : Value × Value → World → Prop} {t : Bool} (hi : i ≤ 64) (h1 : t = true → at1 = i) (h2 : t = false → at1 = at_) (hS : St w0 F w L)
    (hK : ∀ w, St w0 F w L → K (.int .i64 at1, .int .i64 ((i + 1 : Nat) : Int)) w) : m27_9 R K (.pointer (some ⟨b, 0, none⟩)) (.int .i64 at_) (.int .i64 i) (.bool t) w := by
  unfold m27_9
  refine cond_bsplit (fun h => ?_) (fun h => ?_)
  · have := h1 h
    subst this
    unfold m27_8
    refine valP_ok (add_ok _ _ _ (by omega) (by omega) _) ?_
    exact hK _ hS
  · have := h2 h
    subst this
    unfold m27_8
    refine valP_ok (add_ok _ _ _ (by omega) (by omega) _) ?_
    exact hK _ hS
theorem least_ret {w0 w : World} {F : List Nat} {L : List Res} {b : Nat} {most n : Int} {A : Option Addr} {c : Nat} {l : List Ta} (hl : l.length ≤ 64)
    (hS : St w0 F w (rcl b most n (.slice A l.length c) :: hrow (.slice A l.length c) l :: L)) :
    Ret Try.prog 27 #[.pointer (some ⟨b, 0, none⟩)] w fun v w' => v = .int .i64 (lightIx l) ∧ St w0 F w' (rcl b most n (.slice A l.length c) :: hrow (.slice A l.length c) l :: L) := by
  refine s27 _ ?_
  unfold m27
  unfold m27_0
  unfold m27_1
  unfold m27_2
  unfold m27_5
  have hz : lightUp l 1 = 0 := by show (if lightI l[0]! l[lightUp l 0]! < 0 then 0 else lightUp l 0) = 0; split <;> rfl
  refine loop_in (fun s w' => ∃ i : Nat, s = (.int .i64 (lightUp l i), .int .i64 i) ∧ 1 ≤ i ∧ (i = 1 ∨ i ≤ l.length) ∧ St w0 F w' (rcl b most n (.slice A l.length c) :: hrow (.slice A l.length c) l :: L)) (fun s _ => l.length - (intOf s.2).toNat)
    ⟨1, by rw [hz]; rfl, by omega, .inl rfl, hS⟩ ?_
  clear hS
  rintro s w ⟨i, rfl, hi1, hi, hS⟩
  unfold m27_6
  refine nil_ok ?_
  first | refine valP_ok (fa30_2 _ _) ?_ | refine valP_ok (fao30_2 _ _ _) ?_
  first | refine valP_ok (ld28 (hS.cell 0 rfl rfl)) ?_ | refine valP_ok (ld28 (hS.cell 1 rfl rfl)) ?_ | refine valP_ok (ld28 (hS.cell 2 rfl rfl)) ?_ | refine valP_ok (ld28 (hS.cell 3 rfl rfl)) ?_ | refine valP_ok (ld28 (hS.cell 4 rfl rfl)) ?_ | refine valP_ok (ld28 (by assumption)) ?_
  refine builtin_ok (len28 _) ?_
  refine valP_ok (lss_ok _ _ _ _ _ _ _) ?_
  unfold m27_10
  refine cond_split (fun h => ?_) (fun h => ?_)
  · have hlt : i < l.length := by omega
    have hat : lightUp l i < l.length := by rcases lightUp_lt l i with h | h <;> omega
    obtain ⟨g, rfl⟩ := hS.row_ptr 1 rfl (by omega)
    obtain ⟨h0, h1, h2⟩ := tally_at 1 hS rfl hlt
    obtain ⟨g0, g1, g2⟩ := tally_at 1 hS rfl hat
    have hup : lightUp l (i + 1) = if lightI l[i] l[lightUp l i] < 0 then i else lightUp l i := by
      show (if lightI l[i]! l[lightUp l i]! < 0 then i else lightUp l i) = _
      rw [getElem!_pos l i hlt, getElem!_pos l _ hat]
    have hlI := lightI_lt l[i] l[lightUp l i]
    unfold m27_7
    refine nil_ok ?_
    first | refine valQ_ok (fa30_2 _) ?_ | refine valQ_ok (fao30_2 _ _) ?_
    first | refine valQ_load ld28 (hS.cell 0 rfl rfl) ?_ | refine valQ_load ld28 (hS.cell 1 rfl rfl) ?_ | refine valQ_load ld28 (hS.cell 2 rfl rfl) ?_ | refine valQ_load ld28 (hS.cell 3 rfl rfl) ?_ | refine valQ_load ld28 (hS.cell 4 rfl rfl) ?_ | refine valQ_load ld28 (by assumption) ?_
    first | refine valQ_ok (ixz28 (by first | assumption | omega)) ?_ | refine valQ_ok (ix28 (by first | assumption | omega)) ?_
    first | refine valQ_ok (fa45_1 _) ?_ | refine valQ_ok (fao45_1 _ _) ?_
    first | refine valQ_load ld3 (hS.cell 0 rfl rfl) ?_ | refine valQ_load ld3 (hS.cell 1 rfl rfl) ?_ | refine valQ_load ld3 (hS.cell 2 rfl rfl) ?_ | refine valQ_load ld3 (hS.cell 3 rfl rfl) ?_ | refine valQ_load ld3 (hS.cell 4 rfl rfl) ?_ | refine valQ_load ld3 (by assumption) ?_
    refine nil_ok ?_
    first | refine valQ_ok (fa30_2 _) ?_ | refine valQ_ok (fao30_2 _ _) ?_
    first | refine valQ_load ld28 (hS.cell 0 rfl rfl) ?_ | refine valQ_load ld28 (hS.cell 1 rfl rfl) ?_ | refine valQ_load ld28 (hS.cell 2 rfl rfl) ?_ | refine valQ_load ld28 (hS.cell 3 rfl rfl) ?_ | refine valQ_load ld28 (hS.cell 4 rfl rfl) ?_ | refine valQ_load ld28 (by assumption) ?_
    first | refine valQ_ok (ixz28 (by first | assumption | omega)) ?_ | refine valQ_ok (ix28 (by first | assumption | omega)) ?_
    first | refine valQ_ok (fa45_1 _) ?_ | refine valQ_ok (fao45_1 _ _) ?_
    first | refine valQ_load ld3 (hS.cell 0 rfl rfl) ?_ | refine valQ_load ld3 (hS.cell 1 rfl rfl) ?_ | refine valQ_load ld3 (hS.cell 2 rfl rfl) ?_ | refine valQ_load ld3 (hS.cell 3 rfl rfl) ?_ | refine valQ_load ld3 (hS.cell 4 rfl rfl) ?_ | refine valQ_load ld3 (by assumption) ?_
    refine valQ_ok (lss_ok _ _ _ _ _ _) ?_
    first | refine cond_split (fun hc0 => ?_) (fun hc0 => ?_) | refine cond_bsplit (fun hc0 => ?_) (fun hc0 => ?_)
    · first | refine pick_dt (by first | assumption | omega) ?_ | refine pick_df (by first | assumption | omega) ?_ | refine pick_t (by first | rfl | assumption) ?_ | refine pick_f (by first | rfl | assumption) ?_
      refine drawn_ok hS ?_
      intro w hS
      exact least_leaf (at1 := lightUp l (i + 1)) (by omega) (fun h => by rw [hup]; rw [if_pos (hlI.2 (by (try simp at h) <;> omega))]) (fun h => by rw [hup]; rw [if_neg (fun hh => by have := hlI.1 hh; (try simp at h) <;> omega)]) hS (fun w hS => ⟨⟨i + 1, rfl, by omega, .inr (by omega), hS⟩, by simp [intOf]; omega⟩)
    · refine nil_ok ?_
      first | refine valQ_ok (fa30_2 _) ?_ | refine valQ_ok (fao30_2 _ _) ?_
      first | refine valQ_load ld28 (hS.cell 0 rfl rfl) ?_ | refine valQ_load ld28 (hS.cell 1 rfl rfl) ?_ | refine valQ_load ld28 (hS.cell 2 rfl rfl) ?_ | refine valQ_load ld28 (hS.cell 3 rfl rfl) ?_ | refine valQ_load ld28 (hS.cell 4 rfl rfl) ?_ | refine valQ_load ld28 (by assumption) ?_
      first | refine valQ_ok (ixz28 (by first | assumption | omega)) ?_ | refine valQ_ok (ix28 (by first | assumption | omega)) ?_
      first | refine valQ_ok (fa45_1 _) ?_ | refine valQ_ok (fao45_1 _ _) ?_
      first | refine valQ_load ld3 (hS.cell 0 rfl rfl) ?_ | refine valQ_load ld3 (hS.cell 1 rfl rfl) ?_ | refine valQ_load ld3 (hS.cell 2 rfl rfl) ?_ | refine valQ_load ld3 (hS.cell 3 rfl rfl) ?_ | refine valQ_load ld3 (hS.cell 4 rfl rfl) ?_ | refine valQ_load ld3 (by assumption) ?_
      refine nil_ok ?_
      first | refine valQ_ok (fa30_2 _) ?_ | refine valQ_ok (fao30_2 _ _) ?_
      first | refine valQ_load ld28 (hS.cell 0 rfl rfl) ?_ | refine valQ_load ld28 (hS.cell 1 rfl rfl) ?_ | refine valQ_load ld28 (hS.cell 2 rfl rfl) ?_ | refine valQ_load ld28 (hS.cell 3 rfl rfl) ?_ | refine valQ_load ld28 (hS.cell 4 rfl rfl) ?_ | refine valQ_load ld28 (by assumption) ?_
      first | refine valQ_ok (ixz28 (by first | assumption | omega)) ?_ | refine valQ_ok (ix28 (by first | assumption | omega)) ?_
      first | refine valQ_ok (fa45_1 _) ?_ | refine valQ_ok (fao45_1 _ _) ?_
      first | refine valQ_load ld3 (hS.cell 0 rfl rfl) ?_ | refine valQ_load ld3 (hS.cell 1 rfl rfl) ?_ | refine valQ_load ld3 (hS.cell 2 rfl rfl) ?_ | refine valQ_load ld3 (hS.cell 3 rfl rfl) ?_ | refine valQ_load ld3 (hS.cell 4 rfl rfl) ?_ | refine valQ_load ld3 (by assumption) ?_
      refine valQ_ok (eq3 _ _ _ _) ?_
      first | refine cond_split (fun hc1 => ?_) (fun hc1 => ?_) | refine cond_bsplit (fun hc1 => ?_) (fun hc1 => ?_)
      · refine nil_ok ?_
        first | refine valQ_ok (fa30_2 _) ?_ | refine valQ_ok (fao30_2 _ _) ?_
        first | refine valQ_load ld28 (hS.cell 0 rfl rfl) ?_ | refine valQ_load ld28 (hS.cell 1 rfl rfl) ?_ | refine valQ_load ld28 (hS.cell 2 rfl rfl) ?_ | refine valQ_load ld28 (hS.cell 3 rfl rfl) ?_ | refine valQ_load ld28 (hS.cell 4 rfl rfl) ?_ | refine valQ_load ld28 (by assumption) ?_
        first | refine valQ_ok (ixz28 (by first | assumption | omega)) ?_ | refine valQ_ok (ix28 (by first | assumption | omega)) ?_
        first | refine valQ_ok (fa45_0 _) ?_ | refine valQ_ok (fao45_0 _ _) ?_
        first | refine valQ_load ld3 (hS.cell 0 rfl rfl) ?_ | refine valQ_load ld3 (hS.cell 1 rfl rfl) ?_ | refine valQ_load ld3 (hS.cell 2 rfl rfl) ?_ | refine valQ_load ld3 (hS.cell 3 rfl rfl) ?_ | refine valQ_load ld3 (hS.cell 4 rfl rfl) ?_ | refine valQ_load ld3 (by assumption) ?_
        refine nil_ok ?_
        first | refine valQ_ok (fa30_2 _) ?_ | refine valQ_ok (fao30_2 _ _) ?_
        first | refine valQ_load ld28 (hS.cell 0 rfl rfl) ?_ | refine valQ_load ld28 (hS.cell 1 rfl rfl) ?_ | refine valQ_load ld28 (hS.cell 2 rfl rfl) ?_ | refine valQ_load ld28 (hS.cell 3 rfl rfl) ?_ | refine valQ_load ld28 (hS.cell 4 rfl rfl) ?_ | refine valQ_load ld28 (by assumption) ?_
        first | refine valQ_ok (ixz28 (by first | assumption | omega)) ?_ | refine valQ_ok (ix28 (by first | assumption | omega)) ?_
        first | refine valQ_ok (fa45_0 _) ?_ | refine valQ_ok (fao45_0 _ _) ?_
        first | refine valQ_load ld3 (hS.cell 0 rfl rfl) ?_ | refine valQ_load ld3 (hS.cell 1 rfl rfl) ?_ | refine valQ_load ld3 (hS.cell 2 rfl rfl) ?_ | refine valQ_load ld3 (hS.cell 3 rfl rfl) ?_ | refine valQ_load ld3 (hS.cell 4 rfl rfl) ?_ | refine valQ_load ld3 (by assumption) ?_
        refine valQ_ok (lss_ok _ _ _ _ _ _) ?_
        first | refine pick_dt (by first | assumption | omega) ?_ | refine pick_df (by first | assumption | omega) ?_ | refine pick_t (by first | rfl | assumption) ?_ | refine pick_f (by first | rfl | assumption) ?_
        first | refine pick_dt (by first | assumption | omega) ?_ | refine pick_df (by first | assumption | omega) ?_ | refine pick_t (by first | rfl | assumption) ?_ | refine pick_f (by first | rfl | assumption) ?_
        refine drawn_ok hS ?_
        intro w hS
        exact least_leaf (at1 := lightUp l (i + 1)) (by omega) (fun h => by rw [hup]; rw [if_pos (hlI.2 (by (try simp at h) <;> omega))]) (fun h => by rw [hup]; rw [if_neg (fun hh => by have := hlI.1 hh; (try simp at h) <;> omega)]) hS (fun w hS => ⟨⟨i + 1, rfl, by omega, .inr (by omega), hS⟩, by simp [intOf]; omega⟩)
      · first | refine pick_dt (by first | assumption | omega) ?_ | refine pick_df (by first | assumption | omega) ?_ | refine pick_t (by first | rfl | assumption) ?_ | refine pick_f (by first | rfl | assumption) ?_
        first | refine pick_dt (by first | assumption | omega) ?_ | refine pick_df (by first | assumption | omega) ?_ | refine pick_t (by first | rfl | assumption) ?_ | refine pick_f (by first | rfl | assumption) ?_
        refine drawn_ok hS ?_
        intro w hS
        exact least_leaf (at1 := lightUp l (i + 1)) (by omega) (fun h => by rw [hup]; rw [if_pos (hlI.2 (by (try simp at h) <;> omega))]) (fun h => by rw [hup]; rw [if_neg (fun hh => by have := hlI.1 hh; (try simp at h) <;> omega)]) hS (fun w hS => ⟨⟨i + 1, rfl, by omega, .inr (by omega), hS⟩, by simp [intOf]; omega⟩)
  · unfold m27_3 m27_4
    have e : lightUp l i = lightIx l := by
      unfold lightIx
      rcases hi with rfl | hi
      · have : l.length = 0 ∨ l.length = 1 := by omega
        rcases this with h | h <;> rw [h]
        exact hz
      · have : i = l.length := by omega
        rw [this]
    rw [e]
    exact ⟨rfl, hS⟩
theorem one_ret {w0 w : World} {F : List Nat} {L : List Res} {b : Nat} {most n key : Int} {A : Option Addr} {c : Nat} {l : List Ta} (hok : HOk most n l) (hn : n < 1099511627776) (hS : St w0 F w (rcl b most n (.slice A l.length c) :: hrow (.slice A l.length c) l :: L)) :
    Ret Try.prog 26 #[.pointer (some ⟨b, 0, none⟩), .int .i64 key] w fun v w' => ∃ A' c', St w0 F w' (rcl b most (n + 1) (.slice A' (addOne most l key).length c') :: hrow (.slice A' (addOne most l key).length c') (addOne most l key) :: L) := by
  obtain ⟨h1, h2, h3, h4, h5, h6, h7⟩ := hok
  refine s26 _ _ ?_
  unfold m26
  unfold m26_0
  refine nil_ok ?_
  first | refine valP_ok (fa30_1 _ _) ?_ | refine valP_ok (fao30_1 _ _ _) ?_
  first | refine valP_ok (ld3 (hS.cell 0 rfl rfl)) ?_ | refine valP_ok (ld3 (hS.cell 1 rfl rfl)) ?_ | refine valP_ok (ld3 (hS.cell 2 rfl rfl)) ?_ | refine valP_ok (ld3 (hS.cell 3 rfl rfl)) ?_ | refine valP_ok (ld3 (hS.cell 4 rfl rfl)) ?_ | refine valP_ok (ld3 (by assumption)) ?_
  refine valP_ok (add_ok _ _ _ (by omega) (by omega) _) ?_
  refine nil_ok ?_
  first | refine valP_ok (fa30_1 _ _) ?_ | refine valP_ok (fao30_1 _ _ _) ?_
  first | refine store_at 0 st3 hS rfl (by simp) rfl ?_ | refine store_at 1 st3 hS rfl (by simp) rfl ?_ | refine store_at 2 st3 hS rfl (by simp) rfl ?_ | refine store_at 3 st3 hS rfl (by simp) rfl ?_ | refine store_at 4 st3 hS rfl (by simp) rfl ?_
  intro w hS
  simp only [List.set_cons_zero, List.set_cons_succ] at hS
  unfold m26_1
  unfold m26_7
  refine loop_in (fun s w' => ∃ i : Nat, s = .int .i64 i ∧ i ≤ l.length ∧ St w0 F w' (rcl b most (n + 1) (.slice A l.length c) :: hrow (.slice A l.length c) l :: L) ∧ ∀ j (hj : j < l.length), j < i → l[j].key ≠ key) (fun s _ => l.length - (intOf s).toNat)
    ⟨0, rfl, by omega, hS, fun _ _ h => by omega⟩ ?_
  clear hS
  rintro s w ⟨i, rfl, hi, hS, hb⟩
  unfold m26_8
  refine nil_ok ?_
  first | refine valP_ok (fa30_2 _ _) ?_ | refine valP_ok (fao30_2 _ _ _) ?_
  first | refine valP_ok (ld28 (hS.cell 0 rfl rfl)) ?_ | refine valP_ok (ld28 (hS.cell 1 rfl rfl)) ?_ | refine valP_ok (ld28 (hS.cell 2 rfl rfl)) ?_ | refine valP_ok (ld28 (hS.cell 3 rfl rfl)) ?_ | refine valP_ok (ld28 (hS.cell 4 rfl rfl)) ?_ | refine valP_ok (ld28 (by assumption)) ?_
  refine builtin_ok (len28 _) ?_
  refine valP_ok (lss_ok _ _ _ _ _ _ _) ?_
  unfold m26_13
  refine cond_split (fun h => ?_) (fun h => ?_)
  · have hlt : i < l.length := by omega
    obtain ⟨g, rfl⟩ := hS.row_ptr 1 rfl (by omega)
    obtain ⟨t0, t1, t2⟩ := tally_at 1 hS rfl hlt
    unfold m26_9
    refine nil_ok ?_
    first | refine valP_ok (fa30_2 _ _) ?_ | refine valP_ok (fao30_2 _ _ _) ?_
    first | refine valP_ok (ld28 (hS.cell 0 rfl rfl)) ?_ | refine valP_ok (ld28 (hS.cell 1 rfl rfl)) ?_ | refine valP_ok (ld28 (hS.cell 2 rfl rfl)) ?_ | refine valP_ok (ld28 (hS.cell 3 rfl rfl)) ?_ | refine valP_ok (ld28 (hS.cell 4 rfl rfl)) ?_ | refine valP_ok (ld28 (by assumption)) ?_
    first | refine valP_ok (ixz28 (by first | assumption | omega) _) ?_ | refine valP_ok (ix28 (by first | assumption | omega) _) ?_
    first | refine valP_ok (fa45_0 _ _) ?_ | refine valP_ok (fao45_0 _ _ _) ?_
    first | refine valP_ok (ld3 (hS.cell 0 rfl rfl)) ?_ | refine valP_ok (ld3 (hS.cell 1 rfl rfl)) ?_ | refine valP_ok (ld3 (hS.cell 2 rfl rfl)) ?_ | refine valP_ok (ld3 (hS.cell 3 rfl rfl)) ?_ | refine valP_ok (ld3 (hS.cell 4 rfl rfl)) ?_ | refine valP_ok (ld3 (by assumption)) ?_
    refine valP_ok (eq3 _ _ _ _ _) ?_
    unfold m26_11
    refine cond_split (fun hk => ?_) (fun hk => ?_)
    · have hup : addOne most l key = l.set i ⟨key, l[i].n + 1, l[i].over⟩ := by
        unfold addOne
        rw [List.findIdx?_eq_some_iff_getElem.2 ⟨hlt, by simpa using hk, fun q hq => by simpa using hb q (by omega) hq⟩]
        simp only
        rw [getElem!_pos l i hlt, hk]
      have hm := h6 l[i] (List.getElem_mem hlt)
      refine drawn_ok hS ?_
      intro w hS
      clear t0 t1 t2
      obtain ⟨t0, t1, t2⟩ := tally_at 1 hS rfl hlt
      refine nil_ok ?_
      first | refine valS_ok (fa30_2 _ _) ?_ | refine valS_ok (fao30_2 _ _ _) ?_
      first | refine valS_ok (ld28 (hS.cell 0 rfl rfl)) ?_ | refine valS_ok (ld28 (hS.cell 1 rfl rfl)) ?_ | refine valS_ok (ld28 (hS.cell 2 rfl rfl)) ?_ | refine valS_ok (ld28 (hS.cell 3 rfl rfl)) ?_ | refine valS_ok (ld28 (hS.cell 4 rfl rfl)) ?_ | refine valS_ok (ld28 (by assumption)) ?_
      refine nil_ok ?_
      first | refine valS_ok (fa30_2 _ _) ?_ | refine valS_ok (fao30_2 _ _ _) ?_
      first | refine valS_ok (ld28 (hS.cell 0 rfl rfl)) ?_ | refine valS_ok (ld28 (hS.cell 1 rfl rfl)) ?_ | refine valS_ok (ld28 (hS.cell 2 rfl rfl)) ?_ | refine valS_ok (ld28 (hS.cell 3 rfl rfl)) ?_ | refine valS_ok (ld28 (hS.cell 4 rfl rfl)) ?_ | refine valS_ok (ld28 (by assumption)) ?_
      first | refine valS_ok (ixz28 (by first | assumption | omega) _) ?_ | refine valS_ok (ix28 (by first | assumption | omega) _) ?_
      first | refine valS_ok (fa45_1 _ _) ?_ | refine valS_ok (fao45_1 _ _ _) ?_
      first | refine valS_ok (ld3 (hS.cell 0 rfl rfl)) ?_ | refine valS_ok (ld3 (hS.cell 1 rfl rfl)) ?_ | refine valS_ok (ld3 (hS.cell 2 rfl rfl)) ?_ | refine valS_ok (ld3 (hS.cell 3 rfl rfl)) ?_ | refine valS_ok (ld3 (hS.cell 4 rfl rfl)) ?_ | refine valS_ok (ld3 (by assumption)) ?_
      refine valS_ok (add_ok _ _ _ (by omega) (by omega) _) ?_
      refine nil_ok ?_
      first | refine valS_ok (fa30_2 _ _) ?_ | refine valS_ok (fao30_2 _ _ _) ?_
      first | refine valS_ok (ld28 (hS.cell 0 rfl rfl)) ?_ | refine valS_ok (ld28 (hS.cell 1 rfl rfl)) ?_ | refine valS_ok (ld28 (hS.cell 2 rfl rfl)) ?_ | refine valS_ok (ld28 (hS.cell 3 rfl rfl)) ?_ | refine valS_ok (ld28 (hS.cell 4 rfl rfl)) ?_ | refine valS_ok (ld28 (by assumption)) ?_
      first | refine valS_ok (ixz28 (by first | assumption | omega) _) ?_ | refine valS_ok (ix28 (by first | assumption | omega) _) ?_
      first | refine valS_ok (fa45_2 _ _) ?_ | refine valS_ok (fao45_2 _ _ _) ?_
      first | refine valS_ok (ld3 (hS.cell 0 rfl rfl)) ?_ | refine valS_ok (ld3 (hS.cell 1 rfl rfl)) ?_ | refine valS_ok (ld3 (hS.cell 2 rfl rfl)) ?_ | refine valS_ok (ld3 (hS.cell 3 rfl rfl)) ?_ | refine valS_ok (ld3 (hS.cell 4 rfl rfl)) ?_ | refine valS_ok (ld3 (by assumption)) ?_
      refine valS_ok (bd45_0_1_2 rfl rfl rfl _) ?_
      first | refine valS_ok (ixz28 (by first | assumption | omega) _) ?_ | refine valS_ok (ix28 (by first | assumption | omega) _) ?_
      refine store45_row 1 hS rfl hlt ⟨key, l[i].n + 1, l[i].over⟩ ?_
      intro w hS
      simp only [List.set_cons_zero, List.set_cons_succ] at hS
      rw [← hup] at hS
      have hlen2 : l.length = (addOne most l key).length := by rw [hup, List.length_set]
      unfold m26_12
      refine ⟨some ⟨g, 0, none⟩, c, ?_⟩
      rw [← hlen2] at hS ⊢
      exact hS
    · unfold m26_10
      refine valP_ok (add_ok _ _ _ (by omega) (by omega) _) ?_
      refine ⟨⟨i + 1, rfl, by omega, hS, fun j hj hji => ?_⟩, by simp [intOf]; omega⟩
      by_cases e : j = i
      · subst e; exact hk
      · exact hb j hj (by omega)
  have hnf : l.findIdx? (fun t => t.key = key) = none := List.findIdx?_eq_none_iff.2 fun t ht => by
    obtain ⟨q, hq, rfl⟩ := List.mem_iff_getElem.1 ht
    simpa using hb q hq (by omega)
  unfold m26_2
  refine nil_ok ?_
  first | refine valQ_ok (fa30_2 _) ?_ | refine valQ_ok (fao30_2 _ _) ?_
  first | refine valQ_load ld28 (hS.cell 0 rfl rfl) ?_ | refine valQ_load ld28 (hS.cell 1 rfl rfl) ?_ | refine valQ_load ld28 (hS.cell 2 rfl rfl) ?_ | refine valQ_load ld28 (hS.cell 3 rfl rfl) ?_ | refine valQ_load ld28 (hS.cell 4 rfl rfl) ?_ | refine valQ_load ld28 (by assumption) ?_
  refine builtinQ_ok (len28) ?_
  refine nil_ok ?_
  first | refine valQ_ok (fa30_0 _) ?_ | refine valQ_ok (fao30_0 _ _) ?_
  first | refine valQ_load ld3 (hS.cell 0 rfl rfl) ?_ | refine valQ_load ld3 (hS.cell 1 rfl rfl) ?_ | refine valQ_load ld3 (hS.cell 2 rfl rfl) ?_ | refine valQ_load ld3 (hS.cell 3 rfl rfl) ?_ | refine valQ_load ld3 (hS.cell 4 rfl rfl) ?_ | refine valQ_load ld3 (by assumption) ?_
  refine valQ_ok (lss_ok _ _ _ _ _ _) ?_
  refine drawn_ok hS ?_
  intro w hS
  unfold m26_5
  by_cases hroom : (l.length : Int) < most
  · have hup : addOne most l key = l ++ [⟨key, 1, 0⟩] := by unfold addOne; rw [hnf]; simp only; rw [if_pos hroom]
    refine cond_dt hroom ?_
    refine nil_ok ?_
    first | refine valP_ok (fa30_2 _ _) ?_ | refine valP_ok (fao30_2 _ _ _) ?_
    first | refine valP_ok (ld28 (hS.cell 0 rfl rfl)) ?_ | refine valP_ok (ld28 (hS.cell 1 rfl rfl)) ?_ | refine valP_ok (ld28 (hS.cell 2 rfl rfl)) ?_ | refine valP_ok (ld28 (hS.cell 3 rfl rfl)) ?_ | refine valP_ok (ld28 (hS.cell 4 rfl rfl)) ?_ | refine valP_ok (ld28 (by assumption)) ?_
    refine valP_ok (bd45_0_1 rfl rfl _) ?_
    refine newslice_ok (bs28_1 _) hS ?_
    intro b75 w hS
    refine append_ok 2 sl28 hS rfl (m := 1) (news := encT ⟨key, 1, 0⟩) rfl (fun j u hj => ?_) (by simp [encT, Value.oneCell']) (by unfold maxLen; omega) (by omega) ?_
    · rw [add_none, Nat.zero_add]
      exact hS.cell 0 rfl hj
    intro A' c' w hS
    simp only [List.set_cons_zero, List.set_cons_succ] at hS
    refine nil_ok ?_
    first | refine valP_ok (fa30_2 _ _) ?_ | refine valP_ok (fao30_2 _ _ _) ?_
    refine store_at 1 st28 hS rfl (by simp) rfl ?_
    intro w hS
    simp only [List.set_cons_zero, List.set_cons_succ] at hS
    have hS := hS.tail
    have hlen2 : l.length + 1 = (addOne most l key).length := by rw [hup]; simp
    have hcells : l.flatMap encT ++ encT ⟨key, 1, 0⟩ = (addOne most l key).flatMap encT := by rw [hup]; simp
    rw [hcells, hlen2] at hS
    unfold m26_6
    exact ⟨A', c', hS⟩
  · have hlt2 : lightIx l < l.length := lightIx_lt (by omega)
    have hup : addOne most l key = l.set (lightIx l) ⟨key, l[lightIx l].n + 1, l[lightIx l].n⟩ := by unfold addOne; rw [hnf]; simp only; rw [if_neg hroom, getElem!_pos l _ hlt2]
    have hm := h6 l[lightIx l] (List.getElem_mem hlt2)
    refine cond_df hroom ?_
    unfold m26_3
    refine callR (by kernel_rfl) (least_ret (by omega) hS) ?_
    rintro v w ⟨rfl, hS⟩
    obtain ⟨g', rfl⟩ := hS.row_ptr 1 rfl (by omega)
    unfold m26_4
    refine drawn_ok hS ?_
    intro w hS
    obtain ⟨t0, t1, t2⟩ := tally_at 1 hS rfl hlt2
    refine nil_ok ?_
    first | refine valS_ok (fa30_2 _ _) ?_ | refine valS_ok (fao30_2 _ _ _) ?_
    first | refine valS_ok (ld28 (hS.cell 0 rfl rfl)) ?_ | refine valS_ok (ld28 (hS.cell 1 rfl rfl)) ?_ | refine valS_ok (ld28 (hS.cell 2 rfl rfl)) ?_ | refine valS_ok (ld28 (hS.cell 3 rfl rfl)) ?_ | refine valS_ok (ld28 (hS.cell 4 rfl rfl)) ?_ | refine valS_ok (ld28 (by assumption)) ?_
    refine nil_ok ?_
    first | refine valS_ok (fa30_2 _ _) ?_ | refine valS_ok (fao30_2 _ _ _) ?_
    first | refine valS_ok (ld28 (hS.cell 0 rfl rfl)) ?_ | refine valS_ok (ld28 (hS.cell 1 rfl rfl)) ?_ | refine valS_ok (ld28 (hS.cell 2 rfl rfl)) ?_ | refine valS_ok (ld28 (hS.cell 3 rfl rfl)) ?_ | refine valS_ok (ld28 (hS.cell 4 rfl rfl)) ?_ | refine valS_ok (ld28 (by assumption)) ?_
    first | refine valS_ok (ixz28 (by first | assumption | omega) _) ?_ | refine valS_ok (ix28 (by first | assumption | omega) _) ?_
    first | refine valS_ok (fa45_1 _ _) ?_ | refine valS_ok (fao45_1 _ _ _) ?_
    first | refine valS_ok (ld3 (hS.cell 0 rfl rfl)) ?_ | refine valS_ok (ld3 (hS.cell 1 rfl rfl)) ?_ | refine valS_ok (ld3 (hS.cell 2 rfl rfl)) ?_ | refine valS_ok (ld3 (hS.cell 3 rfl rfl)) ?_ | refine valS_ok (ld3 (hS.cell 4 rfl rfl)) ?_ | refine valS_ok (ld3 (by assumption)) ?_
    refine valS_ok (add_ok _ _ _ (by omega) (by omega) _) ?_
    refine nil_ok ?_
    first | refine valS_ok (fa30_2 _ _) ?_ | refine valS_ok (fao30_2 _ _ _) ?_
    first | refine valS_ok (ld28 (hS.cell 0 rfl rfl)) ?_ | refine valS_ok (ld28 (hS.cell 1 rfl rfl)) ?_ | refine valS_ok (ld28 (hS.cell 2 rfl rfl)) ?_ | refine valS_ok (ld28 (hS.cell 3 rfl rfl)) ?_ | refine valS_ok (ld28 (hS.cell 4 rfl rfl)) ?_ | refine valS_ok (ld28 (by assumption)) ?_
    first | refine valS_ok (ixz28 (by first | assumption | omega) _) ?_ | refine valS_ok (ix28 (by first | assumption | omega) _) ?_
    first | refine valS_ok (fa45_1 _ _) ?_ | refine valS_ok (fao45_1 _ _ _) ?_
    first | refine valS_ok (ld3 (hS.cell 0 rfl rfl)) ?_ | refine valS_ok (ld3 (hS.cell 1 rfl rfl)) ?_ | refine valS_ok (ld3 (hS.cell 2 rfl rfl)) ?_ | refine valS_ok (ld3 (hS.cell 3 rfl rfl)) ?_ | refine valS_ok (ld3 (hS.cell 4 rfl rfl)) ?_ | refine valS_ok (ld3 (by assumption)) ?_
    refine valS_ok (bd45_0_1_2 rfl rfl rfl _) ?_
    first | refine valS_ok (ixz28 (by first | assumption | omega) _) ?_ | refine valS_ok (ix28 (by first | assumption | omega) _) ?_
    refine store45_row 1 hS rfl hlt2 ⟨key, l[lightIx l].n + 1, l[lightIx l].n⟩ ?_
    intro w hS
    simp only [List.set_cons_zero, List.set_cons_succ] at hS
    rw [← hup] at hS
    have hlen2 : l.length = (addOne most l key).length := by rw [hup, List.length_set]
    refine ⟨some ⟨g', 0, none⟩, c, ?_⟩
    rw [← hlen2] at hS ⊢
    exact hS
theorem radd_ret {w0 w : World} {F : List Nat} {L : List Res} {b : Nat} {most n : Int} {A Ak : Option Addr} {c ck : Nat} {l : List Ta} {keys : List Int} (hS : St w0 F w (rcl b most n (.slice A l.length c) :: hrow (.slice A l.length c) l :: L))
    (hok : HOk most n l) (hk : Bes w0 F L 1 Ak keys.length (ints keys)) (hkl : keys.length ≤ 1000000) :
    Ret Try.prog 14 #[.pointer (some ⟨b, 0, none⟩), .slice Ak keys.length ck] w fun v w' =>
      if (keys.length : Int) > 1099511627776 - n then v = .int .i64 6 ∧ St w0 F w' (rcl b most n (.slice A l.length c) :: hrow (.slice A l.length c) l :: L)
      else v = .int .i64 0 ∧ ∃ A' c', St w0 F w' (rcl b most (n + keys.length) (.slice A' (addAll most l keys).length c') :: hrow (.slice A' (addAll most l keys).length c') (addAll most l keys) :: L) := by
  have hn1 := hok.n1
  have hn2 := hok.n2
  refine s14 _ _ ?_
  unfold m14
  unfold m14_0
  unfold m14_1
  refine builtin_ok (len22 _) ?_
  refine nil_ok ?_
  first | refine valP_ok (fa30_1 _ _) ?_ | refine valP_ok (fao30_1 _ _ _) ?_
  first | refine valP_ok (ld3 (hS.cell 0 rfl rfl)) ?_ | refine valP_ok (ld3 (hS.cell 1 rfl rfl)) ?_ | refine valP_ok (ld3 (hS.cell 2 rfl rfl)) ?_ | refine valP_ok (ld3 (hS.cell 3 rfl rfl)) ?_ | refine valP_ok (ld3 (hS.cell 4 rfl rfl)) ?_ | refine valP_ok (ld3 (by assumption)) ?_
  refine valP_ok (sub_ok _ _ _ (by omega) (by omega) _) ?_
  refine valP_ok (gtr_ok _ _ _ _ _ _ _) ?_
  unfold m14_10
  refine cond_split (fun h => ?_) (fun h => ?_)
  · unfold m14_11
    show ite _ _ _
    rw [if_pos (by omega)]
    exact ⟨rfl, hS⟩
  unfold m14_2
  unfold m14_5
  refine loop_in (fun s w' => ∃ i : Nat, s = .int .i64 i ∧ i ≤ keys.length ∧ HOk most (n + i) (addAll most l (keys.take i)) ∧ ∃ A' c', St w0 F w' (rcl b most (n + i) (.slice A' (addAll most l (keys.take i)).length c') :: hrow (.slice A' (addAll most l (keys.take i)).length c') (addAll most l (keys.take i)) :: L))
    (fun s _ => keys.length - (intOf s).toNat) ⟨0, rfl, by omega, by simpa [addAll] using hok, A, c, by simpa [addAll] using hS⟩ ?_
  clear hS hok
  rintro s w ⟨i, rfl, hi, hok, A, c, hS⟩
  unfold m14_6
  refine builtin_ok (len22 _) ?_
  refine valP_ok (lss_ok _ _ _ _ _ _ _) ?_
  unfold m14_9
  refine cond_split (fun hlt' => ?_) (fun hge => ?_)
  · have hlt : i < keys.length := by omega
    have hstep := addAll_take (most := most) (l := l) hlt
    have hok1 := hok.one (by omega) keys[i]
    rw [← hstep] at hok1
    have hr := hk.rd2 hS
    obtain ⟨g, o, rfl⟩ := hr.some_ (by omega) (by omega)
    have hc := hr.cell_ (ints_get hlt)
    unfold m14_7
    first | refine valP_ok (ixz22 (by first | assumption | omega) _) ?_ | refine valP_ok (ix22 (by first | assumption | omega) _) ?_
    first | refine valP_ok (ld3 (hS.cell 0 rfl rfl)) ?_ | refine valP_ok (ld3 (hS.cell 1 rfl rfl)) ?_ | refine valP_ok (ld3 (hS.cell 2 rfl rfl)) ?_ | refine valP_ok (ld3 (hS.cell 3 rfl rfl)) ?_ | refine valP_ok (ld3 (hS.cell 4 rfl rfl)) ?_ | refine valP_ok (ld3 (by assumption)) ?_
    refine callR (by kernel_rfl) (one_ret hok (by omega) hS) ?_
    rintro v w ⟨A', c', hS⟩
    rw [← hstep] at hS
    unfold m14_8
    refine valP_ok (add_ok _ _ _ (by omega) (by omega) _) ?_
    refine ⟨⟨i + 1, rfl, by omega, by rw [show n + ((i + 1 : Nat) : Int) = n + i + 1 by omega]; exact hok1, A', c', ?_⟩, by simp [intOf]; omega⟩
    rw [show n + ((i + 1 : Nat) : Int) = n + i + 1 by omega]
    exact hS
  · unfold m14_3 m14_4
    have : i = keys.length := by omega
    subst this
    rw [List.take_length] at hS
    show ite _ _ _
    rw [if_neg (by omega)]
    exact ⟨rfl, A, c, hS⟩
theorem rcount_ret {w0 w : World} {F : List Nat} {L : List Res} {b : Nat} {most n key : Int} {A : Option Addr} {c : Nat} {l : List Ta} (hok : HOk most n l) (hS : St w0 F w (rcl b most n (.slice A l.length c) :: hrow (.slice A l.length c) l :: L)) :
    Ret Try.prog 16 #[.pointer (some ⟨b, 0, none⟩), .int .i64 key] w fun v w' => v = .tuple #[.int .i64 (countI most l key).1, .int .i64 (countI most l key).2] ∧ St w0 F w' (rcl b most n (.slice A l.length c) :: hrow (.slice A l.length c) l :: L) := by
  obtain ⟨h1, h2, h3, h4, h5, h6, h7⟩ := hok
  refine s16 _ _ ?_
  unfold m16
  unfold m16_0
  unfold m16_1
  unfold m16_7
  refine loop_in (fun s w' => ∃ i : Nat, s = .int .i64 i ∧ i ≤ l.length ∧ St w0 F w' (rcl b most n (.slice A l.length c) :: hrow (.slice A l.length c) l :: L) ∧ ∀ j (hj : j < l.length), j < i → l[j].key ≠ key) (fun s _ => l.length - (intOf s).toNat)
    ⟨0, rfl, by omega, hS, fun _ _ h => by omega⟩ ?_
  clear hS
  rintro s w ⟨i, rfl, hi, hS, hb⟩
  unfold m16_8
  refine nil_ok ?_
  first | refine valP_ok (fa30_2 _ _) ?_ | refine valP_ok (fao30_2 _ _ _) ?_
  first | refine valP_ok (ld28 (hS.cell 0 rfl rfl)) ?_ | refine valP_ok (ld28 (hS.cell 1 rfl rfl)) ?_ | refine valP_ok (ld28 (hS.cell 2 rfl rfl)) ?_ | refine valP_ok (ld28 (hS.cell 3 rfl rfl)) ?_ | refine valP_ok (ld28 (hS.cell 4 rfl rfl)) ?_ | refine valP_ok (ld28 (by assumption)) ?_
  refine builtin_ok (len28 _) ?_
  refine valP_ok (lss_ok _ _ _ _ _ _ _) ?_
  unfold m16_13
  refine cond_split (fun h => ?_) (fun h => ?_)
  · have hlt : i < l.length := by omega
    obtain ⟨g, rfl⟩ := hS.row_ptr 1 rfl (by omega)
    obtain ⟨t0, t1, t2⟩ := tally_at 1 hS rfl hlt
    unfold m16_9
    refine nil_ok ?_
    first | refine valP_ok (fa30_2 _ _) ?_ | refine valP_ok (fao30_2 _ _ _) ?_
    first | refine valP_ok (ld28 (hS.cell 0 rfl rfl)) ?_ | refine valP_ok (ld28 (hS.cell 1 rfl rfl)) ?_ | refine valP_ok (ld28 (hS.cell 2 rfl rfl)) ?_ | refine valP_ok (ld28 (hS.cell 3 rfl rfl)) ?_ | refine valP_ok (ld28 (hS.cell 4 rfl rfl)) ?_ | refine valP_ok (ld28 (by assumption)) ?_
    first | refine valP_ok (ixz28 (by first | assumption | omega) _) ?_ | refine valP_ok (ix28 (by first | assumption | omega) _) ?_
    first | refine valP_ok (fa45_0 _ _) ?_ | refine valP_ok (fao45_0 _ _ _) ?_
    first | refine valP_ok (ld3 (hS.cell 0 rfl rfl)) ?_ | refine valP_ok (ld3 (hS.cell 1 rfl rfl)) ?_ | refine valP_ok (ld3 (hS.cell 2 rfl rfl)) ?_ | refine valP_ok (ld3 (hS.cell 3 rfl rfl)) ?_ | refine valP_ok (ld3 (hS.cell 4 rfl rfl)) ?_ | refine valP_ok (ld3 (by assumption)) ?_
    refine valP_ok (eq3 _ _ _ _ _) ?_
    unfold m16_11
    refine cond_split (fun hk => ?_) (fun hk => ?_)
    · have hc : countI most l key = (l[i].n - l[i].over, l[i].n) := by
        unfold countI
        rw [List.findIdx?_eq_some_iff_getElem.2 ⟨hlt, by simpa using hk, fun q hq => by simpa using hb q (by omega) hq⟩]
        simp only
        rw [getElem!_pos l i hlt]
      have hm := h6 l[i] (List.getElem_mem hlt)
      rw [hc]
      refine nil_ok ?_
      first | refine valQ_ok (fa30_2 _) ?_ | refine valQ_ok (fao30_2 _ _) ?_
      first | refine valQ_load ld28 (hS.cell 0 rfl rfl) ?_ | refine valQ_load ld28 (hS.cell 1 rfl rfl) ?_ | refine valQ_load ld28 (hS.cell 2 rfl rfl) ?_ | refine valQ_load ld28 (hS.cell 3 rfl rfl) ?_ | refine valQ_load ld28 (hS.cell 4 rfl rfl) ?_ | refine valQ_load ld28 (by assumption) ?_
      first | refine valQ_ok (ixz28 (by first | assumption | omega)) ?_ | refine valQ_ok (ix28 (by first | assumption | omega)) ?_
      first | refine valQ_ok (fa45_1 _) ?_ | refine valQ_ok (fao45_1 _ _) ?_
      first | refine valQ_load ld3 (hS.cell 0 rfl rfl) ?_ | refine valQ_load ld3 (hS.cell 1 rfl rfl) ?_ | refine valQ_load ld3 (hS.cell 2 rfl rfl) ?_ | refine valQ_load ld3 (hS.cell 3 rfl rfl) ?_ | refine valQ_load ld3 (hS.cell 4 rfl rfl) ?_ | refine valQ_load ld3 (by assumption) ?_
      refine nil_ok ?_
      first | refine valQ_ok (fa30_2 _) ?_ | refine valQ_ok (fao30_2 _ _) ?_
      first | refine valQ_load ld28 (hS.cell 0 rfl rfl) ?_ | refine valQ_load ld28 (hS.cell 1 rfl rfl) ?_ | refine valQ_load ld28 (hS.cell 2 rfl rfl) ?_ | refine valQ_load ld28 (hS.cell 3 rfl rfl) ?_ | refine valQ_load ld28 (hS.cell 4 rfl rfl) ?_ | refine valQ_load ld28 (by assumption) ?_
      first | refine valQ_ok (ixz28 (by first | assumption | omega)) ?_ | refine valQ_ok (ix28 (by first | assumption | omega)) ?_
      first | refine valQ_ok (fa45_2 _) ?_ | refine valQ_ok (fao45_2 _ _) ?_
      first | refine valQ_load ld3 (hS.cell 0 rfl rfl) ?_ | refine valQ_load ld3 (hS.cell 1 rfl rfl) ?_ | refine valQ_load ld3 (hS.cell 2 rfl rfl) ?_ | refine valQ_load ld3 (hS.cell 3 rfl rfl) ?_ | refine valQ_load ld3 (hS.cell 4 rfl rfl) ?_ | refine valQ_load ld3 (by assumption) ?_
      refine valQ_ok (sub_ok _ _ _ (by omega) (by omega)) ?_
      refine nil_ok ?_
      first | refine valQ_ok (fa30_2 _) ?_ | refine valQ_ok (fao30_2 _ _) ?_
      first | refine valQ_load ld28 (hS.cell 0 rfl rfl) ?_ | refine valQ_load ld28 (hS.cell 1 rfl rfl) ?_ | refine valQ_load ld28 (hS.cell 2 rfl rfl) ?_ | refine valQ_load ld28 (hS.cell 3 rfl rfl) ?_ | refine valQ_load ld28 (hS.cell 4 rfl rfl) ?_ | refine valQ_load ld28 (by assumption) ?_
      first | refine valQ_ok (ixz28 (by first | assumption | omega)) ?_ | refine valQ_ok (ix28 (by first | assumption | omega)) ?_
      first | refine valQ_ok (fa45_1 _) ?_ | refine valQ_ok (fao45_1 _ _) ?_
      first | refine valQ_load ld3 (hS.cell 0 rfl rfl) ?_ | refine valQ_load ld3 (hS.cell 1 rfl rfl) ?_ | refine valQ_load ld3 (hS.cell 2 rfl rfl) ?_ | refine valQ_load ld3 (hS.cell 3 rfl rfl) ?_ | refine valQ_load ld3 (hS.cell 4 rfl rfl) ?_ | refine valQ_load ld3 (by assumption) ?_
      refine drawn_ok hS ?_
      intro w hS
      unfold m16_12
      exact ⟨rfl, hS⟩
    · unfold m16_10
      refine valP_ok (add_ok _ _ _ (by omega) (by omega) _) ?_
      refine ⟨⟨i + 1, rfl, by omega, hS, fun j hj hji => ?_⟩, by simp [intOf]; omega⟩
      by_cases e : j = i
      · subst e; exact hk
      · exact hb j hj (by omega)
  have hnf : l.findIdx? (fun t => t.key = key) = none := List.findIdx?_eq_none_iff.2 fun t ht => by
    obtain ⟨q, hq, rfl⟩ := List.mem_iff_getElem.1 ht
    simpa using hb q hq (by omega)
  unfold m16_2
  refine nil_ok ?_
  first | refine valQ_ok (fa30_2 _) ?_ | refine valQ_ok (fao30_2 _ _) ?_
  first | refine valQ_load ld28 (hS.cell 0 rfl rfl) ?_ | refine valQ_load ld28 (hS.cell 1 rfl rfl) ?_ | refine valQ_load ld28 (hS.cell 2 rfl rfl) ?_ | refine valQ_load ld28 (hS.cell 3 rfl rfl) ?_ | refine valQ_load ld28 (hS.cell 4 rfl rfl) ?_ | refine valQ_load ld28 (by assumption) ?_
  refine builtinQ_ok (len28) ?_
  refine nil_ok ?_
  first | refine valQ_ok (fa30_0 _) ?_ | refine valQ_ok (fao30_0 _ _) ?_
  first | refine valQ_load ld3 (hS.cell 0 rfl rfl) ?_ | refine valQ_load ld3 (hS.cell 1 rfl rfl) ?_ | refine valQ_load ld3 (hS.cell 2 rfl rfl) ?_ | refine valQ_load ld3 (hS.cell 3 rfl rfl) ?_ | refine valQ_load ld3 (hS.cell 4 rfl rfl) ?_ | refine valQ_load ld3 (by assumption) ?_
  refine valQ_ok (lss_ok _ _ _ _ _ _) ?_
  refine drawn_ok hS ?_
  intro w hS
  unfold m16_5
  by_cases hroom : (l.length : Int) < most
  · have hc : countI most l key = (0, 0) := by unfold countI; rw [hnf]; simp only; rw [if_pos hroom]
    rw [hc]
    refine cond_dt hroom ?_
    unfold m16_6
    exact ⟨rfl, hS⟩
  · have hlt2 : lightIx l < l.length := lightIx_lt (by omega)
    have hc : countI most l key = (0, l[lightIx l].n) := by unfold countI; rw [hnf]; simp only; rw [if_neg hroom, getElem!_pos l _ hlt2]
    rw [hc]
    refine cond_df hroom ?_
    unfold m16_3
    refine drawn_ok hS ?_
    intro w hS
    refine nil_ok ?_
    first | refine pureP_ok (fa30_2 _) ?_ | refine pureP_ok (fao30_2 _ _) ?_
    refine ⟨?_, ?_⟩
    · first | refine valP_ok (ld28 (hS.cell 0 rfl rfl)) ?_ | refine valP_ok (ld28 (hS.cell 1 rfl rfl)) ?_ | refine valP_ok (ld28 (hS.cell 2 rfl rfl)) ?_ | refine valP_ok (ld28 (hS.cell 3 rfl rfl)) ?_ | refine valP_ok (ld28 (hS.cell 4 rfl rfl)) ?_ | refine valP_ok (ld28 (by assumption)) ?_
      refine callR (by kernel_rfl) (least_ret (by omega) hS) ?_
      rintro v w ⟨rfl, hS⟩
      obtain ⟨g, rfl⟩ := hS.row_ptr 1 rfl (by omega)
      obtain ⟨t0, t1, t2⟩ := tally_at 1 hS rfl hlt2
      first | refine pureP_ok (ixz28 (by first | assumption | omega)) ?_ | refine pureP_ok (ix28 (by first | assumption | omega)) ?_
      first | refine pureP_ok (fa45_1 _) ?_ | refine pureP_ok (fao45_1 _ _) ?_
      first | refine valP_ok (ld3 (hS.cell 0 rfl rfl)) ?_ | refine valP_ok (ld3 (hS.cell 1 rfl rfl)) ?_ | refine valP_ok (ld3 (hS.cell 2 rfl rfl)) ?_ | refine valP_ok (ld3 (hS.cell 3 rfl rfl)) ?_ | refine valP_ok (ld3 (hS.cell 4 rfl rfl)) ?_ | refine valP_ok (ld3 (by assumption)) ?_
      unfold m16_4
      exact ⟨rfl, hS⟩
    · refine callR (by kernel_rfl) (least_ret (by omega) hS) ?_
      rintro v w ⟨rfl, hS⟩
      obtain ⟨g, rfl⟩ := hS.row_ptr 1 rfl (by omega)
      obtain ⟨t0, t1, t2⟩ := tally_at 1 hS rfl hlt2
      first | refine valP_ok (ld28 (hS.cell 0 rfl rfl)) ?_ | refine valP_ok (ld28 (hS.cell 1 rfl rfl)) ?_ | refine valP_ok (ld28 (hS.cell 2 rfl rfl)) ?_ | refine valP_ok (ld28 (hS.cell 3 rfl rfl)) ?_ | refine valP_ok (ld28 (hS.cell 4 rfl rfl)) ?_ | refine valP_ok (ld28 (by assumption)) ?_
      first | refine pureP_ok (ixz28 (by first | assumption | omega)) ?_ | refine pureP_ok (ix28 (by first | assumption | omega)) ?_
      first | refine pureP_ok (fa45_1 _) ?_ | refine pureP_ok (fao45_1 _ _) ?_
      first | refine valP_ok (ld3 (hS.cell 0 rfl rfl)) ?_ | refine valP_ok (ld3 (hS.cell 1 rfl rfl)) ?_ | refine valP_ok (ld3 (hS.cell 2 rfl rfl)) ?_ | refine valP_ok (ld3 (hS.cell 3 rfl rfl)) ?_ | refine valP_ok (ld3 (hS.cell 4 rfl rfl)) ?_ | refine valP_ok (ld3 (by assumption)) ?_
      unfold m16_4
      exact ⟨rfl, hS⟩

end Go.Proofs.Ytcfdalmnhgiaeaa.M
