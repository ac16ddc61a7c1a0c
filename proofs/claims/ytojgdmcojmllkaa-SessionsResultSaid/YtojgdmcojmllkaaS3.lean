/- What is near, what stands ahead; the sorts' comparisons. -/
import Derived.Test.YtojgdmcojmllkaaS2
namespace Go.Proofs.Ytojgdmcojmllkaa.M
open Go.Proofs.Ytojgdmcojmllkaa.F Go.RowKit
set_option linter.unusedVariables false
set_option linter.unusedSimpArgs false
set_option maxRecDepth 100000
set_option maxHeartbeats 2000000
attribute [local irreducible] Res.cells Res.row Res.map Res.any World.cell? World.frozen? Instr.fieldAt Instr.loadAt Instr.storeAt Instr.indexAt Instr.lookup Instr.mapUpdate Instr.box Instr.build Instr.buildSlice Instr.extract Instr.alloc Instr.field Instr.index Instr.sliceAt Instr.makeSlice Instr.makeMap Instr.makeFunc binS Op.unary Sem.run
open Go.Sort Go.Shelf
structure TB (l : List Ev) : Prop where
  pos : 0 < l.length
  max : l.length ≤ 140737488351232
  f : 0 ≤ fT l ∧ fT l ≤ 1099511627776
  l : 0 ≤ lT l ∧ lT l ≤ 1099511627776
def NearS (g : Gp) (k1 : Int) (l1 : List Ev) (k2 : Int) (l2 : List Ev) : Prop := k1 = k2 ∧ fT l2 - lT l1 ≤ g.gap ∧ fT l1 - lT l2 ≤ g.gap
def BeforeS (k1 : Int) (l1 : List Ev) (k2 : Int) (l2 : List Ev) : Prop := fT l1 < fT l2 ∨ (fT l1 = fT l2 ∧ k1 < k2)
def byT (a b : Ev) : Int := orI [cmpI a.t b.t, cmpI a.v b.v]
def byS (k1 : Int) (l1 : List Ev) (k2 : Int) (l2 : List Ev) : Int := orI [cmpI (fT l1) (fT l2), cmpI k1 k2]
theorem or2_neg {a b c d : Int} : orI [cmpI a b, cmpI c d] < 0 ↔ a < b ∨ (a = b ∧ c < d) := by
  unfold cmpI orI orI orI
  by_cases h1 : a < b
  · simp [h1]
  · by_cases h2 : b < a
    · simp [h1, h2]; omega
    · have e : a = b := by omega
      subst e
      by_cases h3 : c < d
      · simp [h3]
      · by_cases h4 : d < c <;> simp [h3, h4] <;> omega
theorem or2_pos {a b c d : Int} : 0 < orI [cmpI a b, cmpI c d] ↔ b < a ∨ (b = a ∧ d < c) := by
  unfold cmpI orI orI orI
  by_cases h1 : a < b
  · simp [h1]; omega
  · by_cases h2 : b < a
    · simp [h1, h2]
    · have e : a = b := by omega
      subst e
      by_cases h3 : c < d
      · simp [h3]; omega
      · by_cases h4 : d < c <;> simp [h3, h4] <;> omega
section
variable {w0 w : World} {F : List Nat} {L : List Res} {key key2 : Int} {A A2 : Option Addr} {c c2 : Nat} {l l2 : List Ev} {g : Gp}
theorem near_ret (hg : GapOk g) (ht : TB l) (ht2 : TB l2) (hS : St w0 F w L) (hE : BE w0 F L A l) (hE2 : BE w0 F L A2 l2) :
    Ret Try.prog 37 #[gv g, spv key A l.length c, spv key2 A2 l2.length c2] w fun v w' => (∃ b, v = .bool b ∧ (b = true ↔ NearS g key l key2 l2)) ∧ St w0 F w' L := by
  have h1 := hg.gap
  have h2 := ht.f
  have h3 := ht.l
  have h4 := ht2.f
  have h5 := ht2.l
  refine s37 _ _ _ ?_
  unfold m37
  unfold m37_0
  refine new_ok (bx23 _ _ _) hS ?_
  intro b3 w hS
  refine new_ok (bx33 _ _ _) hS ?_
  intro b4 w hS
  refine new_ok (bx33 _ _ _) hS ?_
  intro b5 w hS
  unfold m37_1
  first | refine ls33 0 hS rfl ?_ | refine ls33 1 hS rfl ?_ | refine ls33 2 hS rfl ?_ | refine ls33 3 hS rfl ?_ | refine ls33 4 hS rfl ?_ | refine ls33 5 hS rfl ?_ | refine ls33 6 hS rfl ?_ | refine ls33 7 hS rfl ?_ | refine valP_ok (ld33 (by assumption) (by assumption)) ?_
  refine callR (by kernel_rfl) (ends_ret hS (((hE.cons _).cons _).cons _) ht.pos ht.max) ?_
  rintro v w ⟨rfl, hS⟩
  refine valP_ok (extract_ok _ 0 rfl _) ?_
  refine valP_ok (extract_ok _ 1 rfl _) ?_
  unfold m37_2
  first | refine ls33 0 hS rfl ?_ | refine ls33 1 hS rfl ?_ | refine ls33 2 hS rfl ?_ | refine ls33 3 hS rfl ?_ | refine ls33 4 hS rfl ?_ | refine ls33 5 hS rfl ?_ | refine ls33 6 hS rfl ?_ | refine ls33 7 hS rfl ?_ | refine valP_ok (ld33 (by assumption) (by assumption)) ?_
  refine callR (by kernel_rfl) (ends_ret hS (((hE2.cons _).cons _).cons _) ht2.pos ht2.max) ?_
  rintro v w ⟨rfl, hS⟩
  refine valP_ok (extract_ok _ 0 rfl _) ?_
  refine valP_ok (extract_ok _ 1 rfl _) ?_
  unfold m37_3
  first | refine valP_ok (fa33_0 _ _) ?_ | refine valP_ok (fao33_0 _ _ _) ?_
  first | refine valP_ok (ld3 (hS.cell 0 rfl rfl)) ?_ | refine valP_ok (ld3 (hS.cell 1 rfl rfl)) ?_ | refine valP_ok (ld3 (hS.cell 2 rfl rfl)) ?_ | refine valP_ok (ld3 (hS.cell 3 rfl rfl)) ?_ | refine valP_ok (ld3 (hS.cell 4 rfl rfl)) ?_ | refine valP_ok (ld3 (hS.cell 5 rfl rfl)) ?_ | refine valP_ok (ld3 (hS.cell 6 rfl rfl)) ?_ | refine valP_ok (ld3 (hS.cell 7 rfl rfl)) ?_ | refine valP_ok (ld3 (by assumption)) ?_
  first | refine valP_ok (fa33_0 _ _) ?_ | refine valP_ok (fao33_0 _ _ _) ?_
  first | refine valP_ok (ld3 (hS.cell 0 rfl rfl)) ?_ | refine valP_ok (ld3 (hS.cell 1 rfl rfl)) ?_ | refine valP_ok (ld3 (hS.cell 2 rfl rfl)) ?_ | refine valP_ok (ld3 (hS.cell 3 rfl rfl)) ?_ | refine valP_ok (ld3 (hS.cell 4 rfl rfl)) ?_ | refine valP_ok (ld3 (hS.cell 5 rfl rfl)) ?_ | refine valP_ok (ld3 (hS.cell 6 rfl rfl)) ?_ | refine valP_ok (ld3 (hS.cell 7 rfl rfl)) ?_ | refine valP_ok (ld3 (by assumption)) ?_
  refine valP_ok (eq3 _ _ _ _ _) ?_
  first | refine cond_split (fun hc0 => ?_) (fun hc0 => ?_) | refine cond_bsplit (fun hc0 => ?_) (fun hc0 => ?_)
  · refine valP_ok (sub_ok _ _ _ (by omega) (by omega) _) ?_
    first | refine valP_ok (fa23_0 _ _) ?_ | refine valP_ok (fao23_0 _ _ _) ?_
    first | refine valP_ok (ld3 (hS.cell 0 rfl rfl)) ?_ | refine valP_ok (ld3 (hS.cell 1 rfl rfl)) ?_ | refine valP_ok (ld3 (hS.cell 2 rfl rfl)) ?_ | refine valP_ok (ld3 (hS.cell 3 rfl rfl)) ?_ | refine valP_ok (ld3 (hS.cell 4 rfl rfl)) ?_ | refine valP_ok (ld3 (hS.cell 5 rfl rfl)) ?_ | refine valP_ok (ld3 (hS.cell 6 rfl rfl)) ?_ | refine valP_ok (ld3 (hS.cell 7 rfl rfl)) ?_ | refine valP_ok (ld3 (by assumption)) ?_
    refine valP_ok (leq_ok _ _ _ _ _ _ _) ?_
    first | refine pick_dt (by first | assumption | omega) ?_ | refine pick_df (by first | assumption | omega) ?_ | refine pick_t (by first | rfl | assumption) ?_ | refine pick_f (by first | rfl | assumption) ?_ | refine pick_dt rfl ?_ | refine pick_df (not_not_intro rfl) ?_
    first | refine cond_split (fun hc1 => ?_) (fun hc1 => ?_) | refine cond_bsplit (fun hc1 => ?_) (fun hc1 => ?_)
    · refine valP_ok (sub_ok _ _ _ (by omega) (by omega) _) ?_
      first | refine valP_ok (fa23_0 _ _) ?_ | refine valP_ok (fao23_0 _ _ _) ?_
      first | refine valP_ok (ld3 (hS.cell 0 rfl rfl)) ?_ | refine valP_ok (ld3 (hS.cell 1 rfl rfl)) ?_ | refine valP_ok (ld3 (hS.cell 2 rfl rfl)) ?_ | refine valP_ok (ld3 (hS.cell 3 rfl rfl)) ?_ | refine valP_ok (ld3 (hS.cell 4 rfl rfl)) ?_ | refine valP_ok (ld3 (hS.cell 5 rfl rfl)) ?_ | refine valP_ok (ld3 (hS.cell 6 rfl rfl)) ?_ | refine valP_ok (ld3 (hS.cell 7 rfl rfl)) ?_ | refine valP_ok (ld3 (by assumption)) ?_
      refine valP_ok (leq_ok _ _ _ _ _ _ _) ?_
      first | refine pick_dt (by first | assumption | omega) ?_ | refine pick_df (by first | assumption | omega) ?_ | refine pick_t (by first | rfl | assumption) ?_ | refine pick_f (by first | rfl | assumption) ?_ | refine pick_dt rfl ?_ | refine pick_df (not_not_intro rfl) ?_
      unfold m37_4
      exact gapok_leaf hS.tail.tail.tail (by unfold NearS; simp only [decide_eq_true_eq, Bool.false_eq_true, false_iff, true_iff] <;> first | contradiction | omega)
    · first | refine pick_dt (by first | assumption | omega) ?_ | refine pick_df (by first | assumption | omega) ?_ | refine pick_t (by first | rfl | assumption) ?_ | refine pick_f (by first | rfl | assumption) ?_ | refine pick_dt rfl ?_ | refine pick_df (not_not_intro rfl) ?_
      unfold m37_4
      exact gapok_leaf hS.tail.tail.tail (by unfold NearS; simp only [decide_eq_true_eq, Bool.false_eq_true, false_iff, true_iff] <;> first | contradiction | omega)
  · first | refine pick_dt (by first | assumption | omega) ?_ | refine pick_df (by first | assumption | omega) ?_ | refine pick_t (by first | rfl | assumption) ?_ | refine pick_f (by first | rfl | assumption) ?_ | refine pick_dt rfl ?_ | refine pick_df (not_not_intro rfl) ?_
    first | refine cond_split (fun hc1 => ?_) (fun hc1 => ?_) | refine cond_bsplit (fun hc1 => ?_) (fun hc1 => ?_)
    · refine valP_ok (sub_ok _ _ _ (by omega) (by omega) _) ?_
      first | refine valP_ok (fa23_0 _ _) ?_ | refine valP_ok (fao23_0 _ _ _) ?_
      first | refine valP_ok (ld3 (hS.cell 0 rfl rfl)) ?_ | refine valP_ok (ld3 (hS.cell 1 rfl rfl)) ?_ | refine valP_ok (ld3 (hS.cell 2 rfl rfl)) ?_ | refine valP_ok (ld3 (hS.cell 3 rfl rfl)) ?_ | refine valP_ok (ld3 (hS.cell 4 rfl rfl)) ?_ | refine valP_ok (ld3 (hS.cell 5 rfl rfl)) ?_ | refine valP_ok (ld3 (hS.cell 6 rfl rfl)) ?_ | refine valP_ok (ld3 (hS.cell 7 rfl rfl)) ?_ | refine valP_ok (ld3 (by assumption)) ?_
      refine valP_ok (leq_ok _ _ _ _ _ _ _) ?_
      first | refine pick_dt (by first | assumption | omega) ?_ | refine pick_df (by first | assumption | omega) ?_ | refine pick_t (by first | rfl | assumption) ?_ | refine pick_f (by first | rfl | assumption) ?_ | refine pick_dt rfl ?_ | refine pick_df (not_not_intro rfl) ?_
      unfold m37_4
      exact gapok_leaf hS.tail.tail.tail (by unfold NearS; simp only [decide_eq_true_eq, Bool.false_eq_true, false_iff, true_iff] <;> first | contradiction | omega)
    · first | refine pick_dt (by first | assumption | omega) ?_ | refine pick_df (by first | assumption | omega) ?_ | refine pick_t (by first | rfl | assumption) ?_ | refine pick_f (by first | rfl | assumption) ?_ | refine pick_dt rfl ?_ | refine pick_df (not_not_intro rfl) ?_
      unfold m37_4
      exact gapok_leaf hS.tail.tail.tail (by unfold NearS; simp only [decide_eq_true_eq, Bool.false_eq_true, false_iff, true_iff] <;> first | contradiction | omega)
theorem one_ret (hg : GapOk g) (ht : TB l) (ht2 : TB l2) (hS : St w0 F w L) (hE : BE w0 F L A l) (hE2 : BE w0 F L A2 l2) :
    Ret Try.prog 29 #[gv g, spv key A l.length c, spv key2 A2 l2.length c2] w fun v w' => (∃ b, v = .bool b ∧ (b = true ↔ NearS g key l key2 l2)) ∧ St w0 F w' L := by
  have h1 := hg.gap
  have h2 := ht.f
  have h3 := ht.l
  have h4 := ht2.f
  have h5 := ht2.l
  have hE := fun a b c => ((hE.cons a).cons b).cons c
  have hE2 := fun a b c => ((hE2.cons a).cons b).cons c
  refine s29 _ _ _ ?_
  unfold m29
  unfold m29_0
  refine new_ok (bx23 _ _ _) hS ?_
  intro b3 w hS
  refine new_ok (bx33 _ _ _) hS ?_
  intro b4 w hS
  refine new_ok (bx33 _ _ _) hS ?_
  intro b5 w hS
  unfold m29_1
  refine drawn_ok hS ?_
  intro w hS
  refine held_Hs hS ?_
  first | refine valJ_ok (fa33_0 _) ?_ | refine valJ_ok (fao33_0 _ _) ?_
  first | refine valJ_load ld3 (Hs.cell 0 rfl rfl) ?_ | refine valJ_load ld3 (Hs.cell 1 rfl rfl) ?_ | refine valJ_load ld3 (Hs.cell 2 rfl rfl) ?_ | refine valJ_load ld3 (Hs.cell 3 rfl rfl) ?_ | refine valJ_load ld3 (Hs.cell 4 rfl rfl) ?_ | refine valJ_load ld3 (Hs.cell 5 rfl rfl) ?_ | refine valJ_load ld3 (Hs.cell 6 rfl rfl) ?_ | refine valJ_load ld3 (Hs.cell 7 rfl rfl) ?_ | refine valJ_load ld3 (by assumption) ?_
  first | refine valJ_ok (fa33_0 _) ?_ | refine valJ_ok (fao33_0 _ _) ?_
  first | refine valJ_load ld3 (Hs.cell 0 rfl rfl) ?_ | refine valJ_load ld3 (Hs.cell 1 rfl rfl) ?_ | refine valJ_load ld3 (Hs.cell 2 rfl rfl) ?_ | refine valJ_load ld3 (Hs.cell 3 rfl rfl) ?_ | refine valJ_load ld3 (Hs.cell 4 rfl rfl) ?_ | refine valJ_load ld3 (Hs.cell 5 rfl rfl) ?_ | refine valJ_load ld3 (Hs.cell 6 rfl rfl) ?_ | refine valJ_load ld3 (Hs.cell 7 rfl rfl) ?_ | refine valJ_load ld3 (by assumption) ?_
  refine valJ_ok (eq3 _ _ _ _) ?_
  refine cond_split (fun hk => ?_) (fun hk => ?_)
  · first | refine valJ_at (fun w hw => ld33 (Hs.cell 0 rfl rfl w hw) (Hs.cell 0 rfl rfl w hw)) ?_ | refine valJ_at (fun w hw => ld33 (Hs.cell 1 rfl rfl w hw) (Hs.cell 1 rfl rfl w hw)) ?_ | refine valJ_at (fun w hw => ld33 (Hs.cell 2 rfl rfl w hw) (Hs.cell 2 rfl rfl w hw)) ?_ | refine valJ_at (fun w hw => ld33 (Hs.cell 3 rfl rfl w hw) (Hs.cell 3 rfl rfl w hw)) ?_ | refine valJ_at (fun w hw => ld33 (Hs.cell 4 rfl rfl w hw) (Hs.cell 4 rfl rfl w hw)) ?_ | refine valJ_at (fun w hw => ld33 (Hs.cell 5 rfl rfl w hw) (Hs.cell 5 rfl rfl w hw)) ?_ | refine valJ_at (fun w hw => ld33 (Hs.cell 6 rfl rfl w hw) (Hs.cell 6 rfl rfl w hw)) ?_ | refine valJ_at (fun w hw => ld33 (Hs.cell 7 rfl rfl w hw) (Hs.cell 7 rfl rfl w hw)) ?_
    first | refine valJ_at (fun w hw => ld33 (Hs.cell 0 rfl rfl w hw) (Hs.cell 0 rfl rfl w hw)) ?_ | refine valJ_at (fun w hw => ld33 (Hs.cell 1 rfl rfl w hw) (Hs.cell 1 rfl rfl w hw)) ?_ | refine valJ_at (fun w hw => ld33 (Hs.cell 2 rfl rfl w hw) (Hs.cell 2 rfl rfl w hw)) ?_ | refine valJ_at (fun w hw => ld33 (Hs.cell 3 rfl rfl w hw) (Hs.cell 3 rfl rfl w hw)) ?_ | refine valJ_at (fun w hw => ld33 (Hs.cell 4 rfl rfl w hw) (Hs.cell 4 rfl rfl w hw)) ?_ | refine valJ_at (fun w hw => ld33 (Hs.cell 5 rfl rfl w hw) (Hs.cell 5 rfl rfl w hw)) ?_ | refine valJ_at (fun w hw => ld33 (Hs.cell 6 rfl rfl w hw) (Hs.cell 6 rfl rfl w hw)) ?_ | refine valJ_at (fun w hw => ld33 (Hs.cell 7 rfl rfl w hw) (Hs.cell 7 rfl rfl w hw)) ?_
    first | refine valJ_ok (fa23_0 _) ?_ | refine valJ_ok (fao23_0 _ _) ?_
    first | refine valJ_load ld3 (Hs.cell 0 rfl rfl) ?_ | refine valJ_load ld3 (Hs.cell 1 rfl rfl) ?_ | refine valJ_load ld3 (Hs.cell 2 rfl rfl) ?_ | refine valJ_load ld3 (Hs.cell 3 rfl rfl) ?_ | refine valJ_load ld3 (Hs.cell 4 rfl rfl) ?_ | refine valJ_load ld3 (Hs.cell 5 rfl rfl) ?_ | refine valJ_load ld3 (Hs.cell 6 rfl rfl) ?_ | refine valJ_load ld3 (Hs.cell 7 rfl rfl) ?_ | refine valJ_load ld3 (by assumption) ?_
    refine callR (by kernel_rfl) (first_ret hS (hE _ _ _) ht.pos) ?_
    rintro v w ⟨rfl, hS⟩
    refine stay_Hs hS (by first | exact fun _ h => h | exact fun _ h => .tail _ h | exact fun _ h => .tail _ (.tail _ h) | simp) ?_
    refine callR (by kernel_rfl) (last_ret hS (hE2 _ _ _) ht2.pos ht2.max) ?_
    rintro v w ⟨rfl, hS⟩
    refine stay_Hs hS (by first | exact fun _ h => h | exact fun _ h => .tail _ h | exact fun _ h => .tail _ (.tail _ h) | simp) ?_
    refine valJ_ok (sub_ok _ _ _ (by omega) (by omega)) ?_
    refine valJ_ok (leq_ok _ _ _ _ _ _) ?_
    first | refine pick_dt (by first | assumption | omega) ?_ | refine pick_df (by first | assumption | omega) ?_ | refine pick_t (by first | rfl | assumption) ?_ | refine pick_f (by first | rfl | assumption) ?_ | refine pick_dt rfl ?_ | refine pick_df (not_not_intro rfl) ?_
    refine cond_split (fun hc => ?_) (fun hc => ?_)
    · first | refine valJ_at (fun w hw => ld33 (Hs.cell 0 rfl rfl w hw) (Hs.cell 0 rfl rfl w hw)) ?_ | refine valJ_at (fun w hw => ld33 (Hs.cell 1 rfl rfl w hw) (Hs.cell 1 rfl rfl w hw)) ?_ | refine valJ_at (fun w hw => ld33 (Hs.cell 2 rfl rfl w hw) (Hs.cell 2 rfl rfl w hw)) ?_ | refine valJ_at (fun w hw => ld33 (Hs.cell 3 rfl rfl w hw) (Hs.cell 3 rfl rfl w hw)) ?_ | refine valJ_at (fun w hw => ld33 (Hs.cell 4 rfl rfl w hw) (Hs.cell 4 rfl rfl w hw)) ?_ | refine valJ_at (fun w hw => ld33 (Hs.cell 5 rfl rfl w hw) (Hs.cell 5 rfl rfl w hw)) ?_ | refine valJ_at (fun w hw => ld33 (Hs.cell 6 rfl rfl w hw) (Hs.cell 6 rfl rfl w hw)) ?_ | refine valJ_at (fun w hw => ld33 (Hs.cell 7 rfl rfl w hw) (Hs.cell 7 rfl rfl w hw)) ?_
      first | refine valJ_at (fun w hw => ld33 (Hs.cell 0 rfl rfl w hw) (Hs.cell 0 rfl rfl w hw)) ?_ | refine valJ_at (fun w hw => ld33 (Hs.cell 1 rfl rfl w hw) (Hs.cell 1 rfl rfl w hw)) ?_ | refine valJ_at (fun w hw => ld33 (Hs.cell 2 rfl rfl w hw) (Hs.cell 2 rfl rfl w hw)) ?_ | refine valJ_at (fun w hw => ld33 (Hs.cell 3 rfl rfl w hw) (Hs.cell 3 rfl rfl w hw)) ?_ | refine valJ_at (fun w hw => ld33 (Hs.cell 4 rfl rfl w hw) (Hs.cell 4 rfl rfl w hw)) ?_ | refine valJ_at (fun w hw => ld33 (Hs.cell 5 rfl rfl w hw) (Hs.cell 5 rfl rfl w hw)) ?_ | refine valJ_at (fun w hw => ld33 (Hs.cell 6 rfl rfl w hw) (Hs.cell 6 rfl rfl w hw)) ?_ | refine valJ_at (fun w hw => ld33 (Hs.cell 7 rfl rfl w hw) (Hs.cell 7 rfl rfl w hw)) ?_
      first | refine valJ_ok (fa23_0 _) ?_ | refine valJ_ok (fao23_0 _ _) ?_
      first | refine valJ_load ld3 (Hs.cell 0 rfl rfl) ?_ | refine valJ_load ld3 (Hs.cell 1 rfl rfl) ?_ | refine valJ_load ld3 (Hs.cell 2 rfl rfl) ?_ | refine valJ_load ld3 (Hs.cell 3 rfl rfl) ?_ | refine valJ_load ld3 (Hs.cell 4 rfl rfl) ?_ | refine valJ_load ld3 (Hs.cell 5 rfl rfl) ?_ | refine valJ_load ld3 (Hs.cell 6 rfl rfl) ?_ | refine valJ_load ld3 (Hs.cell 7 rfl rfl) ?_ | refine valJ_load ld3 (by assumption) ?_
      refine callR (by kernel_rfl) (first_ret hS (hE2 _ _ _) ht2.pos) ?_
      rintro v w ⟨rfl, hS⟩
      refine stay_Hs hS (by first | exact fun _ h => h | exact fun _ h => .tail _ h | exact fun _ h => .tail _ (.tail _ h) | simp) ?_
      refine callR (by kernel_rfl) (last_ret hS (hE _ _ _) ht.pos ht.max) ?_
      rintro v w ⟨rfl, hS⟩
      refine stay_Hs hS (by first | exact fun _ h => h | exact fun _ h => .tail _ h | exact fun _ h => .tail _ (.tail _ h) | simp) ?_
      refine valJ_ok (sub_ok _ _ _ (by omega) (by omega)) ?_
      refine valJ_ok (leq_ok _ _ _ _ _ _) ?_
      first | refine pick_dt (by first | assumption | omega) ?_ | refine pick_df (by first | assumption | omega) ?_ | refine pick_t (by first | rfl | assumption) ?_ | refine pick_f (by first | rfl | assumption) ?_ | refine pick_dt rfl ?_ | refine pick_df (not_not_intro rfl) ?_
      unfold m29_2
      exact gapok_leaf hS.tail.tail.tail (by unfold NearS; simp only [decide_eq_true_eq] <;> omega)
    · first | refine pick_dt (by first | assumption | omega) ?_ | refine pick_df (by first | assumption | omega) ?_ | refine pick_t (by first | rfl | assumption) ?_ | refine pick_f (by first | rfl | assumption) ?_ | refine pick_dt rfl ?_ | refine pick_df (not_not_intro rfl) ?_
      unfold m29_2
      exact gapok_leaf hS.tail.tail.tail (by unfold NearS; simp only [Bool.false_eq_true, false_iff] <;> omega)
  · first | refine pick_dt (by first | assumption | omega) ?_ | refine pick_df (by first | assumption | omega) ?_ | refine pick_t (by first | rfl | assumption) ?_ | refine pick_f (by first | rfl | assumption) ?_ | refine pick_dt rfl ?_ | refine pick_df (not_not_intro rfl) ?_
    first | refine pick_dt (by first | assumption | omega) ?_ | refine pick_df (by first | assumption | omega) ?_ | refine pick_t (by first | rfl | assumption) ?_ | refine pick_f (by first | rfl | assumption) ?_ | refine pick_dt rfl ?_ | refine pick_df (not_not_intro rfl) ?_
    unfold m29_2
    exact gapok_leaf hS.tail.tail.tail (by unfold NearS; simp only [Bool.false_eq_true, false_iff] <;> omega)
theorem before_ret (hn : 0 < l.length) (hn2 : 0 < l2.length) (hS : St w0 F w L) (hE : BE w0 F L A l) (hE2 : BE w0 F L A2 l2) :
    Ret Try.prog 38 #[spv key A l.length c, spv key2 A2 l2.length c2] w fun v w' => (∃ b, v = .bool b ∧ (b = true ↔ BeforeS key l key2 l2)) ∧ St w0 F w' L := by
  have hE := fun a b => (hE.cons a).cons b
  have hE2 := fun a b => (hE2.cons a).cons b
  refine s38 _ _ ?_
  unfold m38
  unfold m38_0
  refine new_ok (bx33 _ _ _) hS ?_
  intro b2 w hS
  refine new_ok (bx33 _ _ _) hS ?_
  intro b3 w hS
  unfold m38_1
  refine drawn_ok hS ?_
  intro w hS
  refine held_Hs hS ?_
  first | refine valJ_at (fun w hw => ld33 (Hs.cell 0 rfl rfl w hw) (Hs.cell 0 rfl rfl w hw)) ?_ | refine valJ_at (fun w hw => ld33 (Hs.cell 1 rfl rfl w hw) (Hs.cell 1 rfl rfl w hw)) ?_ | refine valJ_at (fun w hw => ld33 (Hs.cell 2 rfl rfl w hw) (Hs.cell 2 rfl rfl w hw)) ?_ | refine valJ_at (fun w hw => ld33 (Hs.cell 3 rfl rfl w hw) (Hs.cell 3 rfl rfl w hw)) ?_ | refine valJ_at (fun w hw => ld33 (Hs.cell 4 rfl rfl w hw) (Hs.cell 4 rfl rfl w hw)) ?_ | refine valJ_at (fun w hw => ld33 (Hs.cell 5 rfl rfl w hw) (Hs.cell 5 rfl rfl w hw)) ?_ | refine valJ_at (fun w hw => ld33 (Hs.cell 6 rfl rfl w hw) (Hs.cell 6 rfl rfl w hw)) ?_ | refine valJ_at (fun w hw => ld33 (Hs.cell 7 rfl rfl w hw) (Hs.cell 7 rfl rfl w hw)) ?_
  first | refine valJ_at (fun w hw => ld33 (Hs.cell 0 rfl rfl w hw) (Hs.cell 0 rfl rfl w hw)) ?_ | refine valJ_at (fun w hw => ld33 (Hs.cell 1 rfl rfl w hw) (Hs.cell 1 rfl rfl w hw)) ?_ | refine valJ_at (fun w hw => ld33 (Hs.cell 2 rfl rfl w hw) (Hs.cell 2 rfl rfl w hw)) ?_ | refine valJ_at (fun w hw => ld33 (Hs.cell 3 rfl rfl w hw) (Hs.cell 3 rfl rfl w hw)) ?_ | refine valJ_at (fun w hw => ld33 (Hs.cell 4 rfl rfl w hw) (Hs.cell 4 rfl rfl w hw)) ?_ | refine valJ_at (fun w hw => ld33 (Hs.cell 5 rfl rfl w hw) (Hs.cell 5 rfl rfl w hw)) ?_ | refine valJ_at (fun w hw => ld33 (Hs.cell 6 rfl rfl w hw) (Hs.cell 6 rfl rfl w hw)) ?_ | refine valJ_at (fun w hw => ld33 (Hs.cell 7 rfl rfl w hw) (Hs.cell 7 rfl rfl w hw)) ?_
  refine callR (by kernel_rfl) (first_ret hS (hE _ _) hn) ?_
  rintro v w ⟨rfl, hS⟩
  refine stay_Hs hS (by first | exact fun _ h => h | exact fun _ h => .tail _ h | exact fun _ h => .tail _ (.tail _ h) | simp) ?_
  refine callR (by kernel_rfl) (first_ret hS (hE2 _ _) hn2) ?_
  rintro v w ⟨rfl, hS⟩
  refine stay_Hs hS (by first | exact fun _ h => h | exact fun _ h => .tail _ h | exact fun _ h => .tail _ (.tail _ h) | simp) ?_
  refine valJ_ok (lss_ok _ _ _ _ _ _) ?_
  refine cond_split (fun h1 => ?_) (fun h1 => ?_)
  · first | refine pick_dt (by first | assumption | omega) ?_ | refine pick_df (by first | assumption | omega) ?_ | refine pick_t (by first | rfl | assumption) ?_ | refine pick_f (by first | rfl | assumption) ?_ | refine pick_dt rfl ?_ | refine pick_df (not_not_intro rfl) ?_
    unfold m38_2
    exact gapok_leaf hS.tail.tail (by unfold BeforeS; simp only [true_iff] <;> omega)
  · first | refine valJ_at (fun w hw => ld33 (Hs.cell 0 rfl rfl w hw) (Hs.cell 0 rfl rfl w hw)) ?_ | refine valJ_at (fun w hw => ld33 (Hs.cell 1 rfl rfl w hw) (Hs.cell 1 rfl rfl w hw)) ?_ | refine valJ_at (fun w hw => ld33 (Hs.cell 2 rfl rfl w hw) (Hs.cell 2 rfl rfl w hw)) ?_ | refine valJ_at (fun w hw => ld33 (Hs.cell 3 rfl rfl w hw) (Hs.cell 3 rfl rfl w hw)) ?_ | refine valJ_at (fun w hw => ld33 (Hs.cell 4 rfl rfl w hw) (Hs.cell 4 rfl rfl w hw)) ?_ | refine valJ_at (fun w hw => ld33 (Hs.cell 5 rfl rfl w hw) (Hs.cell 5 rfl rfl w hw)) ?_ | refine valJ_at (fun w hw => ld33 (Hs.cell 6 rfl rfl w hw) (Hs.cell 6 rfl rfl w hw)) ?_ | refine valJ_at (fun w hw => ld33 (Hs.cell 7 rfl rfl w hw) (Hs.cell 7 rfl rfl w hw)) ?_
    first | refine valJ_at (fun w hw => ld33 (Hs.cell 0 rfl rfl w hw) (Hs.cell 0 rfl rfl w hw)) ?_ | refine valJ_at (fun w hw => ld33 (Hs.cell 1 rfl rfl w hw) (Hs.cell 1 rfl rfl w hw)) ?_ | refine valJ_at (fun w hw => ld33 (Hs.cell 2 rfl rfl w hw) (Hs.cell 2 rfl rfl w hw)) ?_ | refine valJ_at (fun w hw => ld33 (Hs.cell 3 rfl rfl w hw) (Hs.cell 3 rfl rfl w hw)) ?_ | refine valJ_at (fun w hw => ld33 (Hs.cell 4 rfl rfl w hw) (Hs.cell 4 rfl rfl w hw)) ?_ | refine valJ_at (fun w hw => ld33 (Hs.cell 5 rfl rfl w hw) (Hs.cell 5 rfl rfl w hw)) ?_ | refine valJ_at (fun w hw => ld33 (Hs.cell 6 rfl rfl w hw) (Hs.cell 6 rfl rfl w hw)) ?_ | refine valJ_at (fun w hw => ld33 (Hs.cell 7 rfl rfl w hw) (Hs.cell 7 rfl rfl w hw)) ?_
    refine callR (by kernel_rfl) (first_ret hS (hE _ _) hn) ?_
    rintro v w ⟨rfl, hS⟩
    refine stay_Hs hS (by first | exact fun _ h => h | exact fun _ h => .tail _ h | exact fun _ h => .tail _ (.tail _ h) | simp) ?_
    refine callR (by kernel_rfl) (first_ret hS (hE2 _ _) hn2) ?_
    rintro v w ⟨rfl, hS⟩
    refine stay_Hs hS (by first | exact fun _ h => h | exact fun _ h => .tail _ h | exact fun _ h => .tail _ (.tail _ h) | simp) ?_
    refine valJ_ok (eq3 _ _ _ _) ?_
    refine cond_split (fun h2 => ?_) (fun h2 => ?_)
    · first | refine valJ_ok (fa33_0 _) ?_ | refine valJ_ok (fao33_0 _ _) ?_
      first | refine valJ_load ld3 (Hs.cell 0 rfl rfl) ?_ | refine valJ_load ld3 (Hs.cell 1 rfl rfl) ?_ | refine valJ_load ld3 (Hs.cell 2 rfl rfl) ?_ | refine valJ_load ld3 (Hs.cell 3 rfl rfl) ?_ | refine valJ_load ld3 (Hs.cell 4 rfl rfl) ?_ | refine valJ_load ld3 (Hs.cell 5 rfl rfl) ?_ | refine valJ_load ld3 (Hs.cell 6 rfl rfl) ?_ | refine valJ_load ld3 (Hs.cell 7 rfl rfl) ?_ | refine valJ_load ld3 (by assumption) ?_
      first | refine valJ_ok (fa33_0 _) ?_ | refine valJ_ok (fao33_0 _ _) ?_
      first | refine valJ_load ld3 (Hs.cell 0 rfl rfl) ?_ | refine valJ_load ld3 (Hs.cell 1 rfl rfl) ?_ | refine valJ_load ld3 (Hs.cell 2 rfl rfl) ?_ | refine valJ_load ld3 (Hs.cell 3 rfl rfl) ?_ | refine valJ_load ld3 (Hs.cell 4 rfl rfl) ?_ | refine valJ_load ld3 (Hs.cell 5 rfl rfl) ?_ | refine valJ_load ld3 (Hs.cell 6 rfl rfl) ?_ | refine valJ_load ld3 (Hs.cell 7 rfl rfl) ?_ | refine valJ_load ld3 (by assumption) ?_
      refine valJ_ok (lss_ok _ _ _ _ _ _) ?_
      first | refine pick_dt (by first | assumption | omega) ?_ | refine pick_df (by first | assumption | omega) ?_ | refine pick_t (by first | rfl | assumption) ?_ | refine pick_f (by first | rfl | assumption) ?_ | refine pick_dt rfl ?_ | refine pick_df (not_not_intro rfl) ?_
      first | refine pick_dt (by first | assumption | omega) ?_ | refine pick_df (by first | assumption | omega) ?_ | refine pick_t (by first | rfl | assumption) ?_ | refine pick_f (by first | rfl | assumption) ?_ | refine pick_dt rfl ?_ | refine pick_df (not_not_intro rfl) ?_
      unfold m38_2
      exact gapok_leaf hS.tail.tail (by unfold BeforeS; simp only [decide_eq_true_eq] <;> omega)
    · first | refine pick_dt (by first | assumption | omega) ?_ | refine pick_df (by first | assumption | omega) ?_ | refine pick_t (by first | rfl | assumption) ?_ | refine pick_f (by first | rfl | assumption) ?_ | refine pick_dt rfl ?_ | refine pick_df (not_not_intro rfl) ?_
      first | refine pick_dt (by first | assumption | omega) ?_ | refine pick_df (by first | assumption | omega) ?_ | refine pick_t (by first | rfl | assumption) ?_ | refine pick_f (by first | rfl | assumption) ?_ | refine pick_dt rfl ?_ | refine pick_df (not_not_intro rfl) ?_
      unfold m38_2
      exact gapok_leaf hS.tail.tail (by unfold BeforeS; simp only [Bool.false_eq_true, false_iff] <;> omega)
end
theorem bytime_cmp : CmpK Try.prog 45 #[] encE byT := by
  intro a b W
  show Ret Try.prog 45 #[.agg #[.int .i64 a.t, .int .i64 a.v], .agg #[.int .i64 b.t, .int .i64 b.v]] W _
  have hS : StG W W [] := ⟨St.start W, Gr.refl W⟩
  refine s45 _ _ ?_
  unfold m45
  unfold m45_0
  refine new_okG (bx28 _ _ _) hS ?_
  intro b2 w hS
  refine new_okG (bx28 _ _ _) hS ?_
  intro b3 w hS
  unfold m45_1
  refine drawn_okG hS ?_
  intro w hS
  refine held_Hs hS.1 ?_
  first | refine valJ_ok (fa28_0 _) ?_ | refine valJ_ok (fao28_0 _ _) ?_
  first | refine valJ_load ld3 (Hs.cell 0 rfl rfl) ?_ | refine valJ_load ld3 (Hs.cell 1 rfl rfl) ?_ | refine valJ_load ld3 (Hs.cell 2 rfl rfl) ?_ | refine valJ_load ld3 (Hs.cell 3 rfl rfl) ?_ | refine valJ_load ld3 (Hs.cell 4 rfl rfl) ?_ | refine valJ_load ld3 (Hs.cell 5 rfl rfl) ?_ | refine valJ_load ld3 (Hs.cell 6 rfl rfl) ?_ | refine valJ_load ld3 (Hs.cell 7 rfl rfl) ?_ | refine valJ_load ld3 (by assumption) ?_
  first | refine valJ_ok (fa28_0 _) ?_ | refine valJ_ok (fao28_0 _ _) ?_
  first | refine valJ_load ld3 (Hs.cell 0 rfl rfl) ?_ | refine valJ_load ld3 (Hs.cell 1 rfl rfl) ?_ | refine valJ_load ld3 (Hs.cell 2 rfl rfl) ?_ | refine valJ_load ld3 (Hs.cell 3 rfl rfl) ?_ | refine valJ_load ld3 (Hs.cell 4 rfl rfl) ?_ | refine valJ_load ld3 (Hs.cell 5 rfl rfl) ?_ | refine valJ_load ld3 (Hs.cell 6 rfl rfl) ?_ | refine valJ_load ld3 (Hs.cell 7 rfl rfl) ?_ | refine valJ_load ld3 (by assumption) ?_
  first | refine valJ_ok (fa28_1 _) ?_ | refine valJ_ok (fao28_1 _ _) ?_
  first | refine valJ_load ld3 (Hs.cell 0 rfl rfl) ?_ | refine valJ_load ld3 (Hs.cell 1 rfl rfl) ?_ | refine valJ_load ld3 (Hs.cell 2 rfl rfl) ?_ | refine valJ_load ld3 (Hs.cell 3 rfl rfl) ?_ | refine valJ_load ld3 (Hs.cell 4 rfl rfl) ?_ | refine valJ_load ld3 (Hs.cell 5 rfl rfl) ?_ | refine valJ_load ld3 (Hs.cell 6 rfl rfl) ?_ | refine valJ_load ld3 (Hs.cell 7 rfl rfl) ?_ | refine valJ_load ld3 (by assumption) ?_
  first | refine valJ_ok (fa28_1 _) ?_ | refine valJ_ok (fao28_1 _ _) ?_
  first | refine valJ_load ld3 (Hs.cell 0 rfl rfl) ?_ | refine valJ_load ld3 (Hs.cell 1 rfl rfl) ?_ | refine valJ_load ld3 (Hs.cell 2 rfl rfl) ?_ | refine valJ_load ld3 (Hs.cell 3 rfl rfl) ?_ | refine valJ_load ld3 (Hs.cell 4 rfl rfl) ?_ | refine valJ_load ld3 (Hs.cell 5 rfl rfl) ?_ | refine valJ_load ld3 (Hs.cell 6 rfl rfl) ?_ | refine valJ_load ld3 (Hs.cell 7 rfl rfl) ?_ | refine valJ_load ld3 (by assumption) ?_
  refine callR (by kernel_rfl) (compare_ret _ _ _) ?_
  rintro v w ⟨rfl, rfl⟩
  refine stay_Hs hS.1 (by first | exact fun _ h => h | exact fun _ h => .tail _ h | exact fun _ h => .tail _ (.tail _ h) | simp) ?_
  refine callR (by kernel_rfl) (compare_ret _ _ _) ?_
  rintro v w ⟨rfl, rfl⟩
  refine stay_Hs hS.1 (by first | exact fun _ h => h | exact fun _ h => .tail _ h | exact fun _ h => .tail _ (.tail _ h) | simp) ?_
  refine newslice_okG (bs90_2 rfl rfl _) hS ?_
  intro b15 w hS
  refine stay_Hs hS.1 (by first | exact fun _ h => h | exact fun _ h => .tail _ h | exact fun _ h => .tail _ (.tail _ h) | simp) ?_
  refine callR (by kernel_rfl) (or_ret _ _ [cmpI a.t b.t, cmpI a.v b.v] w (Rd.of_cells 0 hS.1 rfl rfl) (by simp)) ?_
  rintro v w ⟨rfl, rfl⟩
  refine stay_Hs hS.1 (by first | exact fun _ h => h | exact fun _ h => .tail _ h | exact fun _ h => .tail _ (.tail _ h) | simp) ?_
  unfold m45_2
  exact ⟨rfl, hS.2⟩
theorem bystart_cmp {W : World} {key key2 : Int} {A A2 : Option Addr} {c c2 : Nat} {l l2 : List Ev} (hn : 0 < l.length) (hn2 : 0 < l2.length) (hr : Rd W 2 A l.length (l.flatMap encE)) (hr2 : Rd W 2 A2 l2.length (l2.flatMap encE)) :
    Ret Try.prog 34 #[spv key A l.length c, spv key2 A2 l2.length c2] W fun v w' => v = .int .i64 (byS key l key2 l2) ∧ Gr W w' := by
  have hS : StG W W [] := ⟨St.start W, Gr.refl W⟩
  obtain ⟨b, o, rfl⟩ := hr.some_ hn (by omega)
  obtain ⟨b2, o2, rfl⟩ := hr2.some_ hn2 (by omega)
  have hB : ∀ L, Bes W [] L 2 (some ⟨b, o, none⟩) l.length (l.flatMap encE) := fun L => Bes.of_old0 hr
  have hB2 : ∀ L, Bes W [] L 2 (some ⟨b2, o2, none⟩) l2.length (l2.flatMap encE) := fun L => Bes.of_old0 hr2
  refine s34 _ _ ?_
  unfold m34
  unfold m34_0
  refine new_okG (bx33 _ _ _) hS ?_
  intro b2 w hS
  refine new_okG (bx33 _ _ _) hS ?_
  intro b3 w hS
  unfold m34_1
  refine drawn_okG hS ?_
  intro w hS
  refine held_Hs hS.1 ?_
  first | refine valJ_ok (fa33_1 _) ?_ | refine valJ_ok (fao33_1 _ _) ?_
  first | refine valJ_load ld31 (Hs.cell 0 rfl rfl) ?_ | refine valJ_load ld31 (Hs.cell 1 rfl rfl) ?_ | refine valJ_load ld31 (Hs.cell 2 rfl rfl) ?_ | refine valJ_load ld31 (Hs.cell 3 rfl rfl) ?_ | refine valJ_load ld31 (Hs.cell 4 rfl rfl) ?_ | refine valJ_load ld31 (Hs.cell 5 rfl rfl) ?_ | refine valJ_load ld31 (Hs.cell 6 rfl rfl) ?_ | refine valJ_load ld31 (Hs.cell 7 rfl rfl) ?_ | refine valJ_load ld31 (by assumption) ?_
  refine valJ_ok (ix31 (k := 0) hn) ?_
  refine valJ_ok (fao28_0 _ _) ?_
  refine valJ_load ld3 (fun w hw => (ev_at (Hs.rd (hB _) w hw) hn).1) ?_
  first | refine valJ_ok (fa33_1 _) ?_ | refine valJ_ok (fao33_1 _ _) ?_
  first | refine valJ_load ld31 (Hs.cell 0 rfl rfl) ?_ | refine valJ_load ld31 (Hs.cell 1 rfl rfl) ?_ | refine valJ_load ld31 (Hs.cell 2 rfl rfl) ?_ | refine valJ_load ld31 (Hs.cell 3 rfl rfl) ?_ | refine valJ_load ld31 (Hs.cell 4 rfl rfl) ?_ | refine valJ_load ld31 (Hs.cell 5 rfl rfl) ?_ | refine valJ_load ld31 (Hs.cell 6 rfl rfl) ?_ | refine valJ_load ld31 (Hs.cell 7 rfl rfl) ?_ | refine valJ_load ld31 (by assumption) ?_
  refine valJ_ok (ix31 (k := 0) hn2) ?_
  refine valJ_ok (fao28_0 _ _) ?_
  refine valJ_load ld3 (fun w hw => (ev_at (Hs.rd (hB2 _) w hw) hn2).1) ?_
  first | refine valJ_ok (fa33_0 _) ?_ | refine valJ_ok (fao33_0 _ _) ?_
  first | refine valJ_load ld3 (Hs.cell 0 rfl rfl) ?_ | refine valJ_load ld3 (Hs.cell 1 rfl rfl) ?_ | refine valJ_load ld3 (Hs.cell 2 rfl rfl) ?_ | refine valJ_load ld3 (Hs.cell 3 rfl rfl) ?_ | refine valJ_load ld3 (Hs.cell 4 rfl rfl) ?_ | refine valJ_load ld3 (Hs.cell 5 rfl rfl) ?_ | refine valJ_load ld3 (Hs.cell 6 rfl rfl) ?_ | refine valJ_load ld3 (Hs.cell 7 rfl rfl) ?_ | refine valJ_load ld3 (by assumption) ?_
  first | refine valJ_ok (fa33_0 _) ?_ | refine valJ_ok (fao33_0 _ _) ?_
  first | refine valJ_load ld3 (Hs.cell 0 rfl rfl) ?_ | refine valJ_load ld3 (Hs.cell 1 rfl rfl) ?_ | refine valJ_load ld3 (Hs.cell 2 rfl rfl) ?_ | refine valJ_load ld3 (Hs.cell 3 rfl rfl) ?_ | refine valJ_load ld3 (Hs.cell 4 rfl rfl) ?_ | refine valJ_load ld3 (Hs.cell 5 rfl rfl) ?_ | refine valJ_load ld3 (Hs.cell 6 rfl rfl) ?_ | refine valJ_load ld3 (Hs.cell 7 rfl rfl) ?_ | refine valJ_load ld3 (by assumption) ?_
  refine callR (by kernel_rfl) (compare_ret _ _ _) ?_
  rintro v w ⟨rfl, rfl⟩
  refine stay_Hs hS.1 (by first | exact fun _ h => h | exact fun _ h => .tail _ h | exact fun _ h => .tail _ (.tail _ h) | simp) ?_
  refine callR (by kernel_rfl) (compare_ret _ _ _) ?_
  rintro v w ⟨rfl, rfl⟩
  refine stay_Hs hS.1 (by first | exact fun _ h => h | exact fun _ h => .tail _ h | exact fun _ h => .tail _ (.tail _ h) | simp) ?_
  refine newslice_okG (bs90_2 rfl rfl _) hS ?_
  intro b21 w hS
  refine stay_Hs hS.1 (by first | exact fun _ h => h | exact fun _ h => .tail _ h | exact fun _ h => .tail _ (.tail _ h) | simp) ?_
  refine callR (by kernel_rfl) (or_ret _ _ [cmpI l[0].t l2[0].t, cmpI key key2] w (Rd.of_cells 0 hS.1 rfl rfl) (by simp)) ?_
  rintro v w ⟨rfl, rfl⟩
  refine stay_Hs hS.1 (by first | exact fun _ h => h | exact fun _ h => .tail _ h | exact fun _ h => .tail _ (.tail _ h) | simp) ?_
  unfold m34_2
  exact ⟨by unfold byS; rw [fT_eq hn, fT_eq hn2], hS.2⟩

end Go.Proofs.Ytojgdmcojmllkaa.M
