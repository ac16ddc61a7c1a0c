/- Windows' sizes: May, Closed, Starts. -/
import Derived.Test.YtnhgdngbdoifnaaK1
import Derived.Test.YtnhgdngbdoifnaaFwW
import Derived.Test.YtnhgdngbdoifnaaMbase0
import Derived.Test.YtnhgdngbdoifnaaMgrid0
namespace Go.Proofs.Ytnhgdngbdoifnaa.M
open Go.Proofs.Ytnhgdngbdoifnaa.F Go.RowKit
set_option linter.unusedVariables false
set_option linter.unusedSimpArgs false
set_option maxRecDepth 100000
set_option maxHeartbeats 2000000
attribute [local irreducible] Res.cells Res.row Res.map Res.any World.cell? World.frozen? Instr.fieldAt Instr.loadAt Instr.storeAt Instr.indexAt Instr.lookup Instr.mapUpdate Instr.box Instr.build Instr.buildSlice Instr.extract Instr.alloc Instr.field Instr.index Instr.sliceAt Instr.makeSlice Instr.makeMap Instr.makeFunc binS Op.unary Sem.run
structure Gr where
  size : Int
  hop : Int
  late : Int
abbrev encGr (g : Gr) : List Value := [.int .i64 g.size, .int .i64 g.hop, .int .i64 g.late]
abbrev grv (g : Gr) : Value := .agg #[.int .i64 g.size, .int .i64 g.hop, .int .i64 g.late]
def MayG (g : Gr) : Prop := (1 ≤ g.size ∧ g.size ≤ 1048576 ∧ 1 ≤ g.hop ∧ g.hop ≤ g.size ∧ 0 ≤ g.late ∧ g.late ≤ 1048576) ∧ ∃ k : Int, 1 ≤ k ∧ k ≤ 8 ∧ k * g.hop = g.size
def ClosedG (g : Gr) (start mark : Int) : Prop := MayG g ∧ 0 ≤ mark ∧ start ≤ mark - (g.size + g.late)
abbrev iEnc (x : Int) : List Value := [.int .i64 x]
abbrev iRow (A : Option Addr) (c : Nat) (l : List Int) : Res := Res.row 3 1 (.slice A l.length c) l.length (l.flatMap iEnc)
theorem iFlat (l : List Int) : l.flatMap iEnc = l.map (Value.int .i64) := by
  induction l with
  | nil => rfl
  | cons a l ih => rw [List.flatMap_cons, ih]; rfl
theorem iEnc_len : ∀ x, (iEnc x).length = 1 := fun _ => rfl
theorem iEnc_one : ∀ x, ∀ u ∈ iEnc x, u.oneCell' = true := fun x u hu => by
  obtain rfl := List.mem_singleton.1 hu
  rfl
section
variable {w0 w : World} {F : List Nat} {L : List Res} {g : Gr}
theorem gmay_ret (hS : St w0 F w L) : Ret Try.prog 27 #[grv g] w fun v w' => (∃ t, v = .bool t ∧ (t = true ↔ MayG g)) ∧ St w0 F w' L := by
  refine s27 _ ?_
  unfold m27
  unfold m27_0
  refine new_ok (bx23 _ _ _ _) hS ?_
  intro b1 w hS
  have leaf : ∀ t : Bool, (t = true ↔ ¬ (1 ≤ g.size ∧ g.size ≤ 1048576 ∧ 1 ≤ g.hop ∧ g.hop ≤ g.size ∧ 0 ≤ g.late ∧ g.late ≤ 1048576)) → m27_12 (fun v w' => (∃ t, v = .bool t ∧ (t = true ↔ MayG g)) ∧ St w0 F w' L) (.pointer (some ⟨b1, 0, none⟩)) (.bool t) w := fun t ht => by
    unfold m27_12
    cases t with
    | true =>
      refine cond_t rfl ?_
      unfold m27_13
      exact ⟨⟨_, rfl, ⟨fun h => (by cases h), fun h => absurd h.1 (ht.1 rfl)⟩⟩, hS.tail⟩
    | false =>
      have h : 1 ≤ g.size ∧ g.size ≤ 1048576 ∧ 1 ≤ g.hop ∧ g.hop ≤ g.size ∧ 0 ≤ g.late ∧ g.late ≤ 1048576 := Classical.byContradiction fun h => by have := ht.2 h; cases this
      refine cond_f rfl ?_
      unfold m27_2 m27_5
      refine loop_in (fun u w' => ∃ k : Nat, u = .int .i64 (k : Int) ∧ 1 ≤ k ∧ k ≤ 9 ∧ (∀ j : Int, 1 ≤ j → j < k → ¬ j * g.hop = g.size) ∧ St w0 F w' (Res.cells b1 23 (encGr g) :: L)) (fun u _ => 9 - (intOf u).toNat) ⟨1, rfl, by omega, by omega, fun j h1 h2 => by omega, hS⟩ ?_
      clear hS
      rintro u w ⟨k, rfl, hk1, hk9, hno, hS⟩
      unfold m27_6
      refine valP_ok (leq_ok _ _ _ _ _ _ _) ?_
      unfold m27_11
      refine cond_split (fun h1 => ?_) (fun h1 => ?_)
      · have hm1 : 0 ≤ (k : Int) * g.hop := Int.mul_nonneg (by omega) (by omega)
        have hm2 : (k : Int) * g.hop ≤ 9 * 1048576 := Int.mul_le_mul (by omega) (by omega) (by omega) (by omega)
        unfold m27_7
        first | refine valP_ok (fa23_1 _ _) ?_ | refine valP_ok (fao23_1 _ _ _) ?_
        first | refine valP_ok (ld3 (hS.cell 0 rfl rfl)) ?_ | refine valP_ok (ld3 (hS.cell 1 rfl rfl)) ?_ | refine valP_ok (ld3 (hS.cell 2 rfl rfl)) ?_ | refine valP_ok (ld3 (hS.cell 3 rfl rfl)) ?_ | refine valP_ok (ld3 (hS.cell 4 rfl rfl)) ?_ | refine valP_ok (ld3 (hS.cell 5 rfl rfl)) ?_ | refine valP_ok (ld3 (hS.cell 6 rfl rfl)) ?_ | refine valP_ok (ld3 (hS.cell 7 rfl rfl)) ?_ | refine valP_ok (ld3 (by assumption)) ?_
        refine valP_ok (mul_ok _ _ _ (by omega) (by omega) _) ?_
        first | refine valP_ok (fa23_0 _ _) ?_ | refine valP_ok (fao23_0 _ _ _) ?_
        first | refine valP_ok (ld3 (hS.cell 0 rfl rfl)) ?_ | refine valP_ok (ld3 (hS.cell 1 rfl rfl)) ?_ | refine valP_ok (ld3 (hS.cell 2 rfl rfl)) ?_ | refine valP_ok (ld3 (hS.cell 3 rfl rfl)) ?_ | refine valP_ok (ld3 (hS.cell 4 rfl rfl)) ?_ | refine valP_ok (ld3 (hS.cell 5 rfl rfl)) ?_ | refine valP_ok (ld3 (hS.cell 6 rfl rfl)) ?_ | refine valP_ok (ld3 (hS.cell 7 rfl rfl)) ?_ | refine valP_ok (ld3 (by assumption)) ?_
        refine valP_ok (eq3 _ _ _ _ _) ?_
        unfold m27_9
        refine cond_split (fun h2 => ?_) (fun h2 => ?_)
        · unfold m27_10
          exact ⟨⟨_, rfl, ⟨fun _ => ⟨h, k, by omega, by omega, h2⟩, fun _ => rfl⟩⟩, hS.tail⟩
        · unfold m27_8
          refine valP_ok (add_ok _ _ _ (by omega) (by omega) _) ?_
          refine ⟨⟨k + 1, rfl, by omega, by omega, fun j h3 h4 => ?_, hS⟩, by simp [intOf]; omega⟩
          rcases Int.lt_or_le j k with g1 | g1
          · exact hno j h3 g1
          · obtain rfl : j = k := by omega
            exact h2
      · unfold m27_3 m27_4
        refine ⟨⟨_, rfl, ⟨fun h => (by cases h), fun ⟨_, j, h3, h4, h5⟩ => absurd h5 (hno j h3 (by omega))⟩⟩, hS.tail⟩
  unfold m27_1
  first | refine valP_ok (fa23_0 _ _) ?_ | refine valP_ok (fao23_0 _ _ _) ?_
  first | refine valP_ok (ld3 (hS.cell 0 rfl rfl)) ?_ | refine valP_ok (ld3 (hS.cell 1 rfl rfl)) ?_ | refine valP_ok (ld3 (hS.cell 2 rfl rfl)) ?_ | refine valP_ok (ld3 (hS.cell 3 rfl rfl)) ?_ | refine valP_ok (ld3 (hS.cell 4 rfl rfl)) ?_ | refine valP_ok (ld3 (hS.cell 5 rfl rfl)) ?_ | refine valP_ok (ld3 (hS.cell 6 rfl rfl)) ?_ | refine valP_ok (ld3 (hS.cell 7 rfl rfl)) ?_ | refine valP_ok (ld3 (by assumption)) ?_
  refine valP_ok (lss_ok _ _ _ _ _ _ _) ?_
  first | refine cond_split (fun hc0 => ?_) (fun hc0 => ?_) | refine cond_bsplit (fun hc0 => ?_) (fun hc0 => ?_)
  · first | refine pick_dt (by first | assumption | omega) ?_ | refine pick_df (by first | assumption | omega) ?_ | refine pick_t (by first | rfl | assumption) ?_ | refine pick_f (by first | rfl | assumption) ?_ | refine pick_dt rfl ?_ | refine pick_df (not_not_intro rfl) ?_
    first | refine pick_dt (by first | assumption | omega) ?_ | refine pick_df (by first | assumption | omega) ?_ | refine pick_t (by first | rfl | assumption) ?_ | refine pick_f (by first | rfl | assumption) ?_ | refine pick_dt rfl ?_ | refine pick_df (not_not_intro rfl) ?_
    first | refine pick_dt (by first | assumption | omega) ?_ | refine pick_df (by first | assumption | omega) ?_ | refine pick_t (by first | rfl | assumption) ?_ | refine pick_f (by first | rfl | assumption) ?_ | refine pick_dt rfl ?_ | refine pick_df (not_not_intro rfl) ?_
    first | refine pick_dt (by first | assumption | omega) ?_ | refine pick_df (by first | assumption | omega) ?_ | refine pick_t (by first | rfl | assumption) ?_ | refine pick_f (by first | rfl | assumption) ?_ | refine pick_dt rfl ?_ | refine pick_df (not_not_intro rfl) ?_
    first | refine pick_dt (by first | assumption | omega) ?_ | refine pick_df (by first | assumption | omega) ?_ | refine pick_t (by first | rfl | assumption) ?_ | refine pick_f (by first | rfl | assumption) ?_ | refine pick_dt rfl ?_ | refine pick_df (not_not_intro rfl) ?_
    exact leaf _ (by simp only [decide_eq_true_eq, Bool.false_eq_true, false_iff, true_iff] <;> first | contradiction | omega)
  · first | refine valP_ok (fa23_0 _ _) ?_ | refine valP_ok (fao23_0 _ _ _) ?_
    first | refine valP_ok (ld3 (hS.cell 0 rfl rfl)) ?_ | refine valP_ok (ld3 (hS.cell 1 rfl rfl)) ?_ | refine valP_ok (ld3 (hS.cell 2 rfl rfl)) ?_ | refine valP_ok (ld3 (hS.cell 3 rfl rfl)) ?_ | refine valP_ok (ld3 (hS.cell 4 rfl rfl)) ?_ | refine valP_ok (ld3 (hS.cell 5 rfl rfl)) ?_ | refine valP_ok (ld3 (hS.cell 6 rfl rfl)) ?_ | refine valP_ok (ld3 (hS.cell 7 rfl rfl)) ?_ | refine valP_ok (ld3 (by assumption)) ?_
    refine valP_ok (gtr_ok _ _ _ _ _ _ _) ?_
    first | refine pick_dt (by first | assumption | omega) ?_ | refine pick_df (by first | assumption | omega) ?_ | refine pick_t (by first | rfl | assumption) ?_ | refine pick_f (by first | rfl | assumption) ?_ | refine pick_dt rfl ?_ | refine pick_df (not_not_intro rfl) ?_
    first | refine cond_split (fun hc1 => ?_) (fun hc1 => ?_) | refine cond_bsplit (fun hc1 => ?_) (fun hc1 => ?_)
    · first | refine pick_dt (by first | assumption | omega) ?_ | refine pick_df (by first | assumption | omega) ?_ | refine pick_t (by first | rfl | assumption) ?_ | refine pick_f (by first | rfl | assumption) ?_ | refine pick_dt rfl ?_ | refine pick_df (not_not_intro rfl) ?_
      first | refine pick_dt (by first | assumption | omega) ?_ | refine pick_df (by first | assumption | omega) ?_ | refine pick_t (by first | rfl | assumption) ?_ | refine pick_f (by first | rfl | assumption) ?_ | refine pick_dt rfl ?_ | refine pick_df (not_not_intro rfl) ?_
      first | refine pick_dt (by first | assumption | omega) ?_ | refine pick_df (by first | assumption | omega) ?_ | refine pick_t (by first | rfl | assumption) ?_ | refine pick_f (by first | rfl | assumption) ?_ | refine pick_dt rfl ?_ | refine pick_df (not_not_intro rfl) ?_
      first | refine pick_dt (by first | assumption | omega) ?_ | refine pick_df (by first | assumption | omega) ?_ | refine pick_t (by first | rfl | assumption) ?_ | refine pick_f (by first | rfl | assumption) ?_ | refine pick_dt rfl ?_ | refine pick_df (not_not_intro rfl) ?_
      exact leaf _ (by simp only [decide_eq_true_eq, Bool.false_eq_true, false_iff, true_iff] <;> first | contradiction | omega)
    · first | refine valP_ok (fa23_1 _ _) ?_ | refine valP_ok (fao23_1 _ _ _) ?_
      first | refine valP_ok (ld3 (hS.cell 0 rfl rfl)) ?_ | refine valP_ok (ld3 (hS.cell 1 rfl rfl)) ?_ | refine valP_ok (ld3 (hS.cell 2 rfl rfl)) ?_ | refine valP_ok (ld3 (hS.cell 3 rfl rfl)) ?_ | refine valP_ok (ld3 (hS.cell 4 rfl rfl)) ?_ | refine valP_ok (ld3 (hS.cell 5 rfl rfl)) ?_ | refine valP_ok (ld3 (hS.cell 6 rfl rfl)) ?_ | refine valP_ok (ld3 (hS.cell 7 rfl rfl)) ?_ | refine valP_ok (ld3 (by assumption)) ?_
      refine valP_ok (lss_ok _ _ _ _ _ _ _) ?_
      first | refine pick_dt (by first | assumption | omega) ?_ | refine pick_df (by first | assumption | omega) ?_ | refine pick_t (by first | rfl | assumption) ?_ | refine pick_f (by first | rfl | assumption) ?_ | refine pick_dt rfl ?_ | refine pick_df (not_not_intro rfl) ?_
      first | refine cond_split (fun hc2 => ?_) (fun hc2 => ?_) | refine cond_bsplit (fun hc2 => ?_) (fun hc2 => ?_)
      · first | refine pick_dt (by first | assumption | omega) ?_ | refine pick_df (by first | assumption | omega) ?_ | refine pick_t (by first | rfl | assumption) ?_ | refine pick_f (by first | rfl | assumption) ?_ | refine pick_dt rfl ?_ | refine pick_df (not_not_intro rfl) ?_
        first | refine pick_dt (by first | assumption | omega) ?_ | refine pick_df (by first | assumption | omega) ?_ | refine pick_t (by first | rfl | assumption) ?_ | refine pick_f (by first | rfl | assumption) ?_ | refine pick_dt rfl ?_ | refine pick_df (not_not_intro rfl) ?_
        first | refine pick_dt (by first | assumption | omega) ?_ | refine pick_df (by first | assumption | omega) ?_ | refine pick_t (by first | rfl | assumption) ?_ | refine pick_f (by first | rfl | assumption) ?_ | refine pick_dt rfl ?_ | refine pick_df (not_not_intro rfl) ?_
        exact leaf _ (by simp only [decide_eq_true_eq, Bool.false_eq_true, false_iff, true_iff] <;> first | contradiction | omega)
      · first | refine valP_ok (fa23_1 _ _) ?_ | refine valP_ok (fao23_1 _ _ _) ?_
        first | refine valP_ok (ld3 (hS.cell 0 rfl rfl)) ?_ | refine valP_ok (ld3 (hS.cell 1 rfl rfl)) ?_ | refine valP_ok (ld3 (hS.cell 2 rfl rfl)) ?_ | refine valP_ok (ld3 (hS.cell 3 rfl rfl)) ?_ | refine valP_ok (ld3 (hS.cell 4 rfl rfl)) ?_ | refine valP_ok (ld3 (hS.cell 5 rfl rfl)) ?_ | refine valP_ok (ld3 (hS.cell 6 rfl rfl)) ?_ | refine valP_ok (ld3 (hS.cell 7 rfl rfl)) ?_ | refine valP_ok (ld3 (by assumption)) ?_
        first | refine valP_ok (fa23_0 _ _) ?_ | refine valP_ok (fao23_0 _ _ _) ?_
        first | refine valP_ok (ld3 (hS.cell 0 rfl rfl)) ?_ | refine valP_ok (ld3 (hS.cell 1 rfl rfl)) ?_ | refine valP_ok (ld3 (hS.cell 2 rfl rfl)) ?_ | refine valP_ok (ld3 (hS.cell 3 rfl rfl)) ?_ | refine valP_ok (ld3 (hS.cell 4 rfl rfl)) ?_ | refine valP_ok (ld3 (hS.cell 5 rfl rfl)) ?_ | refine valP_ok (ld3 (hS.cell 6 rfl rfl)) ?_ | refine valP_ok (ld3 (hS.cell 7 rfl rfl)) ?_ | refine valP_ok (ld3 (by assumption)) ?_
        refine valP_ok (gtr_ok _ _ _ _ _ _ _) ?_
        first | refine pick_dt (by first | assumption | omega) ?_ | refine pick_df (by first | assumption | omega) ?_ | refine pick_t (by first | rfl | assumption) ?_ | refine pick_f (by first | rfl | assumption) ?_ | refine pick_dt rfl ?_ | refine pick_df (not_not_intro rfl) ?_
        first | refine cond_split (fun hc3 => ?_) (fun hc3 => ?_) | refine cond_bsplit (fun hc3 => ?_) (fun hc3 => ?_)
        · first | refine pick_dt (by first | assumption | omega) ?_ | refine pick_df (by first | assumption | omega) ?_ | refine pick_t (by first | rfl | assumption) ?_ | refine pick_f (by first | rfl | assumption) ?_ | refine pick_dt rfl ?_ | refine pick_df (not_not_intro rfl) ?_
          first | refine pick_dt (by first | assumption | omega) ?_ | refine pick_df (by first | assumption | omega) ?_ | refine pick_t (by first | rfl | assumption) ?_ | refine pick_f (by first | rfl | assumption) ?_ | refine pick_dt rfl ?_ | refine pick_df (not_not_intro rfl) ?_
          exact leaf _ (by simp only [decide_eq_true_eq, Bool.false_eq_true, false_iff, true_iff] <;> first | contradiction | omega)
        · first | refine valP_ok (fa23_2 _ _) ?_ | refine valP_ok (fao23_2 _ _ _) ?_
          first | refine valP_ok (ld3 (hS.cell 0 rfl rfl)) ?_ | refine valP_ok (ld3 (hS.cell 1 rfl rfl)) ?_ | refine valP_ok (ld3 (hS.cell 2 rfl rfl)) ?_ | refine valP_ok (ld3 (hS.cell 3 rfl rfl)) ?_ | refine valP_ok (ld3 (hS.cell 4 rfl rfl)) ?_ | refine valP_ok (ld3 (hS.cell 5 rfl rfl)) ?_ | refine valP_ok (ld3 (hS.cell 6 rfl rfl)) ?_ | refine valP_ok (ld3 (hS.cell 7 rfl rfl)) ?_ | refine valP_ok (ld3 (by assumption)) ?_
          refine valP_ok (lss_ok _ _ _ _ _ _ _) ?_
          first | refine pick_dt (by first | assumption | omega) ?_ | refine pick_df (by first | assumption | omega) ?_ | refine pick_t (by first | rfl | assumption) ?_ | refine pick_f (by first | rfl | assumption) ?_ | refine pick_dt rfl ?_ | refine pick_df (not_not_intro rfl) ?_
          first | refine cond_split (fun hc4 => ?_) (fun hc4 => ?_) | refine cond_bsplit (fun hc4 => ?_) (fun hc4 => ?_)
          · first | refine pick_dt (by first | assumption | omega) ?_ | refine pick_df (by first | assumption | omega) ?_ | refine pick_t (by first | rfl | assumption) ?_ | refine pick_f (by first | rfl | assumption) ?_ | refine pick_dt rfl ?_ | refine pick_df (not_not_intro rfl) ?_
            exact leaf _ (by simp only [decide_eq_true_eq, Bool.false_eq_true, false_iff, true_iff] <;> first | contradiction | omega)
          · first | refine valP_ok (fa23_2 _ _) ?_ | refine valP_ok (fao23_2 _ _ _) ?_
            first | refine valP_ok (ld3 (hS.cell 0 rfl rfl)) ?_ | refine valP_ok (ld3 (hS.cell 1 rfl rfl)) ?_ | refine valP_ok (ld3 (hS.cell 2 rfl rfl)) ?_ | refine valP_ok (ld3 (hS.cell 3 rfl rfl)) ?_ | refine valP_ok (ld3 (hS.cell 4 rfl rfl)) ?_ | refine valP_ok (ld3 (hS.cell 5 rfl rfl)) ?_ | refine valP_ok (ld3 (hS.cell 6 rfl rfl)) ?_ | refine valP_ok (ld3 (hS.cell 7 rfl rfl)) ?_ | refine valP_ok (ld3 (by assumption)) ?_
            refine valP_ok (gtr_ok _ _ _ _ _ _ _) ?_
            first | refine pick_dt (by first | assumption | omega) ?_ | refine pick_df (by first | assumption | omega) ?_ | refine pick_t (by first | rfl | assumption) ?_ | refine pick_f (by first | rfl | assumption) ?_ | refine pick_dt rfl ?_ | refine pick_df (not_not_intro rfl) ?_
            exact leaf _ (by simp only [decide_eq_true_eq, Bool.false_eq_true, false_iff, true_iff] <;> first | contradiction | omega)
theorem closed_ret {start mark : Int} (hm : I64 mark) (hS : St w0 F w L) : Ret Try.prog 29 #[grv g, .int .i64 start, .int .i64 mark] w fun v w' => (∃ t, v = .bool t ∧ (t = true ↔ ClosedG g start mark)) ∧ St w0 F w' L := by
  refine s29 _ _ _ ?_
  unfold m29
  unfold m29_0
  refine new_ok (bx23 _ _ _ _) hS ?_
  intro b3 w hS
  unfold m29_1
  first | refine ls23 0 hS rfl ?_ | refine ls23 1 hS rfl ?_ | refine ls23 2 hS rfl ?_ | refine ls23 3 hS rfl ?_ | refine ls23 4 hS rfl ?_ | refine ls23 5 hS rfl ?_ | refine ls23 6 hS rfl ?_ | refine ls23 7 hS rfl ?_ | refine valP_ok (ld23 (by assumption) (by assumption) (by assumption)) ?_
  refine callR (by kernel_rfl) (gmay_ret hS) ?_
  rintro _ w ⟨⟨t, rfl, ht⟩, hS⟩
  cases t with
  | true =>
    have hg := ht.1 rfl
    have hg1 := hg.1
    refine cond_t rfl ?_
    refine valP_ok (geq_ok _ _ _ _ _ _ _) ?_
    first | refine pick_dt (by first | assumption | omega) ?_ | refine pick_df (by first | assumption | omega) ?_ | refine pick_t (by first | rfl | assumption) ?_ | refine pick_f (by first | rfl | assumption) ?_ | refine pick_dt rfl ?_ | refine pick_df (not_not_intro rfl) ?_
    refine cond_split (fun h => ?_) (fun h => ?_)
    · first | refine valP_ok (fa23_0 _ _) ?_ | refine valP_ok (fao23_0 _ _ _) ?_
      first | refine valP_ok (ld3 (hS.cell 0 rfl rfl)) ?_ | refine valP_ok (ld3 (hS.cell 1 rfl rfl)) ?_ | refine valP_ok (ld3 (hS.cell 2 rfl rfl)) ?_ | refine valP_ok (ld3 (hS.cell 3 rfl rfl)) ?_ | refine valP_ok (ld3 (hS.cell 4 rfl rfl)) ?_ | refine valP_ok (ld3 (hS.cell 5 rfl rfl)) ?_ | refine valP_ok (ld3 (hS.cell 6 rfl rfl)) ?_ | refine valP_ok (ld3 (hS.cell 7 rfl rfl)) ?_ | refine valP_ok (ld3 (by assumption)) ?_
      first | refine valP_ok (fa23_2 _ _) ?_ | refine valP_ok (fao23_2 _ _ _) ?_
      first | refine valP_ok (ld3 (hS.cell 0 rfl rfl)) ?_ | refine valP_ok (ld3 (hS.cell 1 rfl rfl)) ?_ | refine valP_ok (ld3 (hS.cell 2 rfl rfl)) ?_ | refine valP_ok (ld3 (hS.cell 3 rfl rfl)) ?_ | refine valP_ok (ld3 (hS.cell 4 rfl rfl)) ?_ | refine valP_ok (ld3 (hS.cell 5 rfl rfl)) ?_ | refine valP_ok (ld3 (hS.cell 6 rfl rfl)) ?_ | refine valP_ok (ld3 (hS.cell 7 rfl rfl)) ?_ | refine valP_ok (ld3 (by assumption)) ?_
      refine valP_ok (add_ok _ _ _ (by omega) (by omega) _) ?_
      refine valP_ok (sub_ok _ _ _ (by omega) (by omega) _) ?_
      refine valP_ok (leq_ok _ _ _ _ _ _ _) ?_
      first | refine pick_dt (by first | assumption | omega) ?_ | refine pick_df (by first | assumption | omega) ?_ | refine pick_t (by first | rfl | assumption) ?_ | refine pick_f (by first | rfl | assumption) ?_ | refine pick_dt rfl ?_ | refine pick_df (not_not_intro rfl) ?_
      unfold m29_2
      exact ⟨⟨_, rfl, by rw [decide_eq_true_eq]; exact ⟨fun h1 => ⟨hg, h, h1⟩, fun h1 => h1.2.2⟩⟩, hS.tail⟩
    · first | refine pick_dt (by first | assumption | omega) ?_ | refine pick_df (by first | assumption | omega) ?_ | refine pick_t (by first | rfl | assumption) ?_ | refine pick_f (by first | rfl | assumption) ?_ | refine pick_dt rfl ?_ | refine pick_df (not_not_intro rfl) ?_
      unfold m29_2
      exact ⟨⟨_, rfl, ⟨fun h1 => (by cases h1), fun h1 => absurd h1.2.1 h⟩⟩, hS.tail⟩
  | false =>
    refine cond_f rfl ?_
    first | refine pick_dt (by first | assumption | omega) ?_ | refine pick_df (by first | assumption | omega) ?_ | refine pick_t (by first | rfl | assumption) ?_ | refine pick_f (by first | rfl | assumption) ?_ | refine pick_dt rfl ?_ | refine pick_df (not_not_intro rfl) ?_
    refine cond_f rfl ?_
    first | refine pick_dt (by first | assumption | omega) ?_ | refine pick_df (by first | assumption | omega) ?_ | refine pick_t (by first | rfl | assumption) ?_ | refine pick_f (by first | rfl | assumption) ?_ | refine pick_dt rfl ?_ | refine pick_df (not_not_intro rfl) ?_
    unfold m29_2
    exact ⟨⟨_, rfl, ⟨fun h1 => (by cases h1), fun h1 => (by have := ht.2 h1.1; cases this)⟩⟩, hS.tail⟩
/-- what comes of Starts. -/
def StartsR (w0 : World) (F : List Nat) (L : List Res) (v : Value) (w : World) : Prop := ∃ A c e, ∃ xs : List Int, v = .tuple #[.slice A xs.length c, .int .i64 e] ∧ xs.length ≤ 1048577 ∧ (∀ x ∈ xs, I64 x) ∧ St w0 F w (iRow A c xs :: L)
theorem starts_ret {t : Int} (hS : St w0 F w L) : Ret Try.prog 45 #[grv g, .int .i64 t] w (StartsR w0 F L) := by
  refine s45 _ _ ?_
  unfold m45
  unfold m45_0
  refine new_ok (bx23 _ _ _ _) hS ?_
  intro b2 w hS
  unfold m45_1
  first | refine ls23 0 hS rfl ?_ | refine ls23 1 hS rfl ?_ | refine ls23 2 hS rfl ?_ | refine ls23 3 hS rfl ?_ | refine ls23 4 hS rfl ?_ | refine ls23 5 hS rfl ?_ | refine ls23 6 hS rfl ?_ | refine ls23 7 hS rfl ?_ | refine valP_ok (ld23 (by assumption) (by assumption) (by assumption)) ?_
  refine callR (by kernel_rfl) (gmay_ret hS) ?_
  rintro _ w ⟨⟨b, rfl, hb⟩, hS⟩
  have leaf : ∀ (q : Bool) w, St w0 F w (Res.cells b2 23 (encGr g) :: L) → (q = false → MayG g ∧ 0 ≤ t ∧ t ≤ 1099511627776) → m45_18 (StartsR w0 F L) (.int .i64 t) (.pointer (some ⟨b2, 0, none⟩)) (.bool q) w := fun q w hS hq => by
    clear hb
    unfold m45_18
    cases q with
    | true =>
      refine cond_t rfl ?_
      unfold m45_19
      exact ⟨none, 0, 1, [], rfl, by simp, fun x h => (by cases h), hS.tail.row_nil 3 1⟩
    | false =>
      obtain ⟨hg, ht0, ht1⟩ := hq rfl
      have hg1 := hg.1
      refine cond_f rfl ?_
      unfold m45_2
      have q1 : 0 ≤ t / g.hop * g.hop := Int.mul_nonneg (Int.ediv_nonneg ht0 (by omega)) (by omega)
      have q2 : t / g.hop * g.hop ≤ t := Int.ediv_mul_le t (by omega)
      unfold m45_3
      first | refine valQ_ok (fa23_1 _) ?_ | refine valQ_ok (fao23_1 _ _) ?_
      first | refine valQ_load ld3 (hS.cell 0 rfl rfl) ?_ | refine valQ_load ld3 (hS.cell 1 rfl rfl) ?_ | refine valQ_load ld3 (hS.cell 2 rfl rfl) ?_ | refine valQ_load ld3 (hS.cell 3 rfl rfl) ?_ | refine valQ_load ld3 (hS.cell 4 rfl rfl) ?_ | refine valQ_load ld3 (hS.cell 5 rfl rfl) ?_ | refine valQ_load ld3 (hS.cell 6 rfl rfl) ?_ | refine valQ_load ld3 (hS.cell 7 rfl rfl) ?_ | refine valQ_load ld3 (by assumption) ?_
      refine valQ_ok (quo_ok _ _ _ (by omega) (by omega) (by omega)) ?_
      first | refine valQ_ok (fa23_1 _) ?_ | refine valQ_ok (fao23_1 _ _) ?_
      first | refine valQ_load ld3 (hS.cell 0 rfl rfl) ?_ | refine valQ_load ld3 (hS.cell 1 rfl rfl) ?_ | refine valQ_load ld3 (hS.cell 2 rfl rfl) ?_ | refine valQ_load ld3 (hS.cell 3 rfl rfl) ?_ | refine valQ_load ld3 (hS.cell 4 rfl rfl) ?_ | refine valQ_load ld3 (hS.cell 5 rfl rfl) ?_ | refine valQ_load ld3 (hS.cell 6 rfl rfl) ?_ | refine valQ_load ld3 (hS.cell 7 rfl rfl) ?_ | refine valQ_load ld3 (by assumption) ?_
      refine valQ_ok (mul_ok _ _ _ (by omega) (by omega)) ?_
      refine drawn_ok hS ?_
      intro w hS
      generalize t / g.hop * g.hop = s0 at q1 q2
      unfold m45_13
      refine loop_in (fun u w' => ∃ (A : Option Addr) (c : Nat) (xs : List Int) (s : Int), u = (.slice A xs.length c, .int .i64 s) ∧ -1048577 ≤ s ∧ (xs.length : Int) + s ≤ t ∧ xs.length ≤ 1048576 ∧ (∀ x ∈ xs, I64 x) ∧ St w0 F w' (iRow A c xs :: Res.cells b2 23 (encGr g) :: L)) (fun u _ => (intOf u.2 + 1048577).toNat) ⟨none, 0, [], s0, rfl, by omega, by simp; omega, by simp, fun x h => (by cases h), hS.row_nil 3 1⟩ ?_
      clear hS q1 q2
      rintro u w ⟨A, c, xs, s, rfl, hs0, hs1, hxl, hx, hS⟩
      simp only
      have exit : ∀ w, St w0 F w (iRow A c xs :: Res.cells b2 23 (encGr g) :: L) → m45_4 (StartsR w0 F L) (.slice A xs.length c) w := fun w hS => by
        unfold m45_4
        unfold m45_5
        refine builtin_ok (len51 _) ?_
        refine valP_ok (sub_ok _ _ _ (by omega) (by omega) _) ?_
        unfold m45_8
        refine loop_in (fun u w' => ∃ (A2 : Option Addr) (c2 : Nat) (ys : List Int) (i : Nat), u = (.slice A2 ys.length c2, .int .i64 ((i : Int) - 1)) ∧ i ≤ xs.length ∧ ys.length + i = xs.length ∧ (∀ x ∈ ys, I64 x) ∧ St w0 F w' (iRow A2 c2 ys :: iRow A c xs :: Res.cells b2 23 (encGr g) :: L)) (fun u _ => (intOf u.2 + 1).toNat) ⟨none, 0, [], xs.length, rfl, by omega, by simp, fun x h => (by cases h), hS.row_nil 3 1⟩ ?_
        clear hS
        rintro u w ⟨A2, c2, ys, i, rfl, hi, hyl, hy, hS⟩
        simp only
        unfold m45_9
        refine valP_ok (geq_ok _ _ _ _ _ _ _) ?_
        unfold m45_12
        refine cond_split (fun h => ?_) (fun h => ?_)
        · obtain ⟨j, rfl⟩ : ∃ j, i = j + 1 := ⟨i - 1, by omega⟩
          have hjl : j < xs.length := by omega
          rw [show ((j + 1 : Nat) : Int) - 1 = (j : Int) by omega]
          obtain ⟨gb, rfl⟩ := hS.row_ptr 1 rfl (by omega)
          unfold m45_10
          refine valP_ok (ixz51 hjl _) ?_
          refine valP_ok (ld3 (hS.row_cell 1 rfl (u := .int .i64 xs[j]) (by rw [iFlat]; simp [hjl]))) ?_
          refine newslice_ok (bs51_1 rfl _) hS ?_
          intro b58 w hS
          refine append_one1 (enc := iEnc) 0 xs[j] sl51 iEnc_len iEnc_one (by unfold maxLen; omega) (by omega) hS rfl ?_
          intro A3 c3 w hS
          simp only [List.set_cons_zero, List.set_cons_succ] at hS
          unfold m45_11
          refine valP_ok (sub_ok _ _ _ (by omega) (by omega) _) ?_
          refine ⟨⟨A3, c3, ys ++ [xs[j]], j, rfl, by omega, by rw [List.length_append]; simp; omega, fun x hx' => ?_, hS⟩, by simp [intOf]⟩
          rcases List.mem_append.1 hx' with h1 | h1
          · exact hy x h1
          · obtain rfl := List.mem_singleton.1 h1
            exact hx _ (List.getElem_mem hjl)
        · unfold m45_6 m45_7
          exact ⟨A2, c2, 0, ys, rfl, by omega, hy, St.mid (A := [_]) (B := [_, _]) hS⟩
      unfold m45_14
      refine valP_ok (geq_ok _ _ _ _ _ _ _) ?_
      refine cond_split (fun h => ?_) (fun h => ?_)
      · first | refine valP_ok (fa23_0 _ _) ?_ | refine valP_ok (fao23_0 _ _ _) ?_
        first | refine valP_ok (ld3 (hS.cell 0 rfl rfl)) ?_ | refine valP_ok (ld3 (hS.cell 1 rfl rfl)) ?_ | refine valP_ok (ld3 (hS.cell 2 rfl rfl)) ?_ | refine valP_ok (ld3 (hS.cell 3 rfl rfl)) ?_ | refine valP_ok (ld3 (hS.cell 4 rfl rfl)) ?_ | refine valP_ok (ld3 (hS.cell 5 rfl rfl)) ?_ | refine valP_ok (ld3 (hS.cell 6 rfl rfl)) ?_ | refine valP_ok (ld3 (hS.cell 7 rfl rfl)) ?_ | refine valP_ok (ld3 (by assumption)) ?_
        refine valP_ok (add_ok _ _ _ (by omega) (by omega) _) ?_
        refine valP_ok (gtr_ok _ _ _ _ _ _ _) ?_
        first | refine pick_dt (by first | assumption | omega) ?_ | refine pick_df (by first | assumption | omega) ?_ | refine pick_t (by first | rfl | assumption) ?_ | refine pick_f (by first | rfl | assumption) ?_ | refine pick_dt rfl ?_ | refine pick_df (not_not_intro rfl) ?_
        unfold m45_17
        refine cond_split (fun h1 => ?_) (fun h1 => ?_)
        · unfold m45_15
          refine newslice_ok (bs51_1 rfl _) hS ?_
          intro b44 w hS
          refine append_one1 (enc := iEnc) 0 s sl51 iEnc_len iEnc_one (by unfold maxLen; omega) (by omega) hS rfl ?_
          intro A3 c3 w hS
          simp only [List.set_cons_zero, List.set_cons_succ] at hS
          unfold m45_16
          first | refine valP_ok (fa23_1 _ _) ?_ | refine valP_ok (fao23_1 _ _ _) ?_
          first | refine valP_ok (ld3 (hS.cell 0 rfl rfl)) ?_ | refine valP_ok (ld3 (hS.cell 1 rfl rfl)) ?_ | refine valP_ok (ld3 (hS.cell 2 rfl rfl)) ?_ | refine valP_ok (ld3 (hS.cell 3 rfl rfl)) ?_ | refine valP_ok (ld3 (hS.cell 4 rfl rfl)) ?_ | refine valP_ok (ld3 (hS.cell 5 rfl rfl)) ?_ | refine valP_ok (ld3 (hS.cell 6 rfl rfl)) ?_ | refine valP_ok (ld3 (hS.cell 7 rfl rfl)) ?_ | refine valP_ok (ld3 (by assumption)) ?_
          refine valP_ok (sub_ok _ _ _ (by omega) (by omega) _) ?_
          refine ⟨⟨A3, c3, xs ++ [s], s - g.hop, rfl, by omega, by rw [List.length_append]; simp; omega, by rw [List.length_append]; simp; omega, fun x hx' => ?_, hS⟩, by simp [intOf]; omega⟩
          rcases List.mem_append.1 hx' with h2 | h2
          · exact hx x h2
          · obtain rfl := List.mem_singleton.1 h2
            exact ⟨by omega, by omega⟩
        · exact exit w hS
      · first | refine pick_dt (by first | assumption | omega) ?_ | refine pick_df (by first | assumption | omega) ?_ | refine pick_t (by first | rfl | assumption) ?_ | refine pick_f (by first | rfl | assumption) ?_ | refine pick_dt rfl ?_ | refine pick_df (not_not_intro rfl) ?_
        unfold m45_17
        refine cond_f rfl ?_
        exact exit w hS
  cases b with
  | true =>
    have hg := hb.1 rfl
    first | refine valP_ok (not_ok _ _) ?_ | refine valP_ok (notb_ok _ _) ?_
    refine cond_f rfl ?_
    refine valP_ok (lss_ok _ _ _ _ _ _ _) ?_
    first | refine pick_dt (by first | assumption | omega) ?_ | refine pick_df (by first | assumption | omega) ?_ | refine pick_t (by first | rfl | assumption) ?_ | refine pick_f (by first | rfl | assumption) ?_ | refine pick_dt rfl ?_ | refine pick_df (not_not_intro rfl) ?_
    refine cond_split (fun h => ?_) (fun h => ?_)
    · first | refine pick_dt (by first | assumption | omega) ?_ | refine pick_df (by first | assumption | omega) ?_ | refine pick_t (by first | rfl | assumption) ?_ | refine pick_f (by first | rfl | assumption) ?_ | refine pick_dt rfl ?_ | refine pick_df (not_not_intro rfl) ?_
      exact leaf _ w hS (fun h => (by cases h))
    · refine valP_ok (gtr_ok _ _ _ _ _ _ _) ?_
      first | refine pick_dt (by first | assumption | omega) ?_ | refine pick_df (by first | assumption | omega) ?_ | refine pick_t (by first | rfl | assumption) ?_ | refine pick_f (by first | rfl | assumption) ?_ | refine pick_dt rfl ?_ | refine pick_df (not_not_intro rfl) ?_
      exact leaf _ w hS (fun h1 => ⟨hg, by omega, by have := of_decide_eq_false h1; omega⟩)
  | false =>
    first | refine valP_ok (not_ok _ _) ?_ | refine valP_ok (notb_ok _ _) ?_
    refine cond_t rfl ?_
    first | refine pick_dt (by first | assumption | omega) ?_ | refine pick_df (by first | assumption | omega) ?_ | refine pick_t (by first | rfl | assumption) ?_ | refine pick_f (by first | rfl | assumption) ?_ | refine pick_dt rfl ?_ | refine pick_df (not_not_intro rfl) ?_
    refine cond_t rfl ?_
    first | refine pick_dt (by first | assumption | omega) ?_ | refine pick_df (by first | assumption | omega) ?_ | refine pick_t (by first | rfl | assumption) ?_ | refine pick_f (by first | rfl | assumption) ?_ | refine pick_dt rfl ?_ | refine pick_df (not_not_intro rfl) ?_
    exact leaf _ w hS (fun h => (by cases h))
end

end Go.Proofs.Ytnhgdngbdoifnaa.M
