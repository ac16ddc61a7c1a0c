/- What records come to: Plus, Sort, Add, May, Encode. -/
import Derived.Test.YtnhgdngbdoifnaaK2
import Derived.Test.YtnhgdngbdoifnaaFwW
import Derived.Test.YtnhgdngbdoifnaaMbase0
import Derived.Test.YtnhgdngbdoifnaaMmid0
import Derived.Test.YtnhgdngbdoifnaaMgrid0
import Derived.Test.YtnhgdngbdoifnaaMfold0
namespace Go.Proofs.Ytnhgdngbdoifnaa.M
open Go.Proofs.Ytnhgdngbdoifnaa.F Go.RowKit
set_option linter.unusedVariables false
set_option linter.unusedSimpArgs false
set_option maxRecDepth 100000
set_option maxHeartbeats 2000000
attribute [local irreducible] Res.cells Res.row Res.map Res.any World.cell? World.frozen? Instr.fieldAt Instr.loadAt Instr.storeAt Instr.indexAt Instr.lookup Instr.mapUpdate Instr.box Instr.build Instr.buildSlice Instr.extract Instr.alloc Instr.field Instr.index Instr.sliceAt Instr.makeSlice Instr.makeMap Instr.makeFunc binS Op.unary Sem.run
abbrev encAg (a : Ag) : List Value := [.int .i64 a.count, .int .i64 a.sum, .int .i64 a.mn, .int .i64 a.mx, .int .i64 a.h0, .int .i64 a.h1, .int .i64 a.h2, .int .i64 a.h3, .int .i64 a.re, .int .i64 a.im]
abbrev agv (a : Ag) : Value := .agg #[.int .i64 a.count, .int .i64 a.sum, .int .i64 a.mn, .int .i64 a.mx, .int .i64 a.h0, .int .i64 a.h1, .int .i64 a.h2, .int .i64 a.h3, .int .i64 a.re, .int .i64 a.im]
def zeroAg : Ag := ⟨0, 0, 0, 0, 0, 0, 0, 0, 0, 0⟩
theorem zeroAg_ok : AgOk zeroAg := fun x hx => by
  simp only [agI, zeroAg, List.mem_cons, List.not_mem_nil, or_false, or_self] at hx
  subst hx
  omega
theorem AgOk.upd {a b : Ag} (i : Nat) {v : Int} (h : AgOk a) (hv : I64 v) (e : agI b = (agI a).set i v) : AgOk b := fun x hx => by
  rw [e] at hx
  rcases List.mem_or_eq_of_mem_set hx with hx | rfl
  · exact h x hx
  · exact hv
def hk (a : Ag) : Nat → Int
  | 0 => a.h0
  | 1 => a.h1
  | 2 => a.h2
  | _ => a.h3
def hs (a : Ag) : Nat → Int
  | 0 => 0
  | n + 1 => hs a n + hk a n
def setH (a : Ag) (k : Nat) (y : Int) : Ag := match k with
  | 0 => { a with h0 := y }
  | 1 => { a with h1 := y }
  | 2 => { a with h2 := y }
  | _ => { a with h3 := y }
theorem four {k : Nat} (h : k < 4) : k = 0 ∨ k = 1 ∨ k = 2 ∨ k = 3 := by omega
theorem ag_at (a : Ag) {k : Nat} (h : k < 4) : (encAg a)[4 + k]? = some (.int .i64 (hk a k)) := by
  rcases four h with rfl | rfl | rfl | rfl <;> rfl
theorem ag_set (a : Ag) {k : Nat} (h : k < 4) (y : Int) : (encAg a).set (4 + k) (.int .i64 y) = encAg (setH a k y) := by
  rcases four h with rfl | rfl | rfl | rfl <;> rfl
theorem setH_ok {a : Ag} {k : Nat} (h : k < 4) {y : Int} (ha : AgOk a) (hy : I64 y) : AgOk (setH a k y) := by
  refine ha.upd (4 + k) hy ?_
  rcases four h with rfl | rfl | rfl | rfl <;> rfl
theorem hk_ok {a : Ag} (ha : AgOk a) {k : Nat} (h : k < 4) : I64 (hk a k) := by
  refine ha _ ?_
  rcases four h with rfl | rfl | rfl | rfl <;> simp [agI, hk]
section
variable {w0 w : World} {F : List Nat} {L : List Res}
theorem plus_ret {a b : Int} (ha : I64 a) (hb : I64 b) (hS : St w0 F w L) : Ret Try.prog 60 #[.int .i64 a, .int .i64 b] w fun v w' => (∃ x, v = .int .i64 x ∧ I64 x) ∧ St w0 F w' L := by
  refine s60 _ _ ?_
  unfold m60
  unfold m60_0
  have sum : ¬ (0 < b ∧ 9223372036854775807 - b < a) → ¬ (b < 0 ∧ a < -9223372036854775808 - b) → m60_3 (fun v w' => (∃ x, v = .int .i64 x ∧ I64 x) ∧ St w0 F w' L) (.int .i64 a) (.int .i64 b) w := fun h1 h2 => by
    unfold m60_3
    refine valP_ok (add_ok _ _ _ (by omega) (by omega) _) ?_
    unfold m60_4
    exact ⟨⟨_, rfl, by omega⟩, hS⟩
  have low : ¬ (0 < b ∧ 9223372036854775807 - b < a) → m60_2 (fun v w' => (∃ x, v = .int .i64 x ∧ I64 x) ∧ St w0 F w' L) (.int .i64 a) (.int .i64 b) w := fun h1 => by
    unfold m60_2
    refine valP_ok (lss_ok _ _ _ _ _ _ _) ?_
    refine cond_split (fun h => ?_) (fun h => ?_)
    · refine valP_ok (sub_ok _ _ _ (by omega) (by omega) _) ?_
      refine valP_ok (lss_ok _ _ _ _ _ _ _) ?_
      first | refine pick_dt (by first | assumption | omega) ?_ | refine pick_df (by first | assumption | omega) ?_ | refine pick_t (by first | rfl | assumption) ?_ | refine pick_f (by first | rfl | assumption) ?_ | refine pick_dt rfl ?_ | refine pick_df (not_not_intro rfl) ?_
      unfold m60_5
      refine cond_split (fun h2 => ?_) (fun h2 => ?_)
      · unfold m60_6
        exact ⟨⟨_, rfl, by omega⟩, hS⟩
      · exact sum h1 (fun h3 => h2 h3.2)
    · first | refine pick_dt (by first | assumption | omega) ?_ | refine pick_df (by first | assumption | omega) ?_ | refine pick_t (by first | rfl | assumption) ?_ | refine pick_f (by first | rfl | assumption) ?_ | refine pick_dt rfl ?_ | refine pick_df (not_not_intro rfl) ?_
      unfold m60_5
      refine cond_f rfl ?_
      exact sum h1 (fun h3 => h h3.1)
  unfold m60_1
  refine valP_ok (gtr_ok _ _ _ _ _ _ _) ?_
  refine cond_split (fun h => ?_) (fun h => ?_)
  · refine valP_ok (sub_ok _ _ _ (by omega) (by omega) _) ?_
    refine valP_ok (gtr_ok _ _ _ _ _ _ _) ?_
    first | refine pick_dt (by first | assumption | omega) ?_ | refine pick_df (by first | assumption | omega) ?_ | refine pick_t (by first | rfl | assumption) ?_ | refine pick_f (by first | rfl | assumption) ?_ | refine pick_dt rfl ?_ | refine pick_df (not_not_intro rfl) ?_
    unfold m60_7
    refine cond_split (fun h2 => ?_) (fun h2 => ?_)
    · unfold m60_8
      exact ⟨⟨_, rfl, by omega⟩, hS⟩
    · exact low (fun h3 => h2 h3.2)
  · first | refine pick_dt (by first | assumption | omega) ?_ | refine pick_df (by first | assumption | omega) ?_ | refine pick_t (by first | rfl | assumption) ?_ | refine pick_f (by first | rfl | assumption) ?_ | refine pick_dt rfl ?_ | refine pick_df (not_not_intro rfl) ?_
    unfold m60_7
    refine cond_f rfl ?_
    exact low (fun h3 => h h3.1)
theorem sort5_ret {v : Int} (hS : St w0 F w L) : Ret Try.prog 61 #[.int .i64 v] w fun u w' => (∃ k : Nat, u = .int .i64 (k : Int) ∧ k < 4) ∧ St w0 F w' L := by
  refine s61 _ ?_
  unfold m61
  unfold m61_0
  unfold m61_1
  refine valP_ok (geq_ok _ _ _ _ _ _ _) ?_
  unfold m61_10
  refine cond_split (fun h => ?_) (fun h => ?_)
  · unfold m61_11
    exact ⟨⟨3, rfl, by omega⟩, hS⟩
  · unfold m61_2
    refine valP_ok (geq_ok _ _ _ _ _ _ _) ?_
    unfold m61_8
    refine cond_split (fun h => ?_) (fun h => ?_)
    · unfold m61_9
      exact ⟨⟨2, rfl, by omega⟩, hS⟩
    · unfold m61_3
      refine valP_ok (geq_ok _ _ _ _ _ _ _) ?_
      unfold m61_6
      refine cond_split (fun h => ?_) (fun h => ?_)
      · unfold m61_7
        exact ⟨⟨1, rfl, by omega⟩, hS⟩
      · unfold m61_4 m61_5
        exact ⟨⟨0, rfl, by omega⟩, hS⟩
/-- what Add works with. -/
def AddSt (w0 : World) (F : List Nat) (L : List Res) (a : Ag) (b2 b4 b5 : Nat) (w : World) : Prop := ∃ bb : Ag, AgOk bb ∧ St w0 F w (Res.cells b5 65 (encAg bb) :: Res.cells b4 65 (encAg zeroAg) :: Res.cells b2 65 (encAg a) :: L)
def AddR (w0 : World) (F : List Nat) (L : List Res) (v : Value) (w : World) : Prop := (∃ b : Ag, v = agv b ∧ AgOk b) ∧ St w0 F w L
section
variable {a : Ag} {b2 b4 b5 : Nat} {x : Int}
theorem add_13 (h : AddSt w0 F L a b2 b4 b5 w) : m56_13 (AddR w0 F L) (.pointer (some ⟨b4, 0, none⟩)) (.pointer (some ⟨b5, 0, none⟩)) w := by
  obtain ⟨bb, hb, hS⟩ := h
  unfold m56_13
  first | refine ls65 0 hS rfl ?_ | refine ls65 1 hS rfl ?_ | refine ls65 2 hS rfl ?_ | refine ls65 3 hS rfl ?_ | refine ls65 4 hS rfl ?_ | refine ls65 5 hS rfl ?_ | refine ls65 6 hS rfl ?_ | refine ls65 7 hS rfl ?_ | refine valP_ok (ld65 (by assumption) (by assumption) (by assumption) (by assumption) (by assumption) (by assumption) (by assumption) (by assumption) (by assumption) (by assumption)) ?_
  first | refine ss65 0 hS rfl rfl rfl rfl rfl rfl rfl rfl rfl rfl rfl ?_ | refine ss65 1 hS rfl rfl rfl rfl rfl rfl rfl rfl rfl rfl rfl ?_ | refine ss65 2 hS rfl rfl rfl rfl rfl rfl rfl rfl rfl rfl rfl ?_ | refine ss65 3 hS rfl rfl rfl rfl rfl rfl rfl rfl rfl rfl rfl ?_ | refine ss65 4 hS rfl rfl rfl rfl rfl rfl rfl rfl rfl rfl rfl ?_ | refine ss65 5 hS rfl rfl rfl rfl rfl rfl rfl rfl rfl rfl rfl ?_ | refine ss65 6 hS rfl rfl rfl rfl rfl rfl rfl rfl rfl rfl rfl ?_ | refine ss65 7 hS rfl rfl rfl rfl rfl rfl rfl rfl rfl rfl rfl ?_
  intro w hS
  simp only [List.set_cons_zero, List.set_cons_succ] at hS
  unfold m56_14
  refine valS_ok (lc65 (hS.cell 1 rfl rfl) (hS.cell 1 rfl rfl) (hS.cell 1 rfl rfl) (hS.cell 1 rfl rfl) (hS.cell 1 rfl rfl) (hS.cell 1 rfl rfl) (hS.cell 1 rfl rfl) (hS.cell 1 rfl rfl) (hS.cell 1 rfl rfl) (hS.cell 1 rfl rfl)) ?_
  exact ⟨⟨bb, rfl, hb⟩, hS.tail.tail.tail⟩
theorem re_ok {a : Ag} (h : AgOk a) : I64 a.re := h _ (by simp [agI])
theorem im_ok {a : Ag} (h : AgOk a) : I64 a.im := h _ (by simp [agI])
theorem add_12 {q : Int} (ha : AgOk a) (h : AddSt w0 F L a b2 b4 b5 w) : m56_12 (AddR w0 F L) (.pointer (some ⟨b2, 0, none⟩)) (.pointer (some ⟨b4, 0, none⟩)) (.pointer (some ⟨b5, 0, none⟩)) (.int .i64 q) w := by
  obtain ⟨bb, hb, hS⟩ := h
  unfold m56_12
  refine valP_ok (eq3 _ _ _ _ _) ?_
  unfold m56_15
  refine cond_split (fun h => ?_) (fun h => ?_)
  · first | refine valP_ok (fa65_6 _ _) ?_ | refine valP_ok (fao65_6 _ _ _) ?_
    first | refine valP_ok (ld3 (hS.cell 0 rfl rfl)) ?_ | refine valP_ok (ld3 (hS.cell 1 rfl rfl)) ?_ | refine valP_ok (ld3 (hS.cell 2 rfl rfl)) ?_ | refine valP_ok (ld3 (hS.cell 3 rfl rfl)) ?_ | refine valP_ok (ld3 (hS.cell 4 rfl rfl)) ?_ | refine valP_ok (ld3 (hS.cell 5 rfl rfl)) ?_ | refine valP_ok (ld3 (hS.cell 6 rfl rfl)) ?_ | refine valP_ok (ld3 (hS.cell 7 rfl rfl)) ?_ | refine valP_ok (ld3 (by assumption)) ?_
    refine callR (by kernel_rfl) (plus_ret (im_ok ha) (by omega) hS) ?_
    rintro _ w ⟨⟨y, rfl, hy⟩, hS⟩
    first | refine valP_ok (fa65_6 _ _) ?_ | refine valP_ok (fao65_6 _ _ _) ?_
    first | refine store_at 0 st3 hS rfl (by simp) rfl ?_ | refine store_at 1 st3 hS rfl (by simp) rfl ?_ | refine store_at 2 st3 hS rfl (by simp) rfl ?_ | refine store_at 3 st3 hS rfl (by simp) rfl ?_ | refine store_at 4 st3 hS rfl (by simp) rfl ?_ | refine store_at 5 st3 hS rfl (by simp) rfl ?_ | refine store_at 6 st3 hS rfl (by simp) rfl ?_ | refine store_at 7 st3 hS rfl (by simp) rfl ?_
    intro w hS
    simp only [List.set_cons_zero, List.set_cons_succ] at hS
    exact add_13 ⟨{ bb with im := y }, hb.upd 9 hy rfl, hS⟩
  · exact add_13 ⟨bb, hb, hS⟩
theorem add_11 {q : Int} (ha : AgOk a) (h : AddSt w0 F L a b2 b4 b5 w) : m56_11 (AddR w0 F L) (.pointer (some ⟨b2, 0, none⟩)) (.pointer (some ⟨b4, 0, none⟩)) (.pointer (some ⟨b5, 0, none⟩)) (.int .i64 q) w := by
  obtain ⟨bb, hb, hS⟩ := h
  unfold m56_11
  refine valP_ok (eq3 _ _ _ _ _) ?_
  unfold m56_16
  refine cond_split (fun h => ?_) (fun h => ?_)
  · first | refine valP_ok (fa65_5 _ _) ?_ | refine valP_ok (fao65_5 _ _ _) ?_
    first | refine valP_ok (ld3 (hS.cell 0 rfl rfl)) ?_ | refine valP_ok (ld3 (hS.cell 1 rfl rfl)) ?_ | refine valP_ok (ld3 (hS.cell 2 rfl rfl)) ?_ | refine valP_ok (ld3 (hS.cell 3 rfl rfl)) ?_ | refine valP_ok (ld3 (hS.cell 4 rfl rfl)) ?_ | refine valP_ok (ld3 (hS.cell 5 rfl rfl)) ?_ | refine valP_ok (ld3 (hS.cell 6 rfl rfl)) ?_ | refine valP_ok (ld3 (hS.cell 7 rfl rfl)) ?_ | refine valP_ok (ld3 (by assumption)) ?_
    refine callR (by kernel_rfl) (plus_ret (re_ok ha) (by omega) hS) ?_
    rintro _ w ⟨⟨y, rfl, hy⟩, hS⟩
    first | refine valP_ok (fa65_5 _ _) ?_ | refine valP_ok (fao65_5 _ _ _) ?_
    first | refine store_at 0 st3 hS rfl (by simp) rfl ?_ | refine store_at 1 st3 hS rfl (by simp) rfl ?_ | refine store_at 2 st3 hS rfl (by simp) rfl ?_ | refine store_at 3 st3 hS rfl (by simp) rfl ?_ | refine store_at 4 st3 hS rfl (by simp) rfl ?_ | refine store_at 5 st3 hS rfl (by simp) rfl ?_ | refine store_at 6 st3 hS rfl (by simp) rfl ?_ | refine store_at 7 st3 hS rfl (by simp) rfl ?_
    intro w hS
    simp only [List.set_cons_zero, List.set_cons_succ] at hS
    exact add_12 ha ⟨{ bb with re := y }, hb.upd 8 hy rfl, hS⟩
  · exact add_12 ha ⟨bb, hb, hS⟩
theorem add_10 {q : Int} (ha : AgOk a) (h : AddSt w0 F L a b2 b4 b5 w) : m56_10 (AddR w0 F L) (.pointer (some ⟨b2, 0, none⟩)) (.pointer (some ⟨b4, 0, none⟩)) (.pointer (some ⟨b5, 0, none⟩)) (.int .i64 q) w := by
  obtain ⟨bb, hb, hS⟩ := h
  unfold m56_10
  refine valP_ok (eq3 _ _ _ _ _) ?_
  unfold m56_17
  refine cond_split (fun h => ?_) (fun h => ?_)
  · first | refine valP_ok (fa65_6 _ _) ?_ | refine valP_ok (fao65_6 _ _ _) ?_
    first | refine valP_ok (ld3 (hS.cell 0 rfl rfl)) ?_ | refine valP_ok (ld3 (hS.cell 1 rfl rfl)) ?_ | refine valP_ok (ld3 (hS.cell 2 rfl rfl)) ?_ | refine valP_ok (ld3 (hS.cell 3 rfl rfl)) ?_ | refine valP_ok (ld3 (hS.cell 4 rfl rfl)) ?_ | refine valP_ok (ld3 (hS.cell 5 rfl rfl)) ?_ | refine valP_ok (ld3 (hS.cell 6 rfl rfl)) ?_ | refine valP_ok (ld3 (hS.cell 7 rfl rfl)) ?_ | refine valP_ok (ld3 (by assumption)) ?_
    refine callR (by kernel_rfl) (plus_ret (im_ok ha) (by omega) hS) ?_
    rintro _ w ⟨⟨y, rfl, hy⟩, hS⟩
    first | refine valP_ok (fa65_6 _ _) ?_ | refine valP_ok (fao65_6 _ _ _) ?_
    first | refine store_at 0 st3 hS rfl (by simp) rfl ?_ | refine store_at 1 st3 hS rfl (by simp) rfl ?_ | refine store_at 2 st3 hS rfl (by simp) rfl ?_ | refine store_at 3 st3 hS rfl (by simp) rfl ?_ | refine store_at 4 st3 hS rfl (by simp) rfl ?_ | refine store_at 5 st3 hS rfl (by simp) rfl ?_ | refine store_at 6 st3 hS rfl (by simp) rfl ?_ | refine store_at 7 st3 hS rfl (by simp) rfl ?_
    intro w hS
    simp only [List.set_cons_zero, List.set_cons_succ] at hS
    exact add_11 ha ⟨{ bb with im := y }, hb.upd 9 hy rfl, hS⟩
  · exact add_11 ha ⟨bb, hb, hS⟩
theorem add_8 (ha : AgOk a) (hx : I64 x) (h : AddSt w0 F L a b2 b4 b5 w) : m56_8 (AddR w0 F L) (.int .i64 x) (.pointer (some ⟨b2, 0, none⟩)) (.pointer (some ⟨b4, 0, none⟩)) (.pointer (some ⟨b5, 0, none⟩)) w := by
  obtain ⟨bb, hb, hS⟩ := h
  have t1 := tmod_bounds x (b := 4) (by omega)
  unfold m56_8
  refine valP_ok (rem_any _ _ _ (by omega) (by omega) (by omega) (by omega) _) ?_
  refine valP_ok (add_ok _ _ _ (by omega) (by omega) _) ?_
  refine valP_ok (rem_ok _ _ _ (by omega) (by omega) (by omega) _) ?_
  unfold m56_9
  refine valP_ok (eq3 _ _ _ _ _) ?_
  unfold m56_18
  refine cond_split (fun h => ?_) (fun h => ?_)
  · first | refine valP_ok (fa65_5 _ _) ?_ | refine valP_ok (fao65_5 _ _ _) ?_
    first | refine valP_ok (ld3 (hS.cell 0 rfl rfl)) ?_ | refine valP_ok (ld3 (hS.cell 1 rfl rfl)) ?_ | refine valP_ok (ld3 (hS.cell 2 rfl rfl)) ?_ | refine valP_ok (ld3 (hS.cell 3 rfl rfl)) ?_ | refine valP_ok (ld3 (hS.cell 4 rfl rfl)) ?_ | refine valP_ok (ld3 (hS.cell 5 rfl rfl)) ?_ | refine valP_ok (ld3 (hS.cell 6 rfl rfl)) ?_ | refine valP_ok (ld3 (hS.cell 7 rfl rfl)) ?_ | refine valP_ok (ld3 (by assumption)) ?_
    refine callR (by kernel_rfl) (plus_ret (re_ok ha) (by omega) hS) ?_
    rintro _ w ⟨⟨y, rfl, hy⟩, hS⟩
    first | refine valP_ok (fa65_5 _ _) ?_ | refine valP_ok (fao65_5 _ _ _) ?_
    first | refine store_at 0 st3 hS rfl (by simp) rfl ?_ | refine store_at 1 st3 hS rfl (by simp) rfl ?_ | refine store_at 2 st3 hS rfl (by simp) rfl ?_ | refine store_at 3 st3 hS rfl (by simp) rfl ?_ | refine store_at 4 st3 hS rfl (by simp) rfl ?_ | refine store_at 5 st3 hS rfl (by simp) rfl ?_ | refine store_at 6 st3 hS rfl (by simp) rfl ?_ | refine store_at 7 st3 hS rfl (by simp) rfl ?_
    intro w hS
    simp only [List.set_cons_zero, List.set_cons_succ] at hS
    exact add_10 ha ⟨{ bb with re := y }, hb.upd 8 hy rfl, hS⟩
  · exact add_10 ha ⟨bb, hb, hS⟩
theorem add_6 (ha : AgOk a) (hx : I64 x) (h : AddSt w0 F L a b2 b4 b5 w) : m56_6 (AddR w0 F L) (.int .i64 x) (.pointer (some ⟨b2, 0, none⟩)) (.pointer (some ⟨b4, 0, none⟩)) (.pointer (some ⟨b5, 0, none⟩)) w := by
  obtain ⟨bb, hb, hS⟩ := h
  unfold m56_6
  refine callR (by kernel_rfl) (sort5_ret hS) ?_
  rintro _ w ⟨⟨k, rfl, hk4⟩, hS⟩
  unfold m56_7
  first | refine valP_ok (fa65_4 _ _) ?_ | refine valP_ok (fao65_4 _ _ _) ?_
  refine valP_ok (ixa63 hk4 _) ?_
  refine valP_ok (ld3 (hS.cell 2 rfl (ag_at a hk4))) ?_
  refine callR (by kernel_rfl) (plus_ret (hk_ok ha hk4) (by omega) hS) ?_
  rintro _ w ⟨⟨y, rfl, hy⟩, hS⟩
  first | refine valP_ok (fa65_4 _ _) ?_ | refine valP_ok (fao65_4 _ _ _) ?_
  refine valP_ok (ixa63 hk4 _) ?_
  refine store_at (i := 4 + k) 0 st3 hS rfl (by simp; omega) rfl ?_
  intro w hS
  rw [ag_set bb hk4] at hS
  simp only [List.set_cons_zero] at hS
  exact add_8 ha hx ⟨setH bb k y, setH_ok hk4 hb hy, hS⟩
theorem add_4 (ha : AgOk a) (hx : I64 x) (h : AddSt w0 F L a b2 b4 b5 w) : m56_4 (AddR w0 F L) (.int .i64 x) (.pointer (some ⟨b2, 0, none⟩)) (.pointer (some ⟨b4, 0, none⟩)) (.pointer (some ⟨b5, 0, none⟩)) w := by
  obtain ⟨bb, hb, hS⟩ := h
  unfold m56_4
  first | refine valP_ok (fa65_0 _ _) ?_ | refine valP_ok (fao65_0 _ _ _) ?_
  first | refine valP_ok (ld3 (hS.cell 0 rfl rfl)) ?_ | refine valP_ok (ld3 (hS.cell 1 rfl rfl)) ?_ | refine valP_ok (ld3 (hS.cell 2 rfl rfl)) ?_ | refine valP_ok (ld3 (hS.cell 3 rfl rfl)) ?_ | refine valP_ok (ld3 (hS.cell 4 rfl rfl)) ?_ | refine valP_ok (ld3 (hS.cell 5 rfl rfl)) ?_ | refine valP_ok (ld3 (hS.cell 6 rfl rfl)) ?_ | refine valP_ok (ld3 (hS.cell 7 rfl rfl)) ?_ | refine valP_ok (ld3 (by assumption)) ?_
  refine callR (by kernel_rfl) (plus_ret (ha _ (by simp [agI])) (by omega) hS) ?_
  rintro _ w ⟨⟨y, rfl, hy⟩, hS⟩
  first | refine valP_ok (fa65_0 _ _) ?_ | refine valP_ok (fao65_0 _ _ _) ?_
  first | refine store_at 0 st3 hS rfl (by simp) rfl ?_ | refine store_at 1 st3 hS rfl (by simp) rfl ?_ | refine store_at 2 st3 hS rfl (by simp) rfl ?_ | refine store_at 3 st3 hS rfl (by simp) rfl ?_ | refine store_at 4 st3 hS rfl (by simp) rfl ?_ | refine store_at 5 st3 hS rfl (by simp) rfl ?_ | refine store_at 6 st3 hS rfl (by simp) rfl ?_ | refine store_at 7 st3 hS rfl (by simp) rfl ?_
  intro w hS
  simp only [List.set_cons_zero, List.set_cons_succ] at hS
  have hb2 : AgOk { bb with count := y } := hb.upd 0 hy rfl
  unfold m56_5
  first | refine valP_ok (fa65_1 _ _) ?_ | refine valP_ok (fao65_1 _ _ _) ?_
  first | refine valP_ok (ld3 (hS.cell 0 rfl rfl)) ?_ | refine valP_ok (ld3 (hS.cell 1 rfl rfl)) ?_ | refine valP_ok (ld3 (hS.cell 2 rfl rfl)) ?_ | refine valP_ok (ld3 (hS.cell 3 rfl rfl)) ?_ | refine valP_ok (ld3 (hS.cell 4 rfl rfl)) ?_ | refine valP_ok (ld3 (hS.cell 5 rfl rfl)) ?_ | refine valP_ok (ld3 (hS.cell 6 rfl rfl)) ?_ | refine valP_ok (ld3 (hS.cell 7 rfl rfl)) ?_ | refine valP_ok (ld3 (by assumption)) ?_
  refine callR (by kernel_rfl) (plus_ret (ha _ (by simp [agI])) hx hS) ?_
  rintro _ w ⟨⟨z, rfl, hz⟩, hS⟩
  first | refine valP_ok (fa65_1 _ _) ?_ | refine valP_ok (fao65_1 _ _ _) ?_
  first | refine store_at 0 st3 hS rfl (by simp) rfl ?_ | refine store_at 1 st3 hS rfl (by simp) rfl ?_ | refine store_at 2 st3 hS rfl (by simp) rfl ?_ | refine store_at 3 st3 hS rfl (by simp) rfl ?_ | refine store_at 4 st3 hS rfl (by simp) rfl ?_ | refine store_at 5 st3 hS rfl (by simp) rfl ?_ | refine store_at 6 st3 hS rfl (by simp) rfl ?_ | refine store_at 7 st3 hS rfl (by simp) rfl ?_
  intro w hS
  simp only [List.set_cons_zero, List.set_cons_succ] at hS
  exact add_6 ha hx ⟨{ bb with count := y, sum := z }, hb2.upd 1 hz rfl, hS⟩
theorem add_3 (ha : AgOk a) (hx : I64 x) (h : AddSt w0 F L a b2 b4 b5 w) : m56_3 (AddR w0 F L) (.int .i64 x) (.pointer (some ⟨b2, 0, none⟩)) (.pointer (some ⟨b4, 0, none⟩)) (.pointer (some ⟨b5, 0, none⟩)) w := by
  obtain ⟨bb, hb, hS⟩ := h
  have leaf : ∀ t : Bool, m56_19 (AddR w0 F L) (.int .i64 x) (.pointer (some ⟨b2, 0, none⟩)) (.pointer (some ⟨b4, 0, none⟩)) (.pointer (some ⟨b5, 0, none⟩)) (.bool t) w := fun t => by
    unfold m56_19
    cases t with
    | true =>
      refine cond_t rfl ?_
      first | refine valP_ok (fa65_3 _ _) ?_ | refine valP_ok (fao65_3 _ _ _) ?_
      first | refine store_at 0 st3 hS rfl (by simp) rfl ?_ | refine store_at 1 st3 hS rfl (by simp) rfl ?_ | refine store_at 2 st3 hS rfl (by simp) rfl ?_ | refine store_at 3 st3 hS rfl (by simp) rfl ?_ | refine store_at 4 st3 hS rfl (by simp) rfl ?_ | refine store_at 5 st3 hS rfl (by simp) rfl ?_ | refine store_at 6 st3 hS rfl (by simp) rfl ?_ | refine store_at 7 st3 hS rfl (by simp) rfl ?_
      intro w hS
      simp only [List.set_cons_zero, List.set_cons_succ] at hS
      exact add_4 ha hx ⟨{ bb with mx := x }, hb.upd 3 hx rfl, hS⟩
    | false =>
      refine cond_f rfl ?_
      exact add_4 ha hx ⟨bb, hb, hS⟩
  unfold m56_3
  first | refine valP_ok (fa65_0 _ _) ?_ | refine valP_ok (fao65_0 _ _ _) ?_
  first | refine valP_ok (ld3 (hS.cell 0 rfl rfl)) ?_ | refine valP_ok (ld3 (hS.cell 1 rfl rfl)) ?_ | refine valP_ok (ld3 (hS.cell 2 rfl rfl)) ?_ | refine valP_ok (ld3 (hS.cell 3 rfl rfl)) ?_ | refine valP_ok (ld3 (hS.cell 4 rfl rfl)) ?_ | refine valP_ok (ld3 (hS.cell 5 rfl rfl)) ?_ | refine valP_ok (ld3 (hS.cell 6 rfl rfl)) ?_ | refine valP_ok (ld3 (hS.cell 7 rfl rfl)) ?_ | refine valP_ok (ld3 (by assumption)) ?_
  refine valP_ok (eq3 _ _ _ _ _) ?_
  first | refine cond_split (fun hc0 => ?_) (fun hc0 => ?_) | refine cond_bsplit (fun hc0 => ?_) (fun hc0 => ?_)
  · first | refine pick_dt (by first | assumption | omega) ?_ | refine pick_df (by first | assumption | omega) ?_ | refine pick_t (by first | rfl | assumption) ?_ | refine pick_f (by first | rfl | assumption) ?_ | refine pick_dt rfl ?_ | refine pick_df (not_not_intro rfl) ?_
    exact leaf _
  · first | refine valP_ok (fa65_3 _ _) ?_ | refine valP_ok (fao65_3 _ _ _) ?_
    first | refine valP_ok (ld3 (hS.cell 0 rfl rfl)) ?_ | refine valP_ok (ld3 (hS.cell 1 rfl rfl)) ?_ | refine valP_ok (ld3 (hS.cell 2 rfl rfl)) ?_ | refine valP_ok (ld3 (hS.cell 3 rfl rfl)) ?_ | refine valP_ok (ld3 (hS.cell 4 rfl rfl)) ?_ | refine valP_ok (ld3 (hS.cell 5 rfl rfl)) ?_ | refine valP_ok (ld3 (hS.cell 6 rfl rfl)) ?_ | refine valP_ok (ld3 (hS.cell 7 rfl rfl)) ?_ | refine valP_ok (ld3 (by assumption)) ?_
    refine valP_ok (gtr_ok _ _ _ _ _ _ _) ?_
    first | refine pick_dt (by first | assumption | omega) ?_ | refine pick_df (by first | assumption | omega) ?_ | refine pick_t (by first | rfl | assumption) ?_ | refine pick_f (by first | rfl | assumption) ?_ | refine pick_dt rfl ?_ | refine pick_df (not_not_intro rfl) ?_
    exact leaf _
theorem add5_ret (ha : AgOk a) (hx : I64 x) (hS : St w0 F w L) : Ret Try.prog 56 #[agv a, .int .i64 x] w (AddR w0 F L) := by
  refine s56 _ _ ?_
  unfold m56
  unfold m56_0
  refine new_ok (bx65 _ _ _ _ _ _ _ _ _ _ _) hS ?_
  intro b2 w hS
  refine new_ok (al65 _) hS ?_
  intro b4 w hS
  unfold m56_1
  first | refine ls65 0 hS rfl ?_ | refine ls65 1 hS rfl ?_ | refine ls65 2 hS rfl ?_ | refine ls65 3 hS rfl ?_ | refine ls65 4 hS rfl ?_ | refine ls65 5 hS rfl ?_ | refine ls65 6 hS rfl ?_ | refine ls65 7 hS rfl ?_ | refine valP_ok (ld65 (by assumption) (by assumption) (by assumption) (by assumption) (by assumption) (by assumption) (by assumption) (by assumption) (by assumption) (by assumption)) ?_
  refine new_ok (al65 _) hS ?_
  intro b5 w hS
  first | refine ss65 0 hS rfl rfl rfl rfl rfl rfl rfl rfl rfl rfl rfl ?_ | refine ss65 1 hS rfl rfl rfl rfl rfl rfl rfl rfl rfl rfl rfl ?_ | refine ss65 2 hS rfl rfl rfl rfl rfl rfl rfl rfl rfl rfl rfl ?_ | refine ss65 3 hS rfl rfl rfl rfl rfl rfl rfl rfl rfl rfl rfl ?_ | refine ss65 4 hS rfl rfl rfl rfl rfl rfl rfl rfl rfl rfl rfl ?_ | refine ss65 5 hS rfl rfl rfl rfl rfl rfl rfl rfl rfl rfl rfl ?_ | refine ss65 6 hS rfl rfl rfl rfl rfl rfl rfl rfl rfl rfl rfl ?_ | refine ss65 7 hS rfl rfl rfl rfl rfl rfl rfl rfl rfl rfl rfl ?_
  intro w hS
  simp only [List.set_cons_zero, List.set_cons_succ] at hS
  have leaf : ∀ t : Bool, m56_20 (AddR w0 F L) (.int .i64 x) (.pointer (some ⟨b2, 0, none⟩)) (.pointer (some ⟨b4, 0, none⟩)) (.pointer (some ⟨b5, 0, none⟩)) (.bool t) w := fun t => by
    unfold m56_20
    cases t with
    | true =>
      refine cond_t rfl ?_
      first | refine valP_ok (fa65_2 _ _) ?_ | refine valP_ok (fao65_2 _ _ _) ?_
      first | refine store_at 0 st3 hS rfl (by simp) rfl ?_ | refine store_at 1 st3 hS rfl (by simp) rfl ?_ | refine store_at 2 st3 hS rfl (by simp) rfl ?_ | refine store_at 3 st3 hS rfl (by simp) rfl ?_ | refine store_at 4 st3 hS rfl (by simp) rfl ?_ | refine store_at 5 st3 hS rfl (by simp) rfl ?_ | refine store_at 6 st3 hS rfl (by simp) rfl ?_ | refine store_at 7 st3 hS rfl (by simp) rfl ?_
      intro w hS
      simp only [List.set_cons_zero, List.set_cons_succ] at hS
      exact add_3 ha hx ⟨{ a with mn := x }, ha.upd 2 hx rfl, hS⟩
    | false =>
      refine cond_f rfl ?_
      exact add_3 ha hx ⟨a, ha, hS⟩
  unfold m56_2
  first | refine valP_ok (fa65_0 _ _) ?_ | refine valP_ok (fao65_0 _ _ _) ?_
  first | refine valP_ok (ld3 (hS.cell 0 rfl rfl)) ?_ | refine valP_ok (ld3 (hS.cell 1 rfl rfl)) ?_ | refine valP_ok (ld3 (hS.cell 2 rfl rfl)) ?_ | refine valP_ok (ld3 (hS.cell 3 rfl rfl)) ?_ | refine valP_ok (ld3 (hS.cell 4 rfl rfl)) ?_ | refine valP_ok (ld3 (hS.cell 5 rfl rfl)) ?_ | refine valP_ok (ld3 (hS.cell 6 rfl rfl)) ?_ | refine valP_ok (ld3 (hS.cell 7 rfl rfl)) ?_ | refine valP_ok (ld3 (by assumption)) ?_
  refine valP_ok (eq3 _ _ _ _ _) ?_
  first | refine cond_split (fun hc0 => ?_) (fun hc0 => ?_) | refine cond_bsplit (fun hc0 => ?_) (fun hc0 => ?_)
  · first | refine pick_dt (by first | assumption | omega) ?_ | refine pick_df (by first | assumption | omega) ?_ | refine pick_t (by first | rfl | assumption) ?_ | refine pick_f (by first | rfl | assumption) ?_ | refine pick_dt rfl ?_ | refine pick_df (not_not_intro rfl) ?_
    exact leaf _
  · first | refine valP_ok (fa65_2 _ _) ?_ | refine valP_ok (fao65_2 _ _ _) ?_
    first | refine valP_ok (ld3 (hS.cell 0 rfl rfl)) ?_ | refine valP_ok (ld3 (hS.cell 1 rfl rfl)) ?_ | refine valP_ok (ld3 (hS.cell 2 rfl rfl)) ?_ | refine valP_ok (ld3 (hS.cell 3 rfl rfl)) ?_ | refine valP_ok (ld3 (hS.cell 4 rfl rfl)) ?_ | refine valP_ok (ld3 (hS.cell 5 rfl rfl)) ?_ | refine valP_ok (ld3 (hS.cell 6 rfl rfl)) ?_ | refine valP_ok (ld3 (hS.cell 7 rfl rfl)) ?_ | refine valP_ok (ld3 (by assumption)) ?_
    refine valP_ok (lss_ok _ _ _ _ _ _ _) ?_
    first | refine pick_dt (by first | assumption | omega) ?_ | refine pick_df (by first | assumption | omega) ?_ | refine pick_t (by first | rfl | assumption) ?_ | refine pick_f (by first | rfl | assumption) ?_ | refine pick_dt rfl ?_ | refine pick_df (not_not_intro rfl) ?_
    exact leaf _
end
def Hd1 (a : Ag) : Prop := 1 ≤ a.count ∧ a.count ≤ 1099511627776 ∧ a.mn ≤ a.mx
def Hd2 (a : Ag) : Prop := hs a 4 = a.count ∧ (-1099511627776 ≤ a.re ∧ a.re ≤ 1099511627776) ∧ (-1099511627776 ≤ a.im ∧ a.im ≤ 1099511627776)
theorem mayA_iff (a : Ag) : MayA a ↔ Hd1 a ∧ (∀ j, j < 4 → 0 ≤ hk a j ∧ hk a j ≤ 1099511627776) ∧ Hd2 a ∧ absI a.re + absI a.im ≤ a.count := by
  unfold MayA Hd1 Hd2
  have e : hs a 4 = a.h0 + a.h1 + a.h2 + a.h3 := by simp only [hs, hk]; omega
  rw [e]
  constructor
  · rintro ⟨h1, ⟨p0, p1, p2, p3⟩, h3, h4, h5, h6⟩
    refine ⟨h1, fun j hj => ?_, ⟨h3, h4, h5⟩, h6⟩
    rcases four hj with rfl | rfl | rfl | rfl
    · exact p0
    · exact p1
    · exact p2
    · exact p3
  · rintro ⟨h1, h2, ⟨h3, h4, h5⟩, h6⟩
    exact ⟨h1, ⟨h2 0 (by omega), h2 1 (by omega), h2 2 (by omega), h2 3 (by omega)⟩, h3, h4, h5, h6⟩
theorem maya_ret {a : Ag} (hS : St w0 F w L) : Ret Try.prog 30 #[agv a] w fun v w' => (∃ t, v = .bool t ∧ (t = true ↔ MayA a)) ∧ St w0 F w' L := by
  have hA := mayA_iff a
  generalize MayA a = M at hA
  refine s30 _ ?_
  unfold m30
  unfold m30_0
  refine new_ok (bx65 _ _ _ _ _ _ _ _ _ _ _) hS ?_
  intro b1 w hS
  have tail : Hd1 a → (∀ j, j < 4 → 0 ≤ hk a j ∧ hk a j ≤ 1099511627776) → ∀ w, St w0 F w (Res.cells b1 65 (encAg a) :: L) → m30_4 (fun v w' => (∃ t, v = .bool t ∧ (t = true ↔ M)) ∧ St w0 F w' L) (.pointer (some ⟨b1, 0, none⟩)) (.int .i64 (hs a 4)) w := fun h1 h2 w hS => by
    have leaf : ∀ t : Bool, (t = true ↔ ¬ Hd2 a) → m30_12 (fun v w' => (∃ t, v = .bool t ∧ (t = true ↔ M)) ∧ St w0 F w' L) (.pointer (some ⟨b1, 0, none⟩)) (.bool t) w := fun t ht => by
      unfold m30_12
      cases t with
      | true =>
        refine cond_t rfl ?_
        unfold m30_13
        exact ⟨⟨_, rfl, ⟨fun h => (by cases h), fun h => absurd (hA.1 h).2.2.1 (ht.1 rfl)⟩⟩, hS.tail⟩
      | false =>
        have h3 : Hd2 a := Classical.byContradiction fun h => by have := ht.2 h; cases this
        have h3' := h3
        unfold Hd2 at h3'
        refine cond_f rfl ?_
        unfold m30_5
        first | refine valQ_ok (fa65_5 _) ?_ | refine valQ_ok (fao65_5 _ _) ?_
        first | refine valQ_load ld3 (hS.cell 0 rfl rfl) ?_ | refine valQ_load ld3 (hS.cell 1 rfl rfl) ?_ | refine valQ_load ld3 (hS.cell 2 rfl rfl) ?_ | refine valQ_load ld3 (hS.cell 3 rfl rfl) ?_ | refine valQ_load ld3 (hS.cell 4 rfl rfl) ?_ | refine valQ_load ld3 (hS.cell 5 rfl rfl) ?_ | refine valQ_load ld3 (hS.cell 6 rfl rfl) ?_ | refine valQ_load ld3 (hS.cell 7 rfl rfl) ?_ | refine valQ_load ld3 (by assumption) ?_
        first | refine valQ_ok (fa65_6 _) ?_ | refine valQ_ok (fao65_6 _ _) ?_
        first | refine valQ_load ld3 (hS.cell 0 rfl rfl) ?_ | refine valQ_load ld3 (hS.cell 1 rfl rfl) ?_ | refine valQ_load ld3 (hS.cell 2 rfl rfl) ?_ | refine valQ_load ld3 (hS.cell 3 rfl rfl) ?_ | refine valQ_load ld3 (hS.cell 4 rfl rfl) ?_ | refine valQ_load ld3 (hS.cell 5 rfl rfl) ?_ | refine valQ_load ld3 (hS.cell 6 rfl rfl) ?_ | refine valQ_load ld3 (hS.cell 7 rfl rfl) ?_ | refine valQ_load ld3 (by assumption) ?_
        refine drawn_ok hS ?_
        intro w hS
        have y2 : ∀ (p q : Int) w, St w0 F w (Res.cells b1 65 (encAg a) :: L) → p = absI a.re → q = absI a.im → m30_8 (fun v w' => (∃ t, v = .bool t ∧ (t = true ↔ M)) ∧ St w0 F w' L) (.pointer (some ⟨b1, 0, none⟩)) (.int .i64 p) (.int .i64 q) w := fun p q w hS hp hq => by
          have b1 : 0 ≤ p ∧ p ≤ 1099511627776 := by rw [hp]; unfold absI; split <;> omega
          have b2 : 0 ≤ q ∧ q ≤ 1099511627776 := by rw [hq]; unfold absI; split <;> omega
          unfold m30_8
          refine valP_ok (add_ok _ _ _ (by omega) (by omega) _) ?_
          first | refine valP_ok (fa65_0 _ _) ?_ | refine valP_ok (fao65_0 _ _ _) ?_
          first | refine valP_ok (ld3 (hS.cell 0 rfl rfl)) ?_ | refine valP_ok (ld3 (hS.cell 1 rfl rfl)) ?_ | refine valP_ok (ld3 (hS.cell 2 rfl rfl)) ?_ | refine valP_ok (ld3 (hS.cell 3 rfl rfl)) ?_ | refine valP_ok (ld3 (hS.cell 4 rfl rfl)) ?_ | refine valP_ok (ld3 (hS.cell 5 rfl rfl)) ?_ | refine valP_ok (ld3 (hS.cell 6 rfl rfl)) ?_ | refine valP_ok (ld3 (hS.cell 7 rfl rfl)) ?_ | refine valP_ok (ld3 (by assumption)) ?_
          refine valP_ok (leq_ok _ _ _ _ _ _ _) ?_
          unfold m30_9
          refine ⟨⟨_, rfl, ?_⟩, hS.tail⟩
          rw [decide_eq_true_eq, hA, hp, hq]
          exact ⟨fun h => ⟨h1, h2, h3, h⟩, fun h => h.2.2.2⟩
        have y1 : ∀ (p : Int) w, St w0 F w (Res.cells b1 65 (encAg a) :: L) → p = absI a.re → m30_7 (fun v w' => (∃ t, v = .bool t ∧ (t = true ↔ M)) ∧ St w0 F w' L) (.pointer (some ⟨b1, 0, none⟩)) (.int .i64 p) (.int .i64 a.im) w := fun p w hS hp => by
          unfold m30_7
          refine valP_ok (lss_ok _ _ _ _ _ _ _) ?_
          unfold m30_10
          refine cond_split (fun h => ?_) (fun h => ?_)
          · refine valP_ok (neg_run (by omega) (by omega) _) ?_
            exact y2 _ _ _ hS hp (by unfold absI; rw [if_pos h])
          · exact y2 _ _ _ hS hp (by unfold absI; rw [if_neg h])
        unfold m30_6
        refine valP_ok (lss_ok _ _ _ _ _ _ _) ?_
        unfold m30_11
        refine cond_split (fun h => ?_) (fun h => ?_)
        · refine valP_ok (neg_run (by omega) (by omega) _) ?_
          exact y1 _ _ hS (by unfold absI; rw [if_pos h])
        · exact y1 _ _ hS (by unfold absI; rw [if_neg h])
    unfold Hd2 at leaf
    unfold m30_4
    first | refine valP_ok (fa65_0 _ _) ?_ | refine valP_ok (fao65_0 _ _ _) ?_
    first | refine valP_ok (ld3 (hS.cell 0 rfl rfl)) ?_ | refine valP_ok (ld3 (hS.cell 1 rfl rfl)) ?_ | refine valP_ok (ld3 (hS.cell 2 rfl rfl)) ?_ | refine valP_ok (ld3 (hS.cell 3 rfl rfl)) ?_ | refine valP_ok (ld3 (hS.cell 4 rfl rfl)) ?_ | refine valP_ok (ld3 (hS.cell 5 rfl rfl)) ?_ | refine valP_ok (ld3 (hS.cell 6 rfl rfl)) ?_ | refine valP_ok (ld3 (hS.cell 7 rfl rfl)) ?_ | refine valP_ok (ld3 (by assumption)) ?_
    refine valP_ok (ne3 _ _ _ _ _) ?_
    first | refine cond_split (fun hc0 => ?_) (fun hc0 => ?_) | refine cond_bsplit (fun hc0 => ?_) (fun hc0 => ?_)
    · first | refine pick_dt (by first | assumption | omega) ?_ | refine pick_df (by first | assumption | omega) ?_ | refine pick_t (by first | rfl | assumption) ?_ | refine pick_f (by first | rfl | assumption) ?_ | refine pick_dt rfl ?_ | refine pick_df (not_not_intro rfl) ?_
      first | refine pick_dt (by first | assumption | omega) ?_ | refine pick_df (by first | assumption | omega) ?_ | refine pick_t (by first | rfl | assumption) ?_ | refine pick_f (by first | rfl | assumption) ?_ | refine pick_dt rfl ?_ | refine pick_df (not_not_intro rfl) ?_
      first | refine pick_dt (by first | assumption | omega) ?_ | refine pick_df (by first | assumption | omega) ?_ | refine pick_t (by first | rfl | assumption) ?_ | refine pick_f (by first | rfl | assumption) ?_ | refine pick_dt rfl ?_ | refine pick_df (not_not_intro rfl) ?_
      first | refine pick_dt (by first | assumption | omega) ?_ | refine pick_df (by first | assumption | omega) ?_ | refine pick_t (by first | rfl | assumption) ?_ | refine pick_f (by first | rfl | assumption) ?_ | refine pick_dt rfl ?_ | refine pick_df (not_not_intro rfl) ?_
      exact leaf _ (by simp only [decide_eq_true_eq, Bool.false_eq_true, false_iff, true_iff] <;> first | contradiction | omega)
    · first | refine valP_ok (fa65_5 _ _) ?_ | refine valP_ok (fao65_5 _ _ _) ?_
      first | refine valP_ok (ld3 (hS.cell 0 rfl rfl)) ?_ | refine valP_ok (ld3 (hS.cell 1 rfl rfl)) ?_ | refine valP_ok (ld3 (hS.cell 2 rfl rfl)) ?_ | refine valP_ok (ld3 (hS.cell 3 rfl rfl)) ?_ | refine valP_ok (ld3 (hS.cell 4 rfl rfl)) ?_ | refine valP_ok (ld3 (hS.cell 5 rfl rfl)) ?_ | refine valP_ok (ld3 (hS.cell 6 rfl rfl)) ?_ | refine valP_ok (ld3 (hS.cell 7 rfl rfl)) ?_ | refine valP_ok (ld3 (by assumption)) ?_
      refine valP_ok (lss_ok _ _ _ _ _ _ _) ?_
      first | refine pick_dt (by first | assumption | omega) ?_ | refine pick_df (by first | assumption | omega) ?_ | refine pick_t (by first | rfl | assumption) ?_ | refine pick_f (by first | rfl | assumption) ?_ | refine pick_dt rfl ?_ | refine pick_df (not_not_intro rfl) ?_
      first | refine cond_split (fun hc1 => ?_) (fun hc1 => ?_) | refine cond_bsplit (fun hc1 => ?_) (fun hc1 => ?_)
      · first | refine pick_dt (by first | assumption | omega) ?_ | refine pick_df (by first | assumption | omega) ?_ | refine pick_t (by first | rfl | assumption) ?_ | refine pick_f (by first | rfl | assumption) ?_ | refine pick_dt rfl ?_ | refine pick_df (not_not_intro rfl) ?_
        first | refine pick_dt (by first | assumption | omega) ?_ | refine pick_df (by first | assumption | omega) ?_ | refine pick_t (by first | rfl | assumption) ?_ | refine pick_f (by first | rfl | assumption) ?_ | refine pick_dt rfl ?_ | refine pick_df (not_not_intro rfl) ?_
        first | refine pick_dt (by first | assumption | omega) ?_ | refine pick_df (by first | assumption | omega) ?_ | refine pick_t (by first | rfl | assumption) ?_ | refine pick_f (by first | rfl | assumption) ?_ | refine pick_dt rfl ?_ | refine pick_df (not_not_intro rfl) ?_
        exact leaf _ (by simp only [decide_eq_true_eq, Bool.false_eq_true, false_iff, true_iff] <;> first | contradiction | omega)
      · first | refine valP_ok (fa65_5 _ _) ?_ | refine valP_ok (fao65_5 _ _ _) ?_
        first | refine valP_ok (ld3 (hS.cell 0 rfl rfl)) ?_ | refine valP_ok (ld3 (hS.cell 1 rfl rfl)) ?_ | refine valP_ok (ld3 (hS.cell 2 rfl rfl)) ?_ | refine valP_ok (ld3 (hS.cell 3 rfl rfl)) ?_ | refine valP_ok (ld3 (hS.cell 4 rfl rfl)) ?_ | refine valP_ok (ld3 (hS.cell 5 rfl rfl)) ?_ | refine valP_ok (ld3 (hS.cell 6 rfl rfl)) ?_ | refine valP_ok (ld3 (hS.cell 7 rfl rfl)) ?_ | refine valP_ok (ld3 (by assumption)) ?_
        refine valP_ok (gtr_ok _ _ _ _ _ _ _) ?_
        first | refine pick_dt (by first | assumption | omega) ?_ | refine pick_df (by first | assumption | omega) ?_ | refine pick_t (by first | rfl | assumption) ?_ | refine pick_f (by first | rfl | assumption) ?_ | refine pick_dt rfl ?_ | refine pick_df (not_not_intro rfl) ?_
        first | refine cond_split (fun hc2 => ?_) (fun hc2 => ?_) | refine cond_bsplit (fun hc2 => ?_) (fun hc2 => ?_)
        · first | refine pick_dt (by first | assumption | omega) ?_ | refine pick_df (by first | assumption | omega) ?_ | refine pick_t (by first | rfl | assumption) ?_ | refine pick_f (by first | rfl | assumption) ?_ | refine pick_dt rfl ?_ | refine pick_df (not_not_intro rfl) ?_
          first | refine pick_dt (by first | assumption | omega) ?_ | refine pick_df (by first | assumption | omega) ?_ | refine pick_t (by first | rfl | assumption) ?_ | refine pick_f (by first | rfl | assumption) ?_ | refine pick_dt rfl ?_ | refine pick_df (not_not_intro rfl) ?_
          exact leaf _ (by simp only [decide_eq_true_eq, Bool.false_eq_true, false_iff, true_iff] <;> first | contradiction | omega)
        · first | refine valP_ok (fa65_6 _ _) ?_ | refine valP_ok (fao65_6 _ _ _) ?_
          first | refine valP_ok (ld3 (hS.cell 0 rfl rfl)) ?_ | refine valP_ok (ld3 (hS.cell 1 rfl rfl)) ?_ | refine valP_ok (ld3 (hS.cell 2 rfl rfl)) ?_ | refine valP_ok (ld3 (hS.cell 3 rfl rfl)) ?_ | refine valP_ok (ld3 (hS.cell 4 rfl rfl)) ?_ | refine valP_ok (ld3 (hS.cell 5 rfl rfl)) ?_ | refine valP_ok (ld3 (hS.cell 6 rfl rfl)) ?_ | refine valP_ok (ld3 (hS.cell 7 rfl rfl)) ?_ | refine valP_ok (ld3 (by assumption)) ?_
          refine valP_ok (lss_ok _ _ _ _ _ _ _) ?_
          first | refine pick_dt (by first | assumption | omega) ?_ | refine pick_df (by first | assumption | omega) ?_ | refine pick_t (by first | rfl | assumption) ?_ | refine pick_f (by first | rfl | assumption) ?_ | refine pick_dt rfl ?_ | refine pick_df (not_not_intro rfl) ?_
          first | refine cond_split (fun hc3 => ?_) (fun hc3 => ?_) | refine cond_bsplit (fun hc3 => ?_) (fun hc3 => ?_)
          · first | refine pick_dt (by first | assumption | omega) ?_ | refine pick_df (by first | assumption | omega) ?_ | refine pick_t (by first | rfl | assumption) ?_ | refine pick_f (by first | rfl | assumption) ?_ | refine pick_dt rfl ?_ | refine pick_df (not_not_intro rfl) ?_
            exact leaf _ (by simp only [decide_eq_true_eq, Bool.false_eq_true, false_iff, true_iff] <;> first | contradiction | omega)
          · first | refine valP_ok (fa65_6 _ _) ?_ | refine valP_ok (fao65_6 _ _ _) ?_
            first | refine valP_ok (ld3 (hS.cell 0 rfl rfl)) ?_ | refine valP_ok (ld3 (hS.cell 1 rfl rfl)) ?_ | refine valP_ok (ld3 (hS.cell 2 rfl rfl)) ?_ | refine valP_ok (ld3 (hS.cell 3 rfl rfl)) ?_ | refine valP_ok (ld3 (hS.cell 4 rfl rfl)) ?_ | refine valP_ok (ld3 (hS.cell 5 rfl rfl)) ?_ | refine valP_ok (ld3 (hS.cell 6 rfl rfl)) ?_ | refine valP_ok (ld3 (hS.cell 7 rfl rfl)) ?_ | refine valP_ok (ld3 (by assumption)) ?_
            refine valP_ok (gtr_ok _ _ _ _ _ _ _) ?_
            first | refine pick_dt (by first | assumption | omega) ?_ | refine pick_df (by first | assumption | omega) ?_ | refine pick_t (by first | rfl | assumption) ?_ | refine pick_f (by first | rfl | assumption) ?_ | refine pick_dt rfl ?_ | refine pick_df (not_not_intro rfl) ?_
            exact leaf _ (by simp only [decide_eq_true_eq, Bool.false_eq_true, false_iff, true_iff] <;> first | contradiction | omega)
  have leaf : ∀ t : Bool, (t = true ↔ ¬ (1 ≤ a.count ∧ a.count ≤ 1099511627776 ∧ a.mn ≤ a.mx)) → m30_22 (fun v w' => (∃ t, v = .bool t ∧ (t = true ↔ M)) ∧ St w0 F w' L) (.pointer (some ⟨b1, 0, none⟩)) (.bool t) w := fun t ht => by
    unfold m30_22
    cases t with
    | true =>
      refine cond_t rfl ?_
      unfold m30_23
      exact ⟨⟨_, rfl, ⟨fun h => (by cases h), fun h => absurd (hA.1 h).1 (ht.1 rfl)⟩⟩, hS.tail⟩
    | false =>
      have h1 : Hd1 a := Classical.byContradiction fun h => by have := ht.2 h; cases this
      refine cond_f rfl ?_
      unfold m30_2 m30_3 m30_14
      refine loop_in (fun u w' => ∃ k : Nat, u = (.int .i64 (hs a k), .int .i64 (k : Int)) ∧ k ≤ 4 ∧ (∀ j, j < k → 0 ≤ hk a j ∧ hk a j ≤ 1099511627776) ∧ (0 ≤ hs a k ∧ hs a k ≤ k * 1099511627776) ∧ St w0 F w' (Res.cells b1 65 (encAg a) :: L)) (fun u _ => 4 - (intOf u.2).toNat) ⟨0, rfl, by omega, fun j h => by omega, by simp [hs], hS⟩ ?_
      clear hS
      rintro u w ⟨k, rfl, hk4, hno, hb, hS⟩
      simp only
      unfold m30_15
      refine valP_ok (lss_ok _ _ _ _ _ _ _) ?_
      unfold m30_21
      refine cond_split (fun h => ?_) (fun h => ?_)
      · have hkl : k < 4 := by omega
        have bad : ¬ (0 ≤ hk a k ∧ hk a k ≤ 1099511627776) → ∀ (K1 : Value × Value → World → Prop) (t : Value), t = .bool true → m30_19 (fun v w' => (∃ t, v = .bool t ∧ (t = true ↔ M)) ∧ St w0 F w' L) K1 (.pointer (some ⟨b1, 0, none⟩)) (.int .i64 (hs a k)) (.int .i64 (k : Int)) t w := fun hn K1 t ht => by
          subst ht
          unfold m30_19
          refine cond_t rfl ?_
          unfold m30_20
          exact ⟨⟨_, rfl, ⟨fun h => (by cases h), fun h => absurd ((hA.1 h).2.1 k hkl) hn⟩⟩, hS.tail⟩
        unfold m30_16
        first | refine valP_ok (fa65_4 _ _) ?_ | refine valP_ok (fao65_4 _ _ _) ?_
        refine valP_ok (ixa63 hkl _) ?_
        refine valP_ok (ld3 (hS.cell 0 rfl (ag_at a hkl))) ?_
        refine valP_ok (lss_ok _ _ _ _ _ _ _) ?_
        refine cond_split (fun h2 => ?_) (fun h2 => ?_)
        · first | refine pick_dt (by first | assumption | omega) ?_ | refine pick_df (by first | assumption | omega) ?_ | refine pick_t (by first | rfl | assumption) ?_ | refine pick_f (by first | rfl | assumption) ?_ | refine pick_dt rfl ?_ | refine pick_df (not_not_intro rfl) ?_
          exact bad (by omega) _ _ rfl
        · first | refine valP_ok (fa65_4 _ _) ?_ | refine valP_ok (fao65_4 _ _ _) ?_
          refine valP_ok (ixa63 hkl _) ?_
          refine valP_ok (ld3 (hS.cell 0 rfl (ag_at a hkl))) ?_
          refine valP_ok (gtr_ok _ _ _ _ _ _ _) ?_
          first | refine pick_dt (by first | assumption | omega) ?_ | refine pick_df (by first | assumption | omega) ?_ | refine pick_t (by first | rfl | assumption) ?_ | refine pick_f (by first | rfl | assumption) ?_ | refine pick_dt rfl ?_ | refine pick_df (not_not_intro rfl) ?_
          by_cases h3 : 1099511627776 < hk a k
          · rw [decide_eq_true h3]
            exact bad (by omega) _ _ rfl
          · rw [decide_eq_false h3]
            unfold m30_19
            refine cond_f rfl ?_
            unfold m30_18
            first | refine valP_ok (fa65_4 _ _) ?_ | refine valP_ok (fao65_4 _ _ _) ?_
            refine valP_ok (ixa63 hkl _) ?_
            refine valP_ok (ld3 (hS.cell 0 rfl (ag_at a hkl))) ?_
            refine valP_ok (add_ok _ _ _ (by omega) (by omega) _) ?_
            unfold m30_17
            refine valP_ok (add_ok _ _ _ (by omega) (by omega) _) ?_
            have e : hs a (k + 1) = hs a k + hk a k := rfl
            refine ⟨⟨k + 1, by rw [e]; rfl, by omega, fun j hj => ?_, by rw [e]; omega, hS⟩, by simp [intOf]; omega⟩
            rcases Nat.lt_or_ge j k with g1 | g1
            · exact hno j g1
            · obtain rfl : j = k := by omega
              exact ⟨by omega, by omega⟩
      · obtain rfl : k = 4 := by omega
        exact tail h1 hno w hS
  unfold m30_1
  first | refine valP_ok (fa65_0 _ _) ?_ | refine valP_ok (fao65_0 _ _ _) ?_
  first | refine valP_ok (ld3 (hS.cell 0 rfl rfl)) ?_ | refine valP_ok (ld3 (hS.cell 1 rfl rfl)) ?_ | refine valP_ok (ld3 (hS.cell 2 rfl rfl)) ?_ | refine valP_ok (ld3 (hS.cell 3 rfl rfl)) ?_ | refine valP_ok (ld3 (hS.cell 4 rfl rfl)) ?_ | refine valP_ok (ld3 (hS.cell 5 rfl rfl)) ?_ | refine valP_ok (ld3 (hS.cell 6 rfl rfl)) ?_ | refine valP_ok (ld3 (hS.cell 7 rfl rfl)) ?_ | refine valP_ok (ld3 (by assumption)) ?_
  refine valP_ok (lss_ok _ _ _ _ _ _ _) ?_
  first | refine cond_split (fun hc0 => ?_) (fun hc0 => ?_) | refine cond_bsplit (fun hc0 => ?_) (fun hc0 => ?_)
  · first | refine pick_dt (by first | assumption | omega) ?_ | refine pick_df (by first | assumption | omega) ?_ | refine pick_t (by first | rfl | assumption) ?_ | refine pick_f (by first | rfl | assumption) ?_ | refine pick_dt rfl ?_ | refine pick_df (not_not_intro rfl) ?_
    first | refine cond_split (fun hc1 => ?_) (fun hc1 => ?_) | refine cond_bsplit (fun hc1 => ?_) (fun hc1 => ?_)
    · first | refine pick_dt (by first | assumption | omega) ?_ | refine pick_df (by first | assumption | omega) ?_ | refine pick_t (by first | rfl | assumption) ?_ | refine pick_f (by first | rfl | assumption) ?_ | refine pick_dt rfl ?_ | refine pick_df (not_not_intro rfl) ?_
      exact leaf _ (by simp only [decide_eq_true_eq, Bool.false_eq_true, false_iff, true_iff] <;> first | contradiction | omega)
    · first | refine valP_ok (fa65_2 _ _) ?_ | refine valP_ok (fao65_2 _ _ _) ?_
      first | refine valP_ok (ld3 (hS.cell 0 rfl rfl)) ?_ | refine valP_ok (ld3 (hS.cell 1 rfl rfl)) ?_ | refine valP_ok (ld3 (hS.cell 2 rfl rfl)) ?_ | refine valP_ok (ld3 (hS.cell 3 rfl rfl)) ?_ | refine valP_ok (ld3 (hS.cell 4 rfl rfl)) ?_ | refine valP_ok (ld3 (hS.cell 5 rfl rfl)) ?_ | refine valP_ok (ld3 (hS.cell 6 rfl rfl)) ?_ | refine valP_ok (ld3 (hS.cell 7 rfl rfl)) ?_ | refine valP_ok (ld3 (by assumption)) ?_
      first | refine valP_ok (fa65_3 _ _) ?_ | refine valP_ok (fao65_3 _ _ _) ?_
      first | refine valP_ok (ld3 (hS.cell 0 rfl rfl)) ?_ | refine valP_ok (ld3 (hS.cell 1 rfl rfl)) ?_ | refine valP_ok (ld3 (hS.cell 2 rfl rfl)) ?_ | refine valP_ok (ld3 (hS.cell 3 rfl rfl)) ?_ | refine valP_ok (ld3 (hS.cell 4 rfl rfl)) ?_ | refine valP_ok (ld3 (hS.cell 5 rfl rfl)) ?_ | refine valP_ok (ld3 (hS.cell 6 rfl rfl)) ?_ | refine valP_ok (ld3 (hS.cell 7 rfl rfl)) ?_ | refine valP_ok (ld3 (by assumption)) ?_
      refine valP_ok (gtr_ok _ _ _ _ _ _ _) ?_
      first | refine pick_dt (by first | assumption | omega) ?_ | refine pick_df (by first | assumption | omega) ?_ | refine pick_t (by first | rfl | assumption) ?_ | refine pick_f (by first | rfl | assumption) ?_ | refine pick_dt rfl ?_ | refine pick_df (not_not_intro rfl) ?_
      exact leaf _ (by simp only [decide_eq_true_eq, Bool.false_eq_true, false_iff, true_iff] <;> first | contradiction | omega)
  · first | refine valP_ok (fa65_0 _ _) ?_ | refine valP_ok (fao65_0 _ _ _) ?_
    first | refine valP_ok (ld3 (hS.cell 0 rfl rfl)) ?_ | refine valP_ok (ld3 (hS.cell 1 rfl rfl)) ?_ | refine valP_ok (ld3 (hS.cell 2 rfl rfl)) ?_ | refine valP_ok (ld3 (hS.cell 3 rfl rfl)) ?_ | refine valP_ok (ld3 (hS.cell 4 rfl rfl)) ?_ | refine valP_ok (ld3 (hS.cell 5 rfl rfl)) ?_ | refine valP_ok (ld3 (hS.cell 6 rfl rfl)) ?_ | refine valP_ok (ld3 (hS.cell 7 rfl rfl)) ?_ | refine valP_ok (ld3 (by assumption)) ?_
    refine valP_ok (gtr_ok _ _ _ _ _ _ _) ?_
    first | refine pick_dt (by first | assumption | omega) ?_ | refine pick_df (by first | assumption | omega) ?_ | refine pick_t (by first | rfl | assumption) ?_ | refine pick_f (by first | rfl | assumption) ?_ | refine pick_dt rfl ?_ | refine pick_df (not_not_intro rfl) ?_
    first | refine cond_split (fun hc1 => ?_) (fun hc1 => ?_) | refine cond_bsplit (fun hc1 => ?_) (fun hc1 => ?_)
    · first | refine pick_dt (by first | assumption | omega) ?_ | refine pick_df (by first | assumption | omega) ?_ | refine pick_t (by first | rfl | assumption) ?_ | refine pick_f (by first | rfl | assumption) ?_ | refine pick_dt rfl ?_ | refine pick_df (not_not_intro rfl) ?_
      exact leaf _ (by simp only [decide_eq_true_eq, Bool.false_eq_true, false_iff, true_iff] <;> first | contradiction | omega)
    · first | refine valP_ok (fa65_2 _ _) ?_ | refine valP_ok (fao65_2 _ _ _) ?_
      first | refine valP_ok (ld3 (hS.cell 0 rfl rfl)) ?_ | refine valP_ok (ld3 (hS.cell 1 rfl rfl)) ?_ | refine valP_ok (ld3 (hS.cell 2 rfl rfl)) ?_ | refine valP_ok (ld3 (hS.cell 3 rfl rfl)) ?_ | refine valP_ok (ld3 (hS.cell 4 rfl rfl)) ?_ | refine valP_ok (ld3 (hS.cell 5 rfl rfl)) ?_ | refine valP_ok (ld3 (hS.cell 6 rfl rfl)) ?_ | refine valP_ok (ld3 (hS.cell 7 rfl rfl)) ?_ | refine valP_ok (ld3 (by assumption)) ?_
      first | refine valP_ok (fa65_3 _ _) ?_ | refine valP_ok (fao65_3 _ _ _) ?_
      first | refine valP_ok (ld3 (hS.cell 0 rfl rfl)) ?_ | refine valP_ok (ld3 (hS.cell 1 rfl rfl)) ?_ | refine valP_ok (ld3 (hS.cell 2 rfl rfl)) ?_ | refine valP_ok (ld3 (hS.cell 3 rfl rfl)) ?_ | refine valP_ok (ld3 (hS.cell 4 rfl rfl)) ?_ | refine valP_ok (ld3 (hS.cell 5 rfl rfl)) ?_ | refine valP_ok (ld3 (hS.cell 6 rfl rfl)) ?_ | refine valP_ok (ld3 (hS.cell 7 rfl rfl)) ?_ | refine valP_ok (ld3 (by assumption)) ?_
      refine valP_ok (gtr_ok _ _ _ _ _ _ _) ?_
      first | refine pick_dt (by first | assumption | omega) ?_ | refine pick_df (by first | assumption | omega) ?_ | refine pick_t (by first | rfl | assumption) ?_ | refine pick_f (by first | rfl | assumption) ?_ | refine pick_dt rfl ?_ | refine pick_df (not_not_intro rfl) ?_
      exact leaf _ (by simp only [decide_eq_true_eq, Bool.false_eq_true, false_iff, true_iff] <;> first | contradiction | omega)
theorem encA_size {a : Ag} (ha : AgOk a) : (encA a).size ≤ 100 := by
  unfold encA
  split
  · have := fold_size (xs := agI a) ha ⟨#[]⟩
    have e : (⟨#[]⟩ : ByteArray).size = 0 := rfl
    unfold allS
    have e2 : (agI a).length = 10 := rfl
    omega
  · exact Nat.zero_le _
theorem encode_ret {a : Ag} (ha : AgOk a) (hS : St w0 F w L) : Ret Try.prog 47 #[agv a] w fun v w' => (∃ e, v = .tuple #[.string (encA a), .int .i64 e]) ∧ St w0 F w' L := by
  refine s47 _ ?_
  unfold m47
  unfold m47_0
  refine new_ok (bx65 _ _ _ _ _ _ _ _ _ _ _) hS ?_
  intro b1 w hS
  unfold m47_1
  first | refine ls65 0 hS rfl ?_ | refine ls65 1 hS rfl ?_ | refine ls65 2 hS rfl ?_ | refine ls65 3 hS rfl ?_ | refine ls65 4 hS rfl ?_ | refine ls65 5 hS rfl ?_ | refine ls65 6 hS rfl ?_ | refine ls65 7 hS rfl ?_ | refine valP_ok (ld65 (by assumption) (by assumption) (by assumption) (by assumption) (by assumption) (by assumption) (by assumption) (by assumption) (by assumption) (by assumption)) ?_
  refine callR (by kernel_rfl) (maya_ret hS) ?_
  rintro _ w ⟨⟨t, rfl, ht⟩, hS⟩
  first | refine valP_ok (not_ok _ _) ?_ | refine valP_ok (notb_ok _ _) ?_
  unfold m47_4
  cases t with
  | false =>
    refine cond_t rfl ?_
    unfold m47_5
    exact ⟨⟨1, by unfold encA; rw [if_neg (fun h => by have := ht.2 h; cases this)]⟩, hS.tail⟩
  | true =>
    refine cond_f rfl ?_
    unfold m47_2
    first | refine valP_ok (fa65_0 _ _) ?_ | refine valP_ok (fao65_0 _ _ _) ?_
    first | refine valP_ok (ld3 (hS.cell 0 rfl rfl)) ?_ | refine valP_ok (ld3 (hS.cell 1 rfl rfl)) ?_ | refine valP_ok (ld3 (hS.cell 2 rfl rfl)) ?_ | refine valP_ok (ld3 (hS.cell 3 rfl rfl)) ?_ | refine valP_ok (ld3 (hS.cell 4 rfl rfl)) ?_ | refine valP_ok (ld3 (hS.cell 5 rfl rfl)) ?_ | refine valP_ok (ld3 (hS.cell 6 rfl rfl)) ?_ | refine valP_ok (ld3 (hS.cell 7 rfl rfl)) ?_ | refine valP_ok (ld3 (by assumption)) ?_
    first | refine valP_ok (fa65_1 _ _) ?_ | refine valP_ok (fao65_1 _ _ _) ?_
    first | refine valP_ok (ld3 (hS.cell 0 rfl rfl)) ?_ | refine valP_ok (ld3 (hS.cell 1 rfl rfl)) ?_ | refine valP_ok (ld3 (hS.cell 2 rfl rfl)) ?_ | refine valP_ok (ld3 (hS.cell 3 rfl rfl)) ?_ | refine valP_ok (ld3 (hS.cell 4 rfl rfl)) ?_ | refine valP_ok (ld3 (hS.cell 5 rfl rfl)) ?_ | refine valP_ok (ld3 (hS.cell 6 rfl rfl)) ?_ | refine valP_ok (ld3 (hS.cell 7 rfl rfl)) ?_ | refine valP_ok (ld3 (by assumption)) ?_
    first | refine valP_ok (fa65_2 _ _) ?_ | refine valP_ok (fao65_2 _ _ _) ?_
    first | refine valP_ok (ld3 (hS.cell 0 rfl rfl)) ?_ | refine valP_ok (ld3 (hS.cell 1 rfl rfl)) ?_ | refine valP_ok (ld3 (hS.cell 2 rfl rfl)) ?_ | refine valP_ok (ld3 (hS.cell 3 rfl rfl)) ?_ | refine valP_ok (ld3 (hS.cell 4 rfl rfl)) ?_ | refine valP_ok (ld3 (hS.cell 5 rfl rfl)) ?_ | refine valP_ok (ld3 (hS.cell 6 rfl rfl)) ?_ | refine valP_ok (ld3 (hS.cell 7 rfl rfl)) ?_ | refine valP_ok (ld3 (by assumption)) ?_
    first | refine valP_ok (fa65_3 _ _) ?_ | refine valP_ok (fao65_3 _ _ _) ?_
    first | refine valP_ok (ld3 (hS.cell 0 rfl rfl)) ?_ | refine valP_ok (ld3 (hS.cell 1 rfl rfl)) ?_ | refine valP_ok (ld3 (hS.cell 2 rfl rfl)) ?_ | refine valP_ok (ld3 (hS.cell 3 rfl rfl)) ?_ | refine valP_ok (ld3 (hS.cell 4 rfl rfl)) ?_ | refine valP_ok (ld3 (hS.cell 5 rfl rfl)) ?_ | refine valP_ok (ld3 (hS.cell 6 rfl rfl)) ?_ | refine valP_ok (ld3 (hS.cell 7 rfl rfl)) ?_ | refine valP_ok (ld3 (by assumption)) ?_
    first | refine valP_ok (fa65_4 _ _) ?_ | refine valP_ok (fao65_4 _ _ _) ?_
    refine valP_ok (ixa63 (k := 0) (by omega) _) ?_
    first | refine valP_ok (ld3 (hS.cell 0 rfl rfl)) ?_ | refine valP_ok (ld3 (hS.cell 1 rfl rfl)) ?_ | refine valP_ok (ld3 (hS.cell 2 rfl rfl)) ?_ | refine valP_ok (ld3 (hS.cell 3 rfl rfl)) ?_ | refine valP_ok (ld3 (hS.cell 4 rfl rfl)) ?_ | refine valP_ok (ld3 (hS.cell 5 rfl rfl)) ?_ | refine valP_ok (ld3 (hS.cell 6 rfl rfl)) ?_ | refine valP_ok (ld3 (hS.cell 7 rfl rfl)) ?_ | refine valP_ok (ld3 (by assumption)) ?_
    first | refine valP_ok (fa65_4 _ _) ?_ | refine valP_ok (fao65_4 _ _ _) ?_
    refine valP_ok (ixa63 (k := 1) (by omega) _) ?_
    first | refine valP_ok (ld3 (hS.cell 0 rfl rfl)) ?_ | refine valP_ok (ld3 (hS.cell 1 rfl rfl)) ?_ | refine valP_ok (ld3 (hS.cell 2 rfl rfl)) ?_ | refine valP_ok (ld3 (hS.cell 3 rfl rfl)) ?_ | refine valP_ok (ld3 (hS.cell 4 rfl rfl)) ?_ | refine valP_ok (ld3 (hS.cell 5 rfl rfl)) ?_ | refine valP_ok (ld3 (hS.cell 6 rfl rfl)) ?_ | refine valP_ok (ld3 (hS.cell 7 rfl rfl)) ?_ | refine valP_ok (ld3 (by assumption)) ?_
    first | refine valP_ok (fa65_4 _ _) ?_ | refine valP_ok (fao65_4 _ _ _) ?_
    refine valP_ok (ixa63 (k := 2) (by omega) _) ?_
    first | refine valP_ok (ld3 (hS.cell 0 rfl rfl)) ?_ | refine valP_ok (ld3 (hS.cell 1 rfl rfl)) ?_ | refine valP_ok (ld3 (hS.cell 2 rfl rfl)) ?_ | refine valP_ok (ld3 (hS.cell 3 rfl rfl)) ?_ | refine valP_ok (ld3 (hS.cell 4 rfl rfl)) ?_ | refine valP_ok (ld3 (hS.cell 5 rfl rfl)) ?_ | refine valP_ok (ld3 (hS.cell 6 rfl rfl)) ?_ | refine valP_ok (ld3 (hS.cell 7 rfl rfl)) ?_ | refine valP_ok (ld3 (by assumption)) ?_
    first | refine valP_ok (fa65_4 _ _) ?_ | refine valP_ok (fao65_4 _ _ _) ?_
    refine valP_ok (ixa63 (k := 3) (by omega) _) ?_
    first | refine valP_ok (ld3 (hS.cell 0 rfl rfl)) ?_ | refine valP_ok (ld3 (hS.cell 1 rfl rfl)) ?_ | refine valP_ok (ld3 (hS.cell 2 rfl rfl)) ?_ | refine valP_ok (ld3 (hS.cell 3 rfl rfl)) ?_ | refine valP_ok (ld3 (hS.cell 4 rfl rfl)) ?_ | refine valP_ok (ld3 (hS.cell 5 rfl rfl)) ?_ | refine valP_ok (ld3 (hS.cell 6 rfl rfl)) ?_ | refine valP_ok (ld3 (hS.cell 7 rfl rfl)) ?_ | refine valP_ok (ld3 (by assumption)) ?_
    first | refine valP_ok (fa65_5 _ _) ?_ | refine valP_ok (fao65_5 _ _ _) ?_
    first | refine valP_ok (ld3 (hS.cell 0 rfl rfl)) ?_ | refine valP_ok (ld3 (hS.cell 1 rfl rfl)) ?_ | refine valP_ok (ld3 (hS.cell 2 rfl rfl)) ?_ | refine valP_ok (ld3 (hS.cell 3 rfl rfl)) ?_ | refine valP_ok (ld3 (hS.cell 4 rfl rfl)) ?_ | refine valP_ok (ld3 (hS.cell 5 rfl rfl)) ?_ | refine valP_ok (ld3 (hS.cell 6 rfl rfl)) ?_ | refine valP_ok (ld3 (hS.cell 7 rfl rfl)) ?_ | refine valP_ok (ld3 (by assumption)) ?_
    first | refine valP_ok (fa65_6 _ _) ?_ | refine valP_ok (fao65_6 _ _ _) ?_
    first | refine valP_ok (ld3 (hS.cell 0 rfl rfl)) ?_ | refine valP_ok (ld3 (hS.cell 1 rfl rfl)) ?_ | refine valP_ok (ld3 (hS.cell 2 rfl rfl)) ?_ | refine valP_ok (ld3 (hS.cell 3 rfl rfl)) ?_ | refine valP_ok (ld3 (hS.cell 4 rfl rfl)) ?_ | refine valP_ok (ld3 (hS.cell 5 rfl rfl)) ?_ | refine valP_ok (ld3 (hS.cell 6 rfl rfl)) ?_ | refine valP_ok (ld3 (hS.cell 7 rfl rfl)) ?_ | refine valP_ok (ld3 (by assumption)) ?_
    refine newslice_ok (bs51_10 rfl rfl rfl rfl rfl rfl rfl rfl rfl rfl _) hS ?_
    intro b31 w hS
    refine callR (by kernel_rfl) (all_ret (xs := agI a) ha (by simp) (Bes.of_cells 0 rfl rfl) hS) ?_
    rintro _ w ⟨rfl, hS⟩
    unfold m47_3
    exact ⟨⟨0, by unfold encA; rw [if_pos (ht.1 rfl)]⟩, hS.tail.tail⟩
end

end Go.Proofs.Ytnhgdngbdoifnaa.M
