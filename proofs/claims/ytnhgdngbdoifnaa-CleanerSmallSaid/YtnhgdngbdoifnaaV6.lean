/- What a change is about; which are about the same. -/
import Derived.Test.YtnhgdngbdoifnaaV5
import Derived.Test.YtnhgdngbdoifnaaMbase0
namespace Go.Proofs.Ytnhgdngbdoifnaa.M
open Go.Proofs.Ytnhgdngbdoifnaa.F Go.RowKit
set_option linter.unusedVariables false
set_option linter.unusedSimpArgs false
set_option maxRecDepth 100000
set_option maxHeartbeats 2000000
attribute [local irreducible] Res.cells Res.row Res.map Res.any World.cell? World.frozen? Instr.fieldAt Instr.loadAt Instr.storeAt Instr.indexAt Instr.lookup Instr.mapUpdate Instr.box Instr.build Instr.buildSlice Instr.extract Instr.alloc Instr.field Instr.index Instr.sliceAt Instr.makeSlice Instr.makeMap Instr.makeFunc binS Op.unary Sem.run
structure Rc where
  key : Int
  time : Int
  text : ByteArray
abbrev encR (r : Rc) : List Value := [.int .i64 r.key, .int .i64 r.time, .string r.text]
abbrev rv (r : Rc) : Value := .agg #[.int .i64 r.key, .int .i64 r.time, .string r.text]
/-- with which number a text begins; -1: none of these. -/
def kindS (s : ByteArray) : Int := match takeS s with
  | none => -1
  | some (n, _) => if 0 ≤ n ∧ n ≤ 2 then n else -1
theorem kindS_range (s : ByteArray) : -1 ≤ kindS s ∧ kindS s ≤ 2 := by
  unfold kindS
  split
  · omega
  · split <;> omega
abbrev countsS : ByteArray := ⟨#[99, 111, 117, 110, 116, 115]⟩
def aboutR (r : Rc) : Option Rc := if kindS r.text < 0 then none else if kindS r.text = 0 then some ⟨0, 0, countsS⟩ else some ⟨r.key, r.time, ⟨#[]⟩⟩
def SameR (a b : Rc) : Prop := 0 ≤ kindS a.text ∧ 0 ≤ kindS b.text ∧ (if kindS a.text = 0 ∨ kindS b.text = 0 then kindS a.text = kindS b.text else a.key = b.key ∧ a.time = b.time)
theorem counts_ne (k t : Int) : (⟨0, 0, countsS⟩ : Rc) ≠ ⟨k, t, ⟨#[]⟩⟩ := fun h => by
  have h1 := congrArg (fun r : Rc => r.text.size) h
  have h2 : (6 : Nat) = 0 := h1
  omega
theorem same_about (a b : Rc) : SameR a b ↔ ∃ x, aboutR a = some x ∧ aboutR b = some x := by
  unfold SameR aboutR
  generalize kindS a.text = p
  generalize kindS b.text = q
  constructor
  · rintro ⟨h1, h2, h3⟩
    rw [if_neg (show ¬ p < 0 by omega), if_neg (show ¬ q < 0 by omega)]
    by_cases hp : p = 0
    · rw [if_pos (.inl hp)] at h3
      rw [if_pos hp, if_pos (show q = 0 by omega)]
      exact ⟨_, rfl, rfl⟩
    · by_cases hq : q = 0
      · rw [if_pos (.inr hq)] at h3
        omega
      · rw [if_neg (by omega)] at h3
        rw [if_neg hp, if_neg hq, h3.1, h3.2]
        exact ⟨_, rfl, rfl⟩
  · rintro ⟨x, h1, h2⟩
    by_cases ha : p < 0
    · rw [if_pos ha] at h1; cases h1
    · by_cases hb : q < 0
      · rw [if_pos hb] at h2; cases h2
      · rw [if_neg ha] at h1
        rw [if_neg hb] at h2
        refine ⟨by omega, by omega, ?_⟩
        have h3 := h1.trans h2.symm
        by_cases ha0 : p = 0
        · rw [if_pos (.inl ha0)]
          by_cases hb0 : q = 0
          · rw [ha0, hb0]
          · rw [if_pos ha0, if_neg hb0] at h3
            exact absurd (Option.some.inj h3) (counts_ne _ _)
        · by_cases hb0 : q = 0
          · rw [if_neg ha0, if_pos hb0] at h3
            exact absurd (Option.some.inj h3).symm (counts_ne _ _)
          · rw [if_neg (by omega)]
            rw [if_neg ha0, if_neg hb0] at h3
            have h4 := Rc.mk.inj (Option.some.inj h3)
            exact ⟨h4.1, h4.2.1⟩
section
variable {w0 w : World} {F : List Nat} {L : List Res}

theorem about_ret {r : Rc} (hS : St w0 F w L) : Ret Try.prog 18 #[rv r] w fun v w' => v = .tuple #[rv ((aboutR r).getD ⟨0, 0, ⟨#[]⟩⟩), .bool (aboutR r).isSome] ∧ St w0 F w' L := by
  have bad : ∀ n : Int, ∀ w b1 b2, aboutR r = none → St w0 F w (Res.cells b2 46 (encR ⟨0, 0, ⟨#[]⟩⟩) :: Res.cells b1 46 (encR r) :: L) → m18_5 (fun v w' => v = .tuple #[rv ((aboutR r).getD ⟨0, 0, ⟨#[]⟩⟩), .bool (aboutR r).isSome] ∧ St w0 F w' L) (.pointer (some ⟨b1, 0, none⟩)) (.pointer (some ⟨b2, 0, none⟩)) (.int .i64 n) (.bool true) w := fun n w b1 b2 hn hS => by
    unfold m18_5
    refine cond_t rfl ?_
    refine valP_ok (bd46 _) ?_
    first | refine ss46 0 hS rfl rfl rfl rfl ?_ | refine ss46 1 hS rfl rfl rfl rfl ?_ | refine ss46 2 hS rfl rfl rfl rfl ?_ | refine ss46 3 hS rfl rfl rfl rfl ?_ | refine ss46 4 hS rfl rfl rfl rfl ?_ | refine ss46 5 hS rfl rfl rfl rfl ?_ | refine ss46 6 hS rfl rfl rfl rfl ?_ | refine ss46 7 hS rfl rfl rfl rfl ?_
    intro w hS
    simp only [List.set_cons_zero, List.set_cons_succ] at hS
    unfold m18_6
    refine valS_ok (lc46 (hS.cell 0 rfl rfl) (hS.cell 0 rfl rfl) (hS.cell 0 rfl rfl)) ?_
    rw [hn]
    exact ⟨rfl, hS.tail.tail⟩
  refine s18 _ ?_
  unfold m18
  unfold m18_0
  refine new_ok (bx46 _ _ _ _) hS ?_
  intro b1 w hS
  refine new_ok (al46 _) hS ?_
  intro b2 w hS
  unfold m18_1
  first | refine valP_ok (fa46_2 _ _) ?_ | refine valP_ok (fao46_2 _ _ _) ?_
  first | refine valP_ok (ld9 (hS.cell 0 rfl rfl)) ?_ | refine valP_ok (ld9 (hS.cell 1 rfl rfl)) ?_ | refine valP_ok (ld9 (hS.cell 2 rfl rfl)) ?_ | refine valP_ok (ld9 (hS.cell 3 rfl rfl)) ?_ | refine valP_ok (ld9 (hS.cell 4 rfl rfl)) ?_ | refine valP_ok (ld9 (hS.cell 5 rfl rfl)) ?_ | refine valP_ok (ld9 (hS.cell 6 rfl rfl)) ?_ | refine valP_ok (ld9 (hS.cell 7 rfl rfl)) ?_ | refine valP_ok (ld9 (by assumption)) ?_
  refine callR (by kernel_rfl) (take_ret hS) ?_
  rintro _ w ⟨rfl, hS⟩
  unfold tkV
  cases htk : takeS r.text with
  | none =>
    have hn : aboutR r = none := by unfold aboutR kindS; rw [htk]; rfl
    simp only
    refine valP_ok (extract_ok _ 0 rfl _) ?_
    refine valP_ok (extract_ok _ 1 rfl _) ?_
    refine valP_ok (extract_ok _ 2 rfl _) ?_
    unfold m18_2
    refine valP_ok (ne35 _ _ _ _ _) ?_
    refine cond_dt (by omega) ?_
    first | refine pick_dt (by first | assumption | omega) ?_ | refine pick_df (by first | assumption | omega) ?_ | refine pick_t (by first | rfl | assumption) ?_ | refine pick_f (by first | rfl | assumption) ?_ | refine pick_dt rfl ?_ | refine pick_df (not_not_intro rfl) ?_
    refine cond_t rfl ?_
    first | refine pick_dt (by first | assumption | omega) ?_ | refine pick_df (by first | assumption | omega) ?_ | refine pick_t (by first | rfl | assumption) ?_ | refine pick_f (by first | rfl | assumption) ?_ | refine pick_dt rfl ?_ | refine pick_df (not_not_intro rfl) ?_
    exact bad _ _ _ _ hn hS
  | some p =>
    obtain ⟨n, x⟩ := p
    simp only
    refine valP_ok (extract_ok _ 0 rfl _) ?_
    refine valP_ok (extract_ok _ 1 rfl _) ?_
    refine valP_ok (extract_ok _ 2 rfl _) ?_
    have hk : kindS r.text = if 0 ≤ n ∧ n ≤ 2 then n else -1 := by unfold kindS; rw [htk]
    have leaf : ∀ t : Bool, (t = true ↔ ¬ (0 ≤ n ∧ n ≤ 2)) → m18_5 (fun v w' => v = .tuple #[rv ((aboutR r).getD ⟨0, 0, ⟨#[]⟩⟩), .bool (aboutR r).isSome] ∧ St w0 F w' L) (.pointer (some ⟨b1, 0, none⟩)) (.pointer (some ⟨b2, 0, none⟩)) (.int .i64 n) (.bool t) w := fun t ht => by
      cases t with
      | true =>
        have h := ht.1 rfl
        rw [if_neg h] at hk
        exact bad _ _ _ _ (by unfold aboutR; rw [hk]; rfl) hS
      | false =>
        have h : 0 ≤ n ∧ n ≤ 2 := Classical.byContradiction fun h => by have := ht.2 h; cases this
        rw [if_pos h] at hk
        unfold m18_5
        refine cond_f rfl ?_
        refine valP_ok (eq3 _ _ _ _ _) ?_
        unfold m18_7
        refine cond_split (fun h0 => ?_) (fun h0 => ?_)
        · have ha : aboutR r = some ⟨0, 0, countsS⟩ := by unfold aboutR; rw [hk, if_neg (by omega), if_pos h0]
          refine valP_ok (bd46_2 rfl _) ?_
          first | refine ss46 0 hS rfl rfl rfl rfl ?_ | refine ss46 1 hS rfl rfl rfl rfl ?_ | refine ss46 2 hS rfl rfl rfl rfl ?_ | refine ss46 3 hS rfl rfl rfl rfl ?_ | refine ss46 4 hS rfl rfl rfl rfl ?_ | refine ss46 5 hS rfl rfl rfl rfl ?_ | refine ss46 6 hS rfl rfl rfl rfl ?_ | refine ss46 7 hS rfl rfl rfl rfl ?_
          intro w hS
          simp only [List.set_cons_zero, List.set_cons_succ] at hS
          unfold m18_8
          refine valS_ok (lc46 (hS.cell 0 rfl rfl) (hS.cell 0 rfl rfl) (hS.cell 0 rfl rfl)) ?_
          rw [ha]
          exact ⟨rfl, hS.tail.tail⟩
        · have ha : aboutR r = some ⟨r.key, r.time, ⟨#[]⟩⟩ := by unfold aboutR; rw [hk, if_neg (by omega), if_neg h0]
          unfold m18_3
          first | refine valP_ok (fa46_0 _ _) ?_ | refine valP_ok (fao46_0 _ _ _) ?_
          first | refine valP_ok (ld3 (hS.cell 0 rfl rfl)) ?_ | refine valP_ok (ld3 (hS.cell 1 rfl rfl)) ?_ | refine valP_ok (ld3 (hS.cell 2 rfl rfl)) ?_ | refine valP_ok (ld3 (hS.cell 3 rfl rfl)) ?_ | refine valP_ok (ld3 (hS.cell 4 rfl rfl)) ?_ | refine valP_ok (ld3 (hS.cell 5 rfl rfl)) ?_ | refine valP_ok (ld3 (hS.cell 6 rfl rfl)) ?_ | refine valP_ok (ld3 (hS.cell 7 rfl rfl)) ?_ | refine valP_ok (ld3 (by assumption)) ?_
          first | refine valP_ok (fa46_1 _ _) ?_ | refine valP_ok (fao46_1 _ _ _) ?_
          first | refine valP_ok (ld3 (hS.cell 0 rfl rfl)) ?_ | refine valP_ok (ld3 (hS.cell 1 rfl rfl)) ?_ | refine valP_ok (ld3 (hS.cell 2 rfl rfl)) ?_ | refine valP_ok (ld3 (hS.cell 3 rfl rfl)) ?_ | refine valP_ok (ld3 (hS.cell 4 rfl rfl)) ?_ | refine valP_ok (ld3 (hS.cell 5 rfl rfl)) ?_ | refine valP_ok (ld3 (hS.cell 6 rfl rfl)) ?_ | refine valP_ok (ld3 (hS.cell 7 rfl rfl)) ?_ | refine valP_ok (ld3 (by assumption)) ?_
          refine valP_ok (bd46_0_1 rfl rfl _) ?_
          first | refine ss46 0 hS rfl rfl rfl rfl ?_ | refine ss46 1 hS rfl rfl rfl rfl ?_ | refine ss46 2 hS rfl rfl rfl rfl ?_ | refine ss46 3 hS rfl rfl rfl rfl ?_ | refine ss46 4 hS rfl rfl rfl rfl ?_ | refine ss46 5 hS rfl rfl rfl rfl ?_ | refine ss46 6 hS rfl rfl rfl rfl ?_ | refine ss46 7 hS rfl rfl rfl rfl ?_
          intro w hS
          simp only [List.set_cons_zero, List.set_cons_succ] at hS
          unfold m18_4
          refine valS_ok (lc46 (hS.cell 0 rfl rfl) (hS.cell 0 rfl rfl) (hS.cell 0 rfl rfl)) ?_
          rw [ha]
          exact ⟨rfl, hS.tail.tail⟩
    unfold m18_2
    refine valP_ok (ne35 _ _ _ _ _) ?_
    first | refine cond_split (fun hc0 => ?_) (fun hc0 => ?_) | refine cond_bsplit (fun hc0 => ?_) (fun hc0 => ?_)
    · first | refine pick_dt (by first | assumption | omega) ?_ | refine pick_df (by first | assumption | omega) ?_ | refine pick_t (by first | rfl | assumption) ?_ | refine pick_f (by first | rfl | assumption) ?_ | refine pick_dt rfl ?_ | refine pick_df (not_not_intro rfl) ?_
      first | refine cond_split (fun hc1 => ?_) (fun hc1 => ?_) | refine cond_bsplit (fun hc1 => ?_) (fun hc1 => ?_)
      · first | refine pick_dt (by first | assumption | omega) ?_ | refine pick_df (by first | assumption | omega) ?_ | refine pick_t (by first | rfl | assumption) ?_ | refine pick_f (by first | rfl | assumption) ?_ | refine pick_dt rfl ?_ | refine pick_df (not_not_intro rfl) ?_
        exact leaf _ (by simp only [decide_eq_true_eq, Bool.false_eq_true, false_iff, true_iff] <;> first | contradiction | omega)
      · refine valP_ok (gtr_ok _ _ _ _ _ _ _) ?_
        first | refine pick_dt (by first | assumption | omega) ?_ | refine pick_df (by first | assumption | omega) ?_ | refine pick_t (by first | rfl | assumption) ?_ | refine pick_f (by first | rfl | assumption) ?_ | refine pick_dt rfl ?_ | refine pick_df (not_not_intro rfl) ?_
        exact leaf _ (by simp only [decide_eq_true_eq, Bool.false_eq_true, false_iff, true_iff] <;> first | contradiction | omega)
    · refine valP_ok (lss_ok _ _ _ _ _ _ _) ?_
      first | refine pick_dt (by first | assumption | omega) ?_ | refine pick_df (by first | assumption | omega) ?_ | refine pick_t (by first | rfl | assumption) ?_ | refine pick_f (by first | rfl | assumption) ?_ | refine pick_dt rfl ?_ | refine pick_df (not_not_intro rfl) ?_
      first | refine cond_split (fun hc1 => ?_) (fun hc1 => ?_) | refine cond_bsplit (fun hc1 => ?_) (fun hc1 => ?_)
      · first | refine pick_dt (by first | assumption | omega) ?_ | refine pick_df (by first | assumption | omega) ?_ | refine pick_t (by first | rfl | assumption) ?_ | refine pick_f (by first | rfl | assumption) ?_ | refine pick_dt rfl ?_ | refine pick_df (not_not_intro rfl) ?_
        exact leaf _ (by simp only [decide_eq_true_eq, Bool.false_eq_true, false_iff, true_iff] <;> first | contradiction | omega)
      · refine valP_ok (gtr_ok _ _ _ _ _ _ _) ?_
        first | refine pick_dt (by first | assumption | omega) ?_ | refine pick_df (by first | assumption | omega) ?_ | refine pick_t (by first | rfl | assumption) ?_ | refine pick_f (by first | rfl | assumption) ?_ | refine pick_dt rfl ?_ | refine pick_df (not_not_intro rfl) ?_
        exact leaf _ (by simp only [decide_eq_true_eq, Bool.false_eq_true, false_iff, true_iff] <;> first | contradiction | omega)
theorem gone_ret {r : Rc} (hS : St w0 F w L) : Ret Try.prog 19 #[rv r] w fun v w' => v = .bool (decide (r.text = putS 2)) ∧ St w0 F w' L := by
  refine s19 _ ?_
  unfold m19
  unfold m19_0
  refine new_ok (bx46 _ _ _ _) hS ?_
  intro b1 w hS
  unfold m19_1
  refine drawn_ok hS ?_
  intro w hS
  refine held_Hs hS ?_
  first | refine valJ_ok (fa46_2 _) ?_ | refine valJ_ok (fao46_2 _ _) ?_
  first | refine valJ_load ld9 (Hs.cell 0 rfl rfl) ?_ | refine valJ_load ld9 (Hs.cell 1 rfl rfl) ?_ | refine valJ_load ld9 (Hs.cell 2 rfl rfl) ?_ | refine valJ_load ld9 (Hs.cell 3 rfl rfl) ?_ | refine valJ_load ld9 (Hs.cell 4 rfl rfl) ?_ | refine valJ_load ld9 (Hs.cell 5 rfl rfl) ?_ | refine valJ_load ld9 (Hs.cell 6 rfl rfl) ?_ | refine valJ_load ld9 (Hs.cell 7 rfl rfl) ?_ | refine valJ_load ld9 (by assumption) ?_
  refine callR (by kernel_rfl) (put_ret (by omega) hS) ?_
  rintro _ w ⟨rfl, hS⟩
  refine stay_Hs hS (by first | exact fun _ h => h | exact fun _ h => .tail _ h | exact fun _ h => .tail _ (.tail _ h) | simp) ?_
  refine valJ_ok (eq9 _ _ _ _) ?_
  unfold m19_2
  exact ⟨rfl, hS.tail⟩
end


end Go.Proofs.Ytnhgdngbdoifnaa.M
