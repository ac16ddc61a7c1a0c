/- Parts of a proof, in one text: what it needs of V6, V7, Mmid0, V8, V9, V10, V12, V13, V14, K1, Mgrid0, K2. -/
import Derived.Test.YtnhgdngbdoifnaaJCleanerKeeps2
import Derived.Test.YtnhgdngbdoifnaaProg
import Derived.DeepKeys4
import Derived.WalkArith
import Derived.Maps.Views
namespace Go.Proofs.Ytnhgdngbdoifnaa.M
open Go.Proofs.Ytnhgdngbdoifnaa.F Go.RowKit
set_option linter.unusedVariables false
set_option linter.unusedSimpArgs false
set_option maxRecDepth 100000
set_option maxHeartbeats 2000000
attribute [local irreducible] Res.cells Res.row Res.map Res.any World.cell? World.frozen? Instr.fieldAt Instr.loadAt Instr.storeAt Instr.indexAt Instr.lookup Instr.mapUpdate Instr.box Instr.build Instr.buildSlice Instr.extract Instr.alloc Instr.field Instr.index Instr.sliceAt Instr.makeSlice Instr.makeMap Instr.makeFunc binS Op.unary Sem.run
structure Rc where
  key : Int
  time : Int
  text : ByteArray
abbrev encR (r : Rc) : List Value := [.int .i64 r.key, .int .i64 r.time, .string r.text]
abbrev rv (r : Rc) : Value := .agg #[.int .i64 r.key, .int .i64 r.time, .string r.text]
def kindS (s : ByteArray) : Int := match takeS s with
  | none => -1
  | some (n, _) => if 0 ≤ n ∧ n ≤ 2 then n else -1
abbrev countsS : ByteArray := ⟨#[99, 111, 117, 110, 116, 115]⟩
def aboutR (r : Rc) : Option Rc := if kindS r.text < 0 then none else if kindS r.text = 0 then some ⟨0, 0, countsS⟩ else some ⟨r.key, r.time, ⟨#[]⟩⟩
def SameR (a b : Rc) : Prop := 0 ≤ kindS a.text ∧ 0 ≤ kindS b.text ∧ (if kindS a.text = 0 ∨ kindS b.text = 0 then kindS a.text = kindS b.text else a.key = b.key ∧ a.time = b.time)
theorem counts_ne (k t : Int) : (⟨0, 0, countsS⟩ : Rc) ≠ ⟨k, t, ⟨#[]⟩⟩ := fun h => by
  have h1 := congrArg (fun r : Rc => r.text.size) h
  have h2 : (6 : Nat) = 0 := h1
  omega
theorem same_about (a b : Rc) : SameR a b ↔ ∃ x, aboutR a = some x ∧ aboutR b = some x := by
  unfold SameR aboutR
  generalize kindS a.text = p
  generalize kindS b.text = q
  constructor
  · rintro ⟨h1, h2, h3⟩
    rw [if_neg (show ¬ p < 0 by omega), if_neg (show ¬ q < 0 by omega)]
    by_cases hp : p = 0
    · rw [if_pos (.inl hp)] at h3
      rw [if_pos hp, if_pos (show q = 0 by omega)]
      exact ⟨_, rfl, rfl⟩
    · by_cases hq : q = 0
      · rw [if_pos (.inr hq)] at h3
        omega
      · rw [if_neg (by omega)] at h3
        rw [if_neg hp, if_neg hq, h3.1, h3.2]
        exact ⟨_, rfl, rfl⟩
  · rintro ⟨x, h1, h2⟩
    by_cases ha : p < 0
    · rw [if_pos ha] at h1; cases h1
    · by_cases hb : q < 0
      · rw [if_pos hb] at h2; cases h2
      · rw [if_neg ha] at h1
        rw [if_neg hb] at h2
        refine ⟨by omega, by omega, ?_⟩
        have h3 := h1.trans h2.symm
        by_cases ha0 : p = 0
        · rw [if_pos (.inl ha0)]
          by_cases hb0 : q = 0
          · rw [ha0, hb0]
          · rw [if_pos ha0, if_neg hb0] at h3
            exact absurd (Option.some.inj h3) (counts_ne _ _)
        · by_cases hb0 : q = 0
          · rw [if_neg ha0, if_pos hb0] at h3
            exact absurd (Option.some.inj h3).symm (counts_ne _ _)
          · rw [if_neg (by omega)]
            rw [if_neg ha0, if_neg hb0] at h3
            have h4 := Rc.mk.inj (Option.some.inj h3)
            exact ⟨h4.1, h4.2.1⟩
section
variable {w0 w : World} {F : List Nat} {L : List Res}
theorem about_ret {r : Rc} (hS : St w0 F w L) : Ret Try.prog 18 #[rv r] w fun v w' => v = .tuple #[rv ((aboutR r).getD ⟨0, 0, ⟨#[]⟩⟩), .bool (aboutR r).isSome] ∧ St w0 F w' L := by
  have bad : ∀ n : Int, ∀ w b1 b2, aboutR r = none → St w0 F w (Res.cells b2 46 (encR ⟨0, 0, ⟨#[]⟩⟩) :: Res.cells b1 46 (encR r) :: L) → m18_5 (fun v w' => v = .tuple #[rv ((aboutR r).getD ⟨0, 0, ⟨#[]⟩⟩), .bool (aboutR r).isSome] ∧ St w0 F w' L) (.pointer (some ⟨b1, 0, none⟩)) (.pointer (some ⟨b2, 0, none⟩)) (.int .i64 n) (.bool true) w := fun n w b1 b2 hn hS => by
    unfold m18_5
    refine cond_t rfl ?_
    refine valP_ok (bd46 _) ?_
    first | refine ss46 0 hS rfl rfl rfl rfl ?_ | refine ss46 1 hS rfl rfl rfl rfl ?_ | refine ss46 2 hS rfl rfl rfl rfl ?_ | refine ss46 3 hS rfl rfl rfl rfl ?_ | refine ss46 4 hS rfl rfl rfl rfl ?_ | refine ss46 5 hS rfl rfl rfl rfl ?_ | refine ss46 6 hS rfl rfl rfl rfl ?_ | refine ss46 7 hS rfl rfl rfl rfl ?_
    intro w hS
    simp only [List.set_cons_zero, List.set_cons_succ] at hS
    unfold m18_6
    refine valS_ok (lc46 (hS.cell 0 rfl rfl) (hS.cell 0 rfl rfl) (hS.cell 0 rfl rfl)) ?_
    rw [hn]
    exact ⟨rfl, hS.tail.tail⟩
  refine s18 _ ?_
  unfold m18
  unfold m18_0
  refine new_ok (bx46 _ _ _ _) hS ?_
  intro b1 w hS
  refine new_ok (al46 _) hS ?_
  intro b2 w hS
  unfold m18_1
  first | refine valP_ok (fa46_2 _ _) ?_ | refine valP_ok (fao46_2 _ _ _) ?_
  first | refine valP_ok (ld9 (hS.cell 0 rfl rfl)) ?_ | refine valP_ok (ld9 (hS.cell 1 rfl rfl)) ?_ | refine valP_ok (ld9 (hS.cell 2 rfl rfl)) ?_ | refine valP_ok (ld9 (hS.cell 3 rfl rfl)) ?_ | refine valP_ok (ld9 (hS.cell 4 rfl rfl)) ?_ | refine valP_ok (ld9 (hS.cell 5 rfl rfl)) ?_ | refine valP_ok (ld9 (hS.cell 6 rfl rfl)) ?_ | refine valP_ok (ld9 (hS.cell 7 rfl rfl)) ?_ | refine valP_ok (ld9 (by assumption)) ?_
  refine callR (by kernel_rfl) (take_ret hS) ?_
  rintro _ w ⟨rfl, hS⟩
  unfold tkV
  cases htk : takeS r.text with
  | none =>
    have hn : aboutR r = none := by unfold aboutR kindS; rw [htk]; rfl
    simp only
    refine valP_ok (extract_ok _ 0 rfl _) ?_
    refine valP_ok (extract_ok _ 1 rfl _) ?_
    refine valP_ok (extract_ok _ 2 rfl _) ?_
    unfold m18_2
    refine valP_ok (ne35 _ _ _ _ _) ?_
    refine cond_dt (by omega) ?_
    first | refine pick_dt (by first | assumption | omega) ?_ | refine pick_df (by first | assumption | omega) ?_ | refine pick_t (by first | rfl | assumption) ?_ | refine pick_f (by first | rfl | assumption) ?_ | refine pick_dt rfl ?_ | refine pick_df (not_not_intro rfl) ?_
    refine cond_t rfl ?_
    first | refine pick_dt (by first | assumption | omega) ?_ | refine pick_df (by first | assumption | omega) ?_ | refine pick_t (by first | rfl | assumption) ?_ | refine pick_f (by first | rfl | assumption) ?_ | refine pick_dt rfl ?_ | refine pick_df (not_not_intro rfl) ?_
    exact bad _ _ _ _ hn hS
  | some p =>
    obtain ⟨n, x⟩ := p
    simp only
    refine valP_ok (extract_ok _ 0 rfl _) ?_
    refine valP_ok (extract_ok _ 1 rfl _) ?_
    refine valP_ok (extract_ok _ 2 rfl _) ?_
    have hk : kindS r.text = if 0 ≤ n ∧ n ≤ 2 then n else -1 := by unfold kindS; rw [htk]
    have leaf : ∀ t : Bool, (t = true ↔ ¬ (0 ≤ n ∧ n ≤ 2)) → m18_5 (fun v w' => v = .tuple #[rv ((aboutR r).getD ⟨0, 0, ⟨#[]⟩⟩), .bool (aboutR r).isSome] ∧ St w0 F w' L) (.pointer (some ⟨b1, 0, none⟩)) (.pointer (some ⟨b2, 0, none⟩)) (.int .i64 n) (.bool t) w := fun t ht => by
      cases t with
      | true =>
        have h := ht.1 rfl
        rw [if_neg h] at hk
        exact bad _ _ _ _ (by unfold aboutR; rw [hk]; rfl) hS
      | false =>
        have h : 0 ≤ n ∧ n ≤ 2 := Classical.byContradiction fun h => by have := ht.2 h; cases this
        rw [if_pos h] at hk
        unfold m18_5
        refine cond_f rfl ?_
        refine valP_ok (eq3 _ _ _ _ _) ?_
        unfold m18_7
        refine cond_split (fun h0 => ?_) (fun h0 => ?_)
        · have ha : aboutR r = some ⟨0, 0, countsS⟩ := by unfold aboutR; rw [hk, if_neg (by omega), if_pos h0]
          refine valP_ok (bd46_2 rfl _) ?_
          first | refine ss46 0 hS rfl rfl rfl rfl ?_ | refine ss46 1 hS rfl rfl rfl rfl ?_ | refine ss46 2 hS rfl rfl rfl rfl ?_ | refine ss46 3 hS rfl rfl rfl rfl ?_ | refine ss46 4 hS rfl rfl rfl rfl ?_ | refine ss46 5 hS rfl rfl rfl rfl ?_ | refine ss46 6 hS rfl rfl rfl rfl ?_ | refine ss46 7 hS rfl rfl rfl rfl ?_
          intro w hS
          simp only [List.set_cons_zero, List.set_cons_succ] at hS
          unfold m18_8
          refine valS_ok (lc46 (hS.cell 0 rfl rfl) (hS.cell 0 rfl rfl) (hS.cell 0 rfl rfl)) ?_
          rw [ha]
          exact ⟨rfl, hS.tail.tail⟩
        · have ha : aboutR r = some ⟨r.key, r.time, ⟨#[]⟩⟩ := by unfold aboutR; rw [hk, if_neg (by omega), if_neg h0]
          unfold m18_3
          first | refine valP_ok (fa46_0 _ _) ?_ | refine valP_ok (fao46_0 _ _ _) ?_
          first | refine valP_ok (ld3 (hS.cell 0 rfl rfl)) ?_ | refine valP_ok (ld3 (hS.cell 1 rfl rfl)) ?_ | refine valP_ok (ld3 (hS.cell 2 rfl rfl)) ?_ | refine valP_ok (ld3 (hS.cell 3 rfl rfl)) ?_ | refine valP_ok (ld3 (hS.cell 4 rfl rfl)) ?_ | refine valP_ok (ld3 (hS.cell 5 rfl rfl)) ?_ | refine valP_ok (ld3 (hS.cell 6 rfl rfl)) ?_ | refine valP_ok (ld3 (hS.cell 7 rfl rfl)) ?_ | refine valP_ok (ld3 (by assumption)) ?_
          first | refine valP_ok (fa46_1 _ _) ?_ | refine valP_ok (fao46_1 _ _ _) ?_
          first | refine valP_ok (ld3 (hS.cell 0 rfl rfl)) ?_ | refine valP_ok (ld3 (hS.cell 1 rfl rfl)) ?_ | refine valP_ok (ld3 (hS.cell 2 rfl rfl)) ?_ | refine valP_ok (ld3 (hS.cell 3 rfl rfl)) ?_ | refine valP_ok (ld3 (hS.cell 4 rfl rfl)) ?_ | refine valP_ok (ld3 (hS.cell 5 rfl rfl)) ?_ | refine valP_ok (ld3 (hS.cell 6 rfl rfl)) ?_ | refine valP_ok (ld3 (hS.cell 7 rfl rfl)) ?_ | refine valP_ok (ld3 (by assumption)) ?_
          refine valP_ok (bd46_0_1 rfl rfl _) ?_
          first | refine ss46 0 hS rfl rfl rfl rfl ?_ | refine ss46 1 hS rfl rfl rfl rfl ?_ | refine ss46 2 hS rfl rfl rfl rfl ?_ | refine ss46 3 hS rfl rfl rfl rfl ?_ | refine ss46 4 hS rfl rfl rfl rfl ?_ | refine ss46 5 hS rfl rfl rfl rfl ?_ | refine ss46 6 hS rfl rfl rfl rfl ?_ | refine ss46 7 hS rfl rfl rfl rfl ?_
          intro w hS
          simp only [List.set_cons_zero, List.set_cons_succ] at hS
          unfold m18_4
          refine valS_ok (lc46 (hS.cell 0 rfl rfl) (hS.cell 0 rfl rfl) (hS.cell 0 rfl rfl)) ?_
          rw [ha]
          exact ⟨rfl, hS.tail.tail⟩
    unfold m18_2
    refine valP_ok (ne35 _ _ _ _ _) ?_
    first | refine cond_split (fun hc0 => ?_) (fun hc0 => ?_) | refine cond_bsplit (fun hc0 => ?_) (fun hc0 => ?_)
    · first | refine pick_dt (by first | assumption | omega) ?_ | refine pick_df (by first | assumption | omega) ?_ | refine pick_t (by first | rfl | assumption) ?_ | refine pick_f (by first | rfl | assumption) ?_ | refine pick_dt rfl ?_ | refine pick_df (not_not_intro rfl) ?_
      first | refine cond_split (fun hc1 => ?_) (fun hc1 => ?_) | refine cond_bsplit (fun hc1 => ?_) (fun hc1 => ?_)
      · first | refine pick_dt (by first | assumption | omega) ?_ | refine pick_df (by first | assumption | omega) ?_ | refine pick_t (by first | rfl | assumption) ?_ | refine pick_f (by first | rfl | assumption) ?_ | refine pick_dt rfl ?_ | refine pick_df (not_not_intro rfl) ?_
        exact leaf _ (by simp only [decide_eq_true_eq, Bool.false_eq_true, false_iff, true_iff] <;> first | contradiction | omega)
      · refine valP_ok (gtr_ok _ _ _ _ _ _ _) ?_
        first | refine pick_dt (by first | assumption | omega) ?_ | refine pick_df (by first | assumption | omega) ?_ | refine pick_t (by first | rfl | assumption) ?_ | refine pick_f (by first | rfl | assumption) ?_ | refine pick_dt rfl ?_ | refine pick_df (not_not_intro rfl) ?_
        exact leaf _ (by simp only [decide_eq_true_eq, Bool.false_eq_true, false_iff, true_iff] <;> first | contradiction | omega)
    · refine valP_ok (lss_ok _ _ _ _ _ _ _) ?_
      first | refine pick_dt (by first | assumption | omega) ?_ | refine pick_df (by first | assumption | omega) ?_ | refine pick_t (by first | rfl | assumption) ?_ | refine pick_f (by first | rfl | assumption) ?_ | refine pick_dt rfl ?_ | refine pick_df (not_not_intro rfl) ?_
      first | refine cond_split (fun hc1 => ?_) (fun hc1 => ?_) | refine cond_bsplit (fun hc1 => ?_) (fun hc1 => ?_)
      · first | refine pick_dt (by first | assumption | omega) ?_ | refine pick_df (by first | assumption | omega) ?_ | refine pick_t (by first | rfl | assumption) ?_ | refine pick_f (by first | rfl | assumption) ?_ | refine pick_dt rfl ?_ | refine pick_df (not_not_intro rfl) ?_
        exact leaf _ (by simp only [decide_eq_true_eq, Bool.false_eq_true, false_iff, true_iff] <;> first | contradiction | omega)
      · refine valP_ok (gtr_ok _ _ _ _ _ _ _) ?_
        first | refine pick_dt (by first | assumption | omega) ?_ | refine pick_df (by first | assumption | omega) ?_ | refine pick_t (by first | rfl | assumption) ?_ | refine pick_f (by first | rfl | assumption) ?_ | refine pick_dt rfl ?_ | refine pick_df (not_not_intro rfl) ?_
        exact leaf _ (by simp only [decide_eq_true_eq, Bool.false_eq_true, false_iff, true_iff] <;> first | contradiction | omega)
theorem gone_ret {r : Rc} (hS : St w0 F w L) : Ret Try.prog 19 #[rv r] w fun v w' => v = .bool (decide (r.text = putS 2)) ∧ St w0 F w' L := by
  refine s19 _ ?_
  unfold m19
  unfold m19_0
  refine new_ok (bx46 _ _ _ _) hS ?_
  intro b1 w hS
  unfold m19_1
  refine drawn_ok hS ?_
  intro w hS
  refine held_Hs hS ?_
  first | refine valJ_ok (fa46_2 _) ?_ | refine valJ_ok (fao46_2 _ _) ?_
  first | refine valJ_load ld9 (Hs.cell 0 rfl rfl) ?_ | refine valJ_load ld9 (Hs.cell 1 rfl rfl) ?_ | refine valJ_load ld9 (Hs.cell 2 rfl rfl) ?_ | refine valJ_load ld9 (Hs.cell 3 rfl rfl) ?_ | refine valJ_load ld9 (Hs.cell 4 rfl rfl) ?_ | refine valJ_load ld9 (Hs.cell 5 rfl rfl) ?_ | refine valJ_load ld9 (Hs.cell 6 rfl rfl) ?_ | refine valJ_load ld9 (Hs.cell 7 rfl rfl) ?_ | refine valJ_load ld9 (by assumption) ?_
  refine callR (by kernel_rfl) (put_ret (by omega) hS) ?_
  rintro _ w ⟨rfl, hS⟩
  refine stay_Hs hS (by first | exact fun _ h => h | exact fun _ h => .tail _ h | exact fun _ h => .tail _ (.tail _ h) | simp) ?_
  refine valJ_ok (eq9 _ _ _ _) ?_
  unfold m19_2
  exact ⟨rfl, hS.tail⟩
end
structure Gt where
  off : Int
  r : Rc
abbrev encG (g : Gt) : List Value := [.int .i64 g.off, .int .i64 g.r.key, .int .i64 g.r.time, .string g.r.text]
abbrev BG (w0 : World) (F : List Nat) (L : List Res) (A : Option Addr) (l : List Gt) : Prop := Bes w0 F L 4 A l.length (l.flatMap encG)
abbrev grow (A : Option Addr) (c : Nat) (l : List Gt) : Res := Res.row 48 4 (.slice A l.length c) l.length (l.flatMap encG)
theorem encG_len : ∀ g, (encG g).length = 4 := fun _ => rfl
theorem encG_one : ∀ x, ∀ u ∈ encG x, u.oneCell' = true := fun x u hu => by
  simp only [List.mem_cons, List.not_mem_nil, or_false] at hu
  rcases hu with rfl | rfl | rfl | rfl <;> rfl
def Needless (l : List Gt) (i : Nat) (upto : Int) : Prop := ∃ h : i < l.length, l[i].off < upto ∧ (l[i].r.text = putS 2 ∨ ∃ (k : Nat) (hk : k < l.length), i < k ∧ l[k].off < upto ∧ SameR l[i].r l[k].r)
section
variable {w0 w : World} {F : List Nat} {L : List Res} {l : List Gt} {A : Option Addr} {c : Nat}
theorem g_at {o b i : Nat} (hr : Rd w 4 (some ⟨b, o, none⟩) l.length (l.flatMap encG)) (hi : i < l.length) : w.cell? ⟨b, o + i * 4, none⟩ = some (.int .i64 l[i].off) ∧ w.cell? ⟨b, o + i * 4 + 1, none⟩ = some (.int .i64 l[i].r.key) ∧ w.cell? ⟨b, o + i * 4 + 2, none⟩ = some (.int .i64 l[i].r.time) ∧ w.cell? ⟨b, o + i * 4 + 3, none⟩ = some (.string l[i].r.text) :=
  ⟨hr.struct encG_len hi (j := 0) (by omega) rfl, hr.struct encG_len hi (j := 1) (by omega) rfl, hr.struct encG_len hi (j := 2) (by omega) rfl, hr.struct encG_len hi (j := 3) (by omega) rfl⟩
end
end Go.Proofs.Ytnhgdngbdoifnaa.M
namespace Go.Proofs.Ytnhgdngbdoifnaa.M
open Go.Proofs.Ytnhgdngbdoifnaa.F
set_option linter.unusedVariables false
set_option maxRecDepth 100000
variable {R : VP} {Q : EQ}
def m7_20 (R : VP) (K1 : VP) (l0 upto1 last5 t16 t17 t18 : Value) (w : World) : Prop :=
  valP Try.prog (binS BinOp.add 3 (tm 18) (ci 1) t18 (vi 1)) w fun t39 w =>
  K1 t39 w
def m7_23 (R : VP) (K1 : VP) (l0 upto1 last5 i6 a8 t16 t17 t18 t35 : Value) (w : World) : Prop :=
  condP t35
  (valP Try.prog (Instr.loadAt 46 a8) w fun t37 w =>
  unitP Try.prog (Instr.mapUpdate 53 last5 t37 i6) w fun _ w =>
  m7_20 R K1 l0 upto1 last5 t16 t17 t18 w)
  (m7_20 R K1 l0 upto1 last5 t16 t17 t18 w)
def m7_22 (R : VP) (K1 : VP) (l0 upto1 last5 i6 g7 a8 ok9 t16 t17 t18 : Value) (w : World) : Prop :=
  condP ok9
  (valP Try.prog (Instr.fieldAt 48 g7 0) w fun t31 w =>
  valP Try.prog (Instr.loadAt 3 t31) w fun t32 w =>
  valP Try.prog (binS BinOp.lss 3 (tm 32) (tm 33) t32 upto1) w fun t34 w =>
  pickP ok9 t34 (Value.bool false) fun t35 =>
  m7_23 R K1 l0 upto1 last5 i6 a8 t16 t17 t18 t35 w)
  (pickP ok9 undef (Value.bool false) fun t35 =>
  m7_23 R K1 l0 upto1 last5 i6 a8 t16 t17 t18 t35 w)
def m7_21 (R : VP) (K1 : VP) (l0 upto1 last5 i6 g7 t16 t17 t18 : Value) (w : World) : Prop :=
  valP Try.prog (Instr.fieldAt 48 g7 1) w fun t24 w =>
  valP Try.prog (Instr.loadAt 46 t24) w fun t25 w =>
  callP Try.prog (fnV 18) #[t25] w fun t26 w =>
  valP Try.prog (Instr.extract t26 0) w fun t27 w =>
  valP Try.prog (Instr.extract t26 1) w fun t28 w =>
  valP Try.prog (Instr.alloc 46 true (.tuple #[])) w fun a8 w =>
  unitP Try.prog (Instr.storeAt 46 a8 t27) w fun _ w =>
  m7_22 R K1 l0 upto1 last5 i6 g7 a8 t28 t16 t17 t18 w
def m7_19 (R : VP) (K1 : VP) (l0 upto1 last5 t16 t17 t18 : Value) (w : World) : Prop :=
  valP Try.prog (Instr.indexAt 25 t16 t18) w fun t21 w =>
  valP Try.prog (Instr.loadAt 48 t21) w fun t22 w =>
  valP Try.prog (Instr.alloc 48 true (.tuple #[])) w fun g7 w =>
  unitP Try.prog (Instr.storeAt 48 g7 t22) w fun _ w =>
  m7_21 R K1 l0 upto1 last5 t18 g7 t16 t17 t18 w
def m7_11 (R : VP) (K1 : (Value × Value) → World → Prop) (upto1 last5 out10 t40 t41 t42 : Value) (w : World) : Prop :=
  valP Try.prog (binS BinOp.add 3 (tm 42) (ci 1) t42 (vi 1)) w fun t76 w =>
  K1 (out10, t76) w
def m7_14 (R : VP) (K1 : (Value × Value) → World → Prop) (upto1 last5 out10 g12 t40 t41 t42 : Value) (w : World) : Prop :=
  valP Try.prog (Instr.loadAt 48 g12) w fun t73 w =>
  valP Try.prog (Instr.buildSlice 25 1 #[(0, t73)]) w fun t74 w =>
  builtinP Try.prog Builtin.append #[25, 25] 25 #[false, false] #[out10, t74] w fun t75 w =>
  m7_11 R K1 upto1 last5 t75 t40 t41 t42 w
def m7_15 (R : VP) (K1 : (Value × Value) → World → Prop) (upto1 last5 out10 g12 t40 t41 t42 t71 : Value) (w : World) : Prop :=
  condP t71
  (m7_11 R K1 upto1 last5 out10 t40 t41 t42 w)
  (m7_14 R K1 upto1 last5 out10 g12 t40 t41 t42 w)
def m7_13 (R : VP) (K1 : (Value × Value) → World → Prop) (upto1 last5 out10 i11 g12 a13 ok14 t40 t41 t42 : Value) (w : World) : Prop :=
  valP Try.prog (Instr.fieldAt 48 g12 0) w fun t53 w =>
  valP Try.prog (Instr.loadAt 3 t53) w fun t54 w =>
  valP Try.prog (binS BinOp.lss 3 (tm 54) (tm 55) t54 upto1) w fun t56 w =>
  condP t56
  (pickP t56 ok14 (Value.bool false) fun t59 =>
  condP t59
  (valP Try.prog (Instr.loadAt 46 a13) w fun t62 w =>
  valP Try.prog (Instr.lookup 53 last5 t62 false) w fun t63 w =>
  valP Try.prog (binS BinOp.neq 3 (tm 63) (tm 64) t63 i11) w fun t65 w =>
  condP t65
  (pickP t65 (Value.bool true) undef fun t70 =>
  pickP t59 t70 (Value.bool false) fun t71 =>
  m7_15 R K1 upto1 last5 out10 g12 t40 t41 t42 t71 w)
  (valP Try.prog (Instr.fieldAt 48 g12 1) w fun t67 w =>
  valP Try.prog (Instr.loadAt 46 t67) w fun t68 w =>
  callP Try.prog (fnV 19) #[t68] w fun t69 w =>
  pickP t65 (Value.bool true) t69 fun t70 =>
  pickP t59 t70 (Value.bool false) fun t71 =>
  m7_15 R K1 upto1 last5 out10 g12 t40 t41 t42 t71 w))
  (pickP t59 undef (Value.bool false) fun t71 =>
  m7_15 R K1 upto1 last5 out10 g12 t40 t41 t42 t71 w))
  (pickP t56 undef (Value.bool false) fun t59 =>
  condP t59
  (valP Try.prog (Instr.loadAt 46 a13) w fun t62 w =>
  valP Try.prog (Instr.lookup 53 last5 t62 false) w fun t63 w =>
  valP Try.prog (binS BinOp.neq 3 (tm 63) (tm 64) t63 i11) w fun t65 w =>
  condP t65
  (pickP t65 (Value.bool true) undef fun t70 =>
  pickP t59 t70 (Value.bool false) fun t71 =>
  m7_15 R K1 upto1 last5 out10 g12 t40 t41 t42 t71 w)
  (valP Try.prog (Instr.fieldAt 48 g12 1) w fun t67 w =>
  valP Try.prog (Instr.loadAt 46 t67) w fun t68 w =>
  callP Try.prog (fnV 19) #[t68] w fun t69 w =>
  pickP t65 (Value.bool true) t69 fun t70 =>
  pickP t59 t70 (Value.bool false) fun t71 =>
  m7_15 R K1 upto1 last5 out10 g12 t40 t41 t42 t71 w))
  (pickP t59 undef (Value.bool false) fun t71 =>
  m7_15 R K1 upto1 last5 out10 g12 t40 t41 t42 t71 w))
def m7_12 (R : VP) (K1 : (Value × Value) → World → Prop) (upto1 last5 out10 i11 g12 t40 t41 t42 : Value) (w : World) : Prop :=
  valP Try.prog (Instr.fieldAt 48 g12 1) w fun t48 w =>
  valP Try.prog (Instr.loadAt 46 t48) w fun t49 w =>
  callP Try.prog (fnV 18) #[t49] w fun t50 w =>
  valP Try.prog (Instr.extract t50 0) w fun t51 w =>
  valP Try.prog (Instr.extract t50 1) w fun t52 w =>
  valP Try.prog (Instr.alloc 46 true (.tuple #[])) w fun a13 w =>
  unitP Try.prog (Instr.storeAt 46 a13 t51) w fun _ w =>
  m7_13 R K1 upto1 last5 out10 i11 g12 a13 t52 t40 t41 t42 w
def m7_10 (R : VP) (K1 : (Value × Value) → World → Prop) (upto1 last5 out10 t40 t41 t42 : Value) (w : World) : Prop :=
  valP Try.prog (Instr.indexAt 25 t40 t42) w fun t45 w =>
  valP Try.prog (Instr.loadAt 48 t45) w fun t46 w =>
  valP Try.prog (Instr.alloc 48 true (.tuple #[])) w fun g12 w =>
  unitP Try.prog (Instr.storeAt 48 g12 t46) w fun _ w =>
  m7_12 R K1 upto1 last5 out10 t42 g12 t40 t41 t42 w
def m7_6 (R : VP) (t4 : Value) (w : World) : Prop :=
  R t4 w
def m7_5 (R : VP) (out10 : Value) (w : World) : Prop :=
  m7_6 R out10 w
def m7_9 (R : VP) (K1 : (Value × Value) → World → Prop) (upto1 last5 out10 t40 t41 t42 t43 : Value) (w : World) : Prop :=
  condP t43
  (m7_10 R K1 upto1 last5 out10 t40 t41 t42 w)
  (m7_5 R out10 w)
def m7_8 (R : VP) (K1 : (Value × Value) → World → Prop) (upto1 last5 out10 t40 t41 t42 : Value) (w : World) : Prop :=
  valP Try.prog (binS BinOp.lss 3 (tm 42) (tm 41) t42 t41) w fun t43 w =>
  m7_9 R K1 upto1 last5 out10 t40 t41 t42 t43 w
def m7_7 (R : VP) (upto1 last5 out10 t40 t41 t42 : Value) (w : World) : Prop :=
  loopP (fun (K1 : (Value × Value) → World → Prop) (s : Value × Value) w => m7_8 R K1 upto1 last5 s.1 t40 t41 s.2 w) (out10, t42) w
def m7_4 (R : VP) (l0 upto1 last5 out10 : Value) (w : World) : Prop :=
  builtinP Try.prog Builtin.len #[25] 3 #[false] #[l0] w fun t41 w =>
  m7_7 R upto1 last5 out10 l0 t41 (vi 0) w
def m7_3 (R : VP) (l0 upto1 last5 : Value) (w : World) : Prop :=
  m7_4 R l0 upto1 last5 (Value.slice none 0 0) w
def m7_18 (R : VP) (K1 : VP) (l0 upto1 last5 t16 t17 t18 t19 : Value) (w : World) : Prop :=
  condP t19
  (m7_19 R K1 l0 upto1 last5 t16 t17 t18 w)
  (m7_3 R l0 upto1 last5 w)
def m7_17 (R : VP) (K1 : VP) (l0 upto1 last5 t16 t17 t18 : Value) (w : World) : Prop :=
  valP Try.prog (binS BinOp.lss 3 (tm 18) (tm 17) t18 t17) w fun t19 w =>
  m7_18 R K1 l0 upto1 last5 t16 t17 t18 t19 w
def m7_16 (R : VP) (l0 upto1 last5 t16 t17 t18 : Value) (w : World) : Prop :=
  loopP (fun (K1 : VP) (s : Value) w => m7_17 R K1 l0 upto1 last5 t16 t17 s w) t18 w
def m7_2 (R : VP) (l0 upto1 last5 : Value) (w : World) : Prop :=
  builtinP Try.prog Builtin.len #[25] 3 #[false] #[l0] w fun t17 w =>
  m7_16 R l0 upto1 last5 l0 t17 (vi 0) w
def m7_1 (R : VP) (l0 upto1 : Value) (w : World) : Prop :=
  valP Try.prog (Instr.makeMap 53 none) w fun t15 w =>
  m7_2 R l0 upto1 t15 w
def m7_0 (R : VP) (l0 upto1 : Value) (w : World) : Prop :=
  m7_1 R l0 upto1 w
abbrev W7 := cwp Try.prog (fun i => 0)
noncomputable def k7_0 := bodyOf Try.f7
noncomputable def k7_1 := c2 k7_0
noncomputable def k7_2 := c2 k7_1
noncomputable def k7_3 := c2 k7_2
noncomputable def k7_4 := c2 k7_3
noncomputable def k7_5 := c2 k7_4
noncomputable def k7_6 := c2 k7_5
noncomputable def k7_7 := c2 (c1 k7_4)
noncomputable def k7_8 := c1 (c1 k7_7)
noncomputable def k7_9 := c2 k7_8
noncomputable def k7_10 := c2 k7_9
noncomputable def k7_11 := c2 k7_10
noncomputable def k7_12 := c2 (c1 (c1 k7_10))
noncomputable def k7_13 := c2 k7_12
noncomputable def k7_14 := c2 k7_13
noncomputable def k7_15 := c2 (c1 k7_13)
noncomputable def k7_16 := c2 (c1 k7_2)
noncomputable def k7_17 := c1 (c1 k7_16)
noncomputable def k7_18 := c2 k7_17
noncomputable def k7_19 := c2 k7_18
noncomputable def k7_20 := c2 k7_19
noncomputable def k7_21 := c2 (c1 (c1 k7_19))
noncomputable def k7_22 := c2 k7_21
noncomputable def k7_23 := c2 k7_22
theorem s7_20 {K1 : VP} (hN : ∀ e w, (K1 (e 18) w) → Q .normal e w) (e : Env) (w : World) (h : m7_20 R K1 (e 0) (e 1) (e 5) (e 16) (e 17) (e 18) w) : W7 k7_20 Q e w := by
  exact rgA 8 (fun e w => K1 (e 18) w) h hN
theorem s7_23 {K1 : VP} (hN : ∀ e w, (m7_20 R K1 (e 0) (e 1) (e 5) (e 16) (e 17) (e 18) w) → Q .normal e w) (e : Env) (w : World) (h : m7_23 R K1 (e 0) (e 1) (e 5) (e 6) (e 8) (e 16) (e 17) (e 18) (e 35) w) : W7 k7_23 Q e w := by
  refine coA (Operand.tmp 35) h (fun h1 => ?_) (fun h1 => ?_)
  · exact rgA 7 (fun e w => m7_20 R K1 (e 0) (e 1) (e 5) (e 16) (e 17) (e 18) w) h1 hN
  · exact skA (hN _ _ h1)
theorem s7_22 {K1 : VP} (hN : ∀ e w, (m7_20 R K1 (e 0) (e 1) (e 5) (e 16) (e 17) (e 18) w) → Q .normal e w) (e : Env) (w : World) (h : m7_22 R K1 (e 0) (e 1) (e 5) (e 6) (e 7) (e 8) (e 9) (e 16) (e 17) (e 18) w) : W7 k7_22 Q e w := by
  refine seA ?_
  exact rgA 6 (fun e w => m7_23 R K1 (e 0) (e 1) (e 5) (e 6) (e 8) (e 16) (e 17) (e 18) (e 35) w) h fun e w h => then_N (s7_23 hN e w h)
theorem s7_21 {K1 : VP} (hN : ∀ e w, (m7_20 R K1 (e 0) (e 1) (e 5) (e 16) (e 17) (e 18) w) → Q .normal e w) (e : Env) (w : World) (h : m7_21 R K1 (e 0) (e 1) (e 5) (e 6) (e 7) (e 16) (e 17) (e 18) w) : W7 k7_21 Q e w := by
  refine seA ?_
  exact rgA 5 (fun e w => m7_22 R K1 (e 0) (e 1) (e 5) (e 6) (e 7) (e 8) (e 9) (e 16) (e 17) (e 18) w) h fun e w h => then_N (s7_22 hN e w h)
theorem s7_19 {K1 : VP} (hN : ∀ e w, (K1 (e 18) w) → Q .normal e w) (e : Env) (w : World) (h : m7_19 R K1 (e 0) (e 1) (e 5) (e 16) (e 17) (e 18) w) : W7 k7_19 Q e w := by
  refine seA ?_
  have hN : ∀ e w, (m7_20 R K1 (e 0) (e 1) (e 5) (e 16) (e 17) (e 18) w) → (thenE (W7 k7_20 Q) Q) .normal e w := fun e w h => then_N (s7_20 hN e w h)
  refine block_ok 1 (by kernel_rfl) ?_
  have hN : ∀ e w, (m7_20 R K1 (e 0) (e 1) (e 5) (e 16) (e 17) (e 18) w) → (inBlockE 1 (thenE (W7 k7_20 Q) Q)) .normal e w := fun e w h => block_N (hN e w h)
  refine seA ?_
  exact rgA 4 (fun e w => m7_21 R K1 (e 0) (e 1) (e 5) (e 6) (e 7) (e 16) (e 17) (e 18) w) h fun e w h => then_N (s7_21 (R := R) (Q := (inBlockE 1 (thenE (W7 k7_20 Q) Q))) hN e w h)
theorem s7_11 {K1 : (Value × Value) → World → Prop} (hN : ∀ e w, (K1 ((e 10), (e 42)) w) → Q .normal e w) (e : Env) (w : World) (h : m7_11 R K1 (e 1) (e 5) (e 10) (e 40) (e 41) (e 42) w) : W7 k7_11 Q e w := by
  exact rgA 16 (fun e w => K1 ((e 10), (e 42)) w) h hN
theorem s7_14 {K1 : (Value × Value) → World → Prop} (hN : ∀ e w, (m7_11 R K1 (e 1) (e 5) (e 10) (e 40) (e 41) (e 42) w) → Q .normal e w) (e : Env) (w : World) (h : m7_14 R K1 (e 1) (e 5) (e 10) (e 12) (e 40) (e 41) (e 42) w) : W7 k7_14 Q e w := by
  exact rgA 15 (fun e w => m7_11 R K1 (e 1) (e 5) (e 10) (e 40) (e 41) (e 42) w) h hN
theorem s7_15 {K1 : (Value × Value) → World → Prop} (hN : ∀ e w, (m7_14 R K1 (e 1) (e 5) (e 10) (e 12) (e 40) (e 41) (e 42) w) → Q .normal e w) (hX3 : ∀ e w, (m7_11 R K1 (e 1) (e 5) (e 10) (e 40) (e 41) (e 42) w) → Q (.exit 3) e w) (e : Env) (w : World) (h : m7_15 R K1 (e 1) (e 5) (e 10) (e 12) (e 40) (e 41) (e 42) (e 71) w) : W7 k7_15 Q e w := by
  refine coA (Operand.tmp 71) h (fun h1 => ?_) (fun h1 => ?_)
  · exact exA 3 (hX3 _ _ h1)
  · exact skA (hN _ _ h1)
theorem s7_13 {K1 : (Value × Value) → World → Prop} (hN : ∀ e w, (m7_11 R K1 (e 1) (e 5) (e 10) (e 40) (e 41) (e 42) w) → Q .normal e w) (hX3 : ∀ e w, (m7_11 R K1 (e 1) (e 5) (e 10) (e 40) (e 41) (e 42) w) → Q (.exit 3) e w) (e : Env) (w : World) (h : m7_13 R K1 (e 1) (e 5) (e 10) (e 11) (e 12) (e 13) (e 14) (e 40) (e 41) (e 42) w) : W7 k7_13 Q e w := by
  refine seA ?_
  have hN : ∀ e w, (m7_14 R K1 (e 1) (e 5) (e 10) (e 12) (e 40) (e 41) (e 42) w) → (thenE (W7 k7_14 Q) Q) .normal e w := fun e w h => then_N (s7_14 hN e w h)
  have hX3 : ∀ e w, (m7_11 R K1 (e 1) (e 5) (e 10) (e 40) (e 41) (e 42) w) → (thenE (W7 k7_14 Q) Q) (.exit 3) e w := fun e w h => then_X (hX3 e w h)
  refine seA ?_
  exact rgA 14 (fun e w => m7_15 R K1 (e 1) (e 5) (e 10) (e 12) (e 40) (e 41) (e 42) (e 71) w) h fun e w h => then_N (s7_15 hN hX3 e w h)
theorem s7_12 {K1 : (Value × Value) → World → Prop} (hN : ∀ e w, (m7_11 R K1 (e 1) (e 5) (e 10) (e 40) (e 41) (e 42) w) → Q .normal e w) (hX3 : ∀ e w, (m7_11 R K1 (e 1) (e 5) (e 10) (e 40) (e 41) (e 42) w) → Q (.exit 3) e w) (e : Env) (w : World) (h : m7_12 R K1 (e 1) (e 5) (e 10) (e 11) (e 12) (e 40) (e 41) (e 42) w) : W7 k7_12 Q e w := by
  refine seA ?_
  exact rgA 13 (fun e w => m7_13 R K1 (e 1) (e 5) (e 10) (e 11) (e 12) (e 13) (e 14) (e 40) (e 41) (e 42) w) h fun e w h => then_N (s7_13 hN hX3 e w h)
theorem s7_10 {K1 : (Value × Value) → World → Prop} (hN : ∀ e w, (K1 ((e 10), (e 42)) w) → Q .normal e w) (e : Env) (w : World) (h : m7_10 R K1 (e 1) (e 5) (e 10) (e 40) (e 41) (e 42) w) : W7 k7_10 Q e w := by
  refine seA ?_
  have hN : ∀ e w, (m7_11 R K1 (e 1) (e 5) (e 10) (e 40) (e 41) (e 42) w) → (thenE (W7 k7_11 Q) Q) .normal e w := fun e w h => then_N (s7_11 hN e w h)
  refine block_ok 3 (by kernel_rfl) ?_
  have hX3 : ∀ e w, (m7_11 R K1 (e 1) (e 5) (e 10) (e 40) (e 41) (e 42) w) → (inBlockE 3 (thenE (W7 k7_11 Q) Q)) (.exit 3) e w := fun e w h => inBlock_same (Q := (thenE (W7 k7_11 Q) Q)) 3 (hN e w h)
  have hN : ∀ e w, (m7_11 R K1 (e 1) (e 5) (e 10) (e 40) (e 41) (e 42) w) → (inBlockE 3 (thenE (W7 k7_11 Q) Q)) .normal e w := fun e w h => block_N (hN e w h)
  refine seA ?_
  exact rgA 12 (fun e w => m7_12 R K1 (e 1) (e 5) (e 10) (e 11) (e 12) (e 40) (e 41) (e 42) w) h fun e w h => then_N (s7_12 (R := R) (Q := (inBlockE 3 (thenE (W7 k7_11 Q) Q))) hN hX3 e w h)
abbrev hR7 (R : VP) (Q : EQ) : Prop := ∀ e w, (R (e 4) w) → Q .ret e w
theorem s7_6 (hR : hR7 R Q) (e : Env) (w : World) (h : m7_6 R (e 4) w) : W7 k7_6 Q e w := by
  exact reA (hR _ _ h)
theorem s7_5 (hR : hR7 R Q) (e : Env) (w : World) (h : m7_5 R (e 10) w) : W7 k7_5 Q e w := by
  refine seA ?_
  exact rgA 17 (fun e w => m7_6 R (e 4) w) h fun e w h => then_N (s7_6 hR e w h)
theorem s7_9 {K1 : (Value × Value) → World → Prop} (hN : ∀ e w, (K1 ((e 10), (e 42)) w) → Q .normal e w) (hX2 : ∀ e w, (m7_5 R (e 10) w) → Q (.exit 2) e w) (e : Env) (w : World) (h : m7_9 R K1 (e 1) (e 5) (e 10) (e 40) (e 41) (e 42) (e 43) w) : W7 k7_9 Q e w := by
  refine seA ?_
  have hN : ∀ e w, (m7_10 R K1 (e 1) (e 5) (e 10) (e 40) (e 41) (e 42) w) → (thenE (W7 k7_10 Q) Q) .normal e w := fun e w h => then_N (s7_10 hN e w h)
  have hX2 : ∀ e w, (m7_5 R (e 10) w) → (thenE (W7 k7_10 Q) Q) (.exit 2) e w := fun e w h => then_X (hX2 e w h)
  refine coA (Operand.tmp 43) h (fun h1 => ?_) (fun h1 => ?_)
  · exact skA (hN _ _ h1)
  · exact exA 2 (hX2 _ _ h1)
theorem s7_8 {K1 : (Value × Value) → World → Prop} (hN : ∀ e w, (K1 ((e 10), (e 42)) w) → Q .normal e w) (hX2 : ∀ e w, (m7_5 R (e 10) w) → Q (.exit 2) e w) (e : Env) (w : World) (h : m7_8 R K1 (e 1) (e 5) (e 10) (e 40) (e 41) (e 42) w) : W7 k7_8 Q e w := by
  refine seA ?_
  exact rgA 11 (fun e w => m7_9 R K1 (e 1) (e 5) (e 10) (e 40) (e 41) (e 42) (e 43) w) h fun e w h => then_N (s7_9 hN hX2 e w h)
theorem s7_7 (hN : ∀ e w, (m7_5 R (e 10) w) → Q .normal e w) (e : Env) (w : World) (h : m7_7 R (e 1) (e 5) (e 10) (e 40) (e 41) (e 42) w) : W7 k7_7 Q e w := by
  refine block_ok 2 (by kernel_rfl) ?_
  have hX2 : ∀ e w, (m7_5 R (e 10) w) → (inBlockE 2 Q) (.exit 2) e w := fun e w h => inBlock_same (Q := Q) 2 (hN e w h)
  refine loop_ok' (fun (e : Env) => (e 10, e 42)) [1, 5, 40, 41] (by kernel_rfl) (by kernel_rfl) h (fun K e' w' hk h' => ?_)
  have r1 : e' 1 = e 1 := hk 1 (by decide)
  have r5 : e' 5 = e 5 := hk 5 (by decide)
  have r40 : e' 40 = e 40 := hk 40 (by decide)
  have r41 : e' 41 = e 41 := hk 41 (by decide)
  have hX2 : ∀ e w, (m7_5 R (e 10) w) → (thenE (fun (e : Env) w => K ((e 10), (e 42)) w) (inBlockE 2 Q)) (.exit 2) e w := fun e w h => then_X (hX2 e w h)
  exact s7_8 (K1 := K) (fun _ _ h => then_N h) hX2 e' w' (by rw [r1, r5, r40, r41]; exact h')
theorem s7_4 (hR : hR7 R Q) (e : Env) (w : World) (h : m7_4 R (e 0) (e 1) (e 5) (e 10) w) : W7 k7_4 Q e w := by
  refine seA ?_
  have hN : ∀ e w, (m7_5 R (e 10) w) → (thenE (W7 k7_5 Q) Q) .normal e w := fun e w h => then_N (s7_5 hR e w h)
  refine seA ?_
  exact rgA 10 (fun e w => m7_7 R (e 1) (e 5) (e 10) (e 40) (e 41) (e 42) w) h fun e w h => then_N (s7_7 hN e w h)
theorem s7_3 (hR : hR7 R Q) (e : Env) (w : World) (h : m7_3 R (e 0) (e 1) (e 5) w) : W7 k7_3 Q e w := by
  refine seA ?_
  exact rgA 9 (fun e w => m7_4 R (e 0) (e 1) (e 5) (e 10) w) h fun e w h => then_N (s7_4 hR e w h)
theorem s7_18 {K1 : VP} (hN : ∀ e w, (K1 (e 18) w) → Q .normal e w) (hX0 : ∀ e w, (m7_3 R (e 0) (e 1) (e 5) w) → Q (.exit 0) e w) (e : Env) (w : World) (h : m7_18 R K1 (e 0) (e 1) (e 5) (e 16) (e 17) (e 18) (e 19) w) : W7 k7_18 Q e w := by
  refine seA ?_
  have hN : ∀ e w, (m7_19 R K1 (e 0) (e 1) (e 5) (e 16) (e 17) (e 18) w) → (thenE (W7 k7_19 Q) Q) .normal e w := fun e w h => then_N (s7_19 hN e w h)
  have hX0 : ∀ e w, (m7_3 R (e 0) (e 1) (e 5) w) → (thenE (W7 k7_19 Q) Q) (.exit 0) e w := fun e w h => then_X (hX0 e w h)
  refine coA (Operand.tmp 19) h (fun h1 => ?_) (fun h1 => ?_)
  · exact skA (hN _ _ h1)
  · exact exA 0 (hX0 _ _ h1)
theorem s7_17 {K1 : VP} (hN : ∀ e w, (K1 (e 18) w) → Q .normal e w) (hX0 : ∀ e w, (m7_3 R (e 0) (e 1) (e 5) w) → Q (.exit 0) e w) (e : Env) (w : World) (h : m7_17 R K1 (e 0) (e 1) (e 5) (e 16) (e 17) (e 18) w) : W7 k7_17 Q e w := by
  refine seA ?_
  exact rgA 3 (fun e w => m7_18 R K1 (e 0) (e 1) (e 5) (e 16) (e 17) (e 18) (e 19) w) h fun e w h => then_N (s7_18 hN hX0 e w h)
theorem s7_16 (hN : ∀ e w, (m7_3 R (e 0) (e 1) (e 5) w) → Q .normal e w) (e : Env) (w : World) (h : m7_16 R (e 0) (e 1) (e 5) (e 16) (e 17) (e 18) w) : W7 k7_16 Q e w := by
  refine block_ok 0 (by kernel_rfl) ?_
  have hX0 : ∀ e w, (m7_3 R (e 0) (e 1) (e 5) w) → (inBlockE 0 Q) (.exit 0) e w := fun e w h => inBlock_same (Q := Q) 0 (hN e w h)
  refine loop_ok' (fun (e : Env) => e 18) [0, 1, 5, 16, 17] (by kernel_rfl) (by kernel_rfl) h (fun K e' w' hk h' => ?_)
  have r0 : e' 0 = e 0 := hk 0 (by decide)
  have r1 : e' 1 = e 1 := hk 1 (by decide)
  have r5 : e' 5 = e 5 := hk 5 (by decide)
  have r16 : e' 16 = e 16 := hk 16 (by decide)
  have r17 : e' 17 = e 17 := hk 17 (by decide)
  have hX0 : ∀ e w, (m7_3 R (e 0) (e 1) (e 5) w) → (thenE (fun (e : Env) w => K (e 18) w) (inBlockE 0 Q)) (.exit 0) e w := fun e w h => then_X (hX0 e w h)
  exact s7_17 (K1 := K) (fun _ _ h => then_N h) hX0 e' w' (by rw [r0, r1, r5, r16, r17]; exact h')
theorem s7_2 (hR : hR7 R Q) (e : Env) (w : World) (h : m7_2 R (e 0) (e 1) (e 5) w) : W7 k7_2 Q e w := by
  refine seA ?_
  have hN : ∀ e w, (m7_3 R (e 0) (e 1) (e 5) w) → (thenE (W7 k7_3 Q) Q) .normal e w := fun e w h => then_N (s7_3 hR e w h)
  refine seA ?_
  exact rgA 2 (fun e w => m7_16 R (e 0) (e 1) (e 5) (e 16) (e 17) (e 18) w) h fun e w h => then_N (s7_16 hN e w h)
theorem s7_1 (hR : hR7 R Q) (e : Env) (w : World) (h : m7_1 R (e 0) (e 1) w) : W7 k7_1 Q e w := by
  refine seA ?_
  exact rgA 1 (fun e w => m7_2 R (e 0) (e 1) (e 5) w) h fun e w h => then_N (s7_2 hR e w h)
theorem s7_0 (hR : hR7 R Q) (e : Env) (w : World) (h : m7_0 R (e 0) (e 1) w) : W7 k7_0 Q e w := by
  refine seA ?_
  exact rgA 0 (fun e w => m7_1 R (e 0) (e 1) w) h fun e w h => then_N (s7_1 hR e w h)
abbrev m7 (R : VP) (l0 upto1 : Value) (w : World) : Prop := m7_0 R l0 upto1 w
theorem s7 (l0 upto1 : Value) {R : VP} {w : World} (h : m7 R l0 upto1 w) :
    Calls Try.prog 7 #[l0, upto1] w fun e w' => ∃ v, e = .returned v ∧ R v w' :=
  calls_of_cwp (st := (fun i => 0)) (c := k7_0) (by kernel_rfl) Try.func7 (by kernel_rfl) (Nat.le_of_ble_eq_true (by kernel_rfl)) (by kernel_rfl)
    (s7_0 (R := R) (Q := endE Try.prog Try.f7 R) (fun e w h => kcast (by kernel_rfl) h) (argsE #[l0, upto1]) w (kcast (by kernel_rfl) h))
def m8_13 (R : VP) (t4 : Value) (w : World) : Prop :=
  R t4 w
def m8_10 (R : VP) (K1 : VP) (t4 : Value) (w : World) : Prop :=
  R t4 w
def m8_8 (R : VP) (K1 : VP) (a0 b1 i5 : Value) (w : World) : Prop :=
  valP Try.prog (binS BinOp.add 3 (tm 15) (ci 1) i5 (vi 1)) w fun t16 w =>
  K1 t16 w
def m8_9 (R : VP) (K1 : VP) (a0 b1 i5 t25 : Value) (w : World) : Prop :=
  condP t25
  (m8_10 R K1 (Value.bool false) w)
  (m8_8 R K1 a0 b1 i5 w)
def m8_7 (R : VP) (K1 : VP) (a0 b1 i5 : Value) (w : World) : Prop :=
  valQ Try.prog (Instr.indexAt 25 a0 i5) w fun t19 =>
  valQ Try.prog (Instr.loadAt 48 t19) w fun t20 =>
  valQ Try.prog (Instr.indexAt 25 b1 i5) w fun t23 =>
  valQ Try.prog (Instr.loadAt 48 t23) w fun t24 =>
  valQ Try.prog (binS BinOp.neq 48 (tm 20) (tm 24) t20 t24) w fun t25 =>
  anyDraw w fun w =>
  m8_9 R K1 a0 b1 i5 t25 w
def m8_4 (R : VP) (t4 : Value) (w : World) : Prop :=
  R t4 w
def m8_3 (R : VP) (w : World) : Prop :=
  m8_4 R (Value.bool true) w
def m8_11 (R : VP) (K1 : VP) (a0 b1 i5 t14 : Value) (w : World) : Prop :=
  condP t14
  (m8_7 R K1 a0 b1 i5 w)
  (m8_3 R w)
def m8_6 (R : VP) (K1 : VP) (a0 b1 i5 : Value) (w : World) : Prop :=
  builtinP Try.prog Builtin.len #[25] 3 #[false] #[a0] w fun t13 w =>
  valP Try.prog (binS BinOp.lss 3 (tm 11) (tm 13) i5 t13) w fun t14 w =>
  m8_11 R K1 a0 b1 i5 t14 w
def m8_5 (R : VP) (a0 b1 i5 : Value) (w : World) : Prop :=
  loopP (fun (K1 : VP) (s : Value) w => m8_6 R K1 a0 b1 s w) i5 w
def m8_2 (R : VP) (a0 b1 : Value) (w : World) : Prop :=
  m8_5 R a0 b1 (vi 0) w
def m8_12 (R : VP) (a0 b1 t10 : Value) (w : World) : Prop :=
  condP t10
  (m8_13 R (Value.bool false) w)
  (m8_2 R a0 b1 w)
def m8_1 (R : VP) (a0 b1 : Value) (w : World) : Prop :=
  builtinP Try.prog Builtin.len #[25] 3 #[false] #[a0] w fun t7 w =>
  builtinP Try.prog Builtin.len #[25] 3 #[false] #[b1] w fun t9 w =>
  valP Try.prog (binS BinOp.neq 3 (tm 7) (tm 9) t7 t9) w fun t10 w =>
  m8_12 R a0 b1 t10 w
def m8_0 (R : VP) (a0 b1 : Value) (w : World) : Prop :=
  m8_1 R a0 b1 w
abbrev W8 := cwp Try.prog (fun i => cond (Nat.beq i 6) 1 (0))
noncomputable def k8_0 := bodyOf Try.f8
noncomputable def k8_1 := c2 k8_0
noncomputable def k8_2 := c2 k8_1
noncomputable def k8_3 := c2 k8_2
noncomputable def k8_4 := c2 k8_3
noncomputable def k8_5 := c2 (c1 k8_2)
noncomputable def k8_6 := c1 (c1 k8_5)
noncomputable def k8_7 := c2 k8_6
noncomputable def k8_8 := c2 k8_7
noncomputable def k8_9 := c2 (c1 (c1 k8_7))
noncomputable def k8_10 := c2 (c1 k8_9)
noncomputable def k8_11 := c2 (c1 k8_6)
noncomputable def k8_12 := c2 (c1 k8_1)
noncomputable def k8_13 := c2 (c1 k8_12)
abbrev hR8 (R : VP) (Q : EQ) : Prop := ∀ e w, (R (e 4) w) → Q .ret e w
theorem s8_13 (hR : hR8 R Q) (e : Env) (w : World) (h : m8_13 R (e 4) w) : W8 k8_13 Q e w := by
  exact reA (hR _ _ h)
theorem s8_10 {K1 : VP} (hR : hR8 R Q) (e : Env) (w : World) (h : m8_10 R K1 (e 4) w) : W8 k8_10 Q e w := by
  exact reA (hR _ _ h)
theorem s8_8 {K1 : VP} (hN : ∀ e w, (K1 (e 5) w) → Q .normal e w) (e : Env) (w : World) (h : m8_8 R K1 (e 0) (e 1) (e 5) w) : W8 k8_8 Q e w := by
  exact rgA 5 (fun e w => K1 (e 5) w) h hN
theorem s8_9 {K1 : VP} (hN : ∀ e w, (m8_8 R K1 (e 0) (e 1) (e 5) w) → Q .normal e w) (hR : hR8 R Q) (e : Env) (w : World) (h : m8_9 R K1 (e 0) (e 1) (e 5) (e 25) w) : W8 k8_9 Q e w := by
  refine coA (Operand.tmp 25) h (fun h1 => ?_) (fun h1 => ?_)
  · refine seA ?_
    exact rgA 7 (fun e w => m8_10 R K1 (e 4) w) h1 fun e w h => then_N (s8_10 hR e w h)
  · exact skA (hN _ _ h1)
theorem s8_7 {K1 : VP} (hN : ∀ e w, (K1 (e 5) w) → Q .normal e w) (hR : hR8 R Q) (e : Env) (w : World) (h : m8_7 R K1 (e 0) (e 1) (e 5) w) : W8 k8_7 Q e w := by
  refine seA ?_
  have hN : ∀ e w, (m8_8 R K1 (e 0) (e 1) (e 5) w) → (thenE (W8 k8_8 Q) Q) .normal e w := fun e w h => then_N (s8_8 hN e w h)
  have hR : hR8 R (thenE (W8 k8_8 Q) Q) := fun e w h => then_R (hR e w h)
  refine block_ok 1 (by kernel_rfl) ?_
  have hN : ∀ e w, (m8_8 R K1 (e 0) (e 1) (e 5) w) → (inBlockE 1 (thenE (W8 k8_8 Q) Q)) .normal e w := fun e w h => block_N (hN e w h)
  have hR : hR8 R (inBlockE 1 (thenE (W8 k8_8 Q) Q)) := fun e w h => block_R (hR e w h)
  refine seA ?_
  have hN : ∀ e w, (m8_9 R K1 (e 0) (e 1) (e 5) (e 25) w) → (thenE (W8 k8_9 (inBlockE 1 (thenE (W8 k8_8 Q) Q))) (inBlockE 1 (thenE (W8 k8_8 Q) Q))) .normal e w := fun e w h => then_N (s8_9 (R := R) (Q := (inBlockE 1 (thenE (W8 k8_8 Q) Q))) hN hR e w h)
  exact quA 6 (fun e w => m8_9 R K1 (e 0) (e 1) (e 5) (e 25) w) h hN
theorem s8_4 (hR : hR8 R Q) (e : Env) (w : World) (h : m8_4 R (e 4) w) : W8 k8_4 Q e w := by
  exact reA (hR _ _ h)
theorem s8_3 (hR : hR8 R Q) (e : Env) (w : World) (h : m8_3 R w) : W8 k8_3 Q e w := by
  refine seA ?_
  exact rgA 8 (fun e w => m8_4 R (e 4) w) h fun e w h => then_N (s8_4 hR e w h)
theorem s8_11 {K1 : VP} (hN : ∀ e w, (m8_7 R K1 (e 0) (e 1) (e 5) w) → Q .normal e w) (hX0 : ∀ e w, (m8_3 R w) → Q (.exit 0) e w) (e : Env) (w : World) (h : m8_11 R K1 (e 0) (e 1) (e 5) (e 14) w) : W8 k8_11 Q e w := by
  refine coA (Operand.tmp 14) h (fun h1 => ?_) (fun h1 => ?_)
  · exact skA (hN _ _ h1)
  · exact exA 0 (hX0 _ _ h1)
theorem s8_6 {K1 : VP} (hN : ∀ e w, (K1 (e 5) w) → Q .normal e w) (hR : hR8 R Q) (hX0 : ∀ e w, (m8_3 R w) → Q (.exit 0) e w) (e : Env) (w : World) (h : m8_6 R K1 (e 0) (e 1) (e 5) w) : W8 k8_6 Q e w := by
  refine seA ?_
  have hN : ∀ e w, (m8_7 R K1 (e 0) (e 1) (e 5) w) → (thenE (W8 k8_7 Q) Q) .normal e w := fun e w h => then_N (s8_7 hN hR e w h)
  have hX0 : ∀ e w, (m8_3 R w) → (thenE (W8 k8_7 Q) Q) (.exit 0) e w := fun e w h => then_X (hX0 e w h)
  refine seA ?_
  exact rgA 4 (fun e w => m8_11 R K1 (e 0) (e 1) (e 5) (e 14) w) h fun e w h => then_N (s8_11 hN hX0 e w h)
theorem s8_5 (hN : ∀ e w, (m8_3 R w) → Q .normal e w) (hR : hR8 R Q) (e : Env) (w : World) (h : m8_5 R (e 0) (e 1) (e 5) w) : W8 k8_5 Q e w := by
  refine block_ok 0 (by kernel_rfl) ?_
  have hX0 : ∀ e w, (m8_3 R w) → (inBlockE 0 Q) (.exit 0) e w := fun e w h => inBlock_same (Q := Q) 0 (hN e w h)
  have hR : hR8 R (inBlockE 0 Q) := fun e w h => block_R (hR e w h)
  refine loop_ok' (fun (e : Env) => e 5) [0, 1] (by kernel_rfl) (by kernel_rfl) h (fun K e' w' hk h' => ?_)
  have r0 : e' 0 = e 0 := hk 0 (by decide)
  have r1 : e' 1 = e 1 := hk 1 (by decide)
  have hR : hR8 R (thenE (fun (e : Env) w => K (e 5) w) (inBlockE 0 Q)) := fun e w h => then_R (hR e w h)
  have hX0 : ∀ e w, (m8_3 R w) → (thenE (fun (e : Env) w => K (e 5) w) (inBlockE 0 Q)) (.exit 0) e w := fun e w h => then_X (hX0 e w h)
  exact s8_6 (K1 := K) (fun _ _ h => then_N h) hR hX0 e' w' (by rw [r0, r1]; exact h')
theorem s8_2 (hR : hR8 R Q) (e : Env) (w : World) (h : m8_2 R (e 0) (e 1) w) : W8 k8_2 Q e w := by
  refine seA ?_
  have hN : ∀ e w, (m8_3 R w) → (thenE (W8 k8_3 Q) Q) .normal e w := fun e w h => then_N (s8_3 hR e w h)
  have hR : hR8 R (thenE (W8 k8_3 Q) Q) := fun e w h => then_R (hR e w h)
  refine seA ?_
  exact rgA 3 (fun e w => m8_5 R (e 0) (e 1) (e 5) w) h fun e w h => then_N (s8_5 hN hR e w h)
theorem s8_12 (hN : ∀ e w, (m8_2 R (e 0) (e 1) w) → Q .normal e w) (hR : hR8 R Q) (e : Env) (w : World) (h : m8_12 R (e 0) (e 1) (e 10) w) : W8 k8_12 Q e w := by
  refine coA (Operand.tmp 10) h (fun h1 => ?_) (fun h1 => ?_)
  · refine seA ?_
    exact rgA 2 (fun e w => m8_13 R (e 4) w) h1 fun e w h => then_N (s8_13 hR e w h)
  · exact skA (hN _ _ h1)
theorem s8_1 (hR : hR8 R Q) (e : Env) (w : World) (h : m8_1 R (e 0) (e 1) w) : W8 k8_1 Q e w := by
  refine seA ?_
  have hN : ∀ e w, (m8_2 R (e 0) (e 1) w) → (thenE (W8 k8_2 Q) Q) .normal e w := fun e w h => then_N (s8_2 hR e w h)
  have hR : hR8 R (thenE (W8 k8_2 Q) Q) := fun e w h => then_R (hR e w h)
  refine seA ?_
  exact rgA 1 (fun e w => m8_12 R (e 0) (e 1) (e 10) w) h fun e w h => then_N (s8_12 hN hR e w h)
theorem s8_0 (hR : hR8 R Q) (e : Env) (w : World) (h : m8_0 R (e 0) (e 1) w) : W8 k8_0 Q e w := by
  refine seA ?_
  exact rgA 0 (fun e w => m8_1 R (e 0) (e 1) w) h fun e w h => then_N (s8_1 hR e w h)
abbrev m8 (R : VP) (a0 b1 : Value) (w : World) : Prop := m8_0 R a0 b1 w
theorem s8 (a0 b1 : Value) {R : VP} {w : World} (h : m8 R a0 b1 w) :
    Calls Try.prog 8 #[a0, b1] w fun e w' => ∃ v, e = .returned v ∧ R v w' :=
  calls_of_cwp (st := (fun i => cond (Nat.beq i 6) 1 (0))) (c := k8_0) (by kernel_rfl) Try.func8 (by kernel_rfl) (Nat.le_of_ble_eq_true (by kernel_rfl)) (by kernel_rfl)
    (s8_0 (R := R) (Q := endE Try.prog Try.f8 R) (fun e w h => kcast (by kernel_rfl) h) (argsE #[a0, b1]) w (kcast (by kernel_rfl) h))
def m6_4 (R : VP) (t0 : Value) (w : World) : Prop :=
  R t0 w
def m6_3 (R : VP) (l3 : Value) (w : World) : Prop :=
  anyDraw w fun w =>
  pureP Try.prog (Instr.sliceAt 25 l3 (some (vi 2)) none none) fun t23 =>
  callP Try.prog (fnV 7) #[l3, (vi 4)] w fun t21 w =>
  callP Try.prog (fnV 8) #[t21, t23] w fun t24 w =>
  condP t24
  (pureP Try.prog (Instr.sliceAt 25 l3 (some (vi 1)) none none) fun t29 =>
  callP Try.prog (fnV 7) #[l3, (vi 3)] w fun t27 w =>
  callP Try.prog (fnV 8) #[t27, t29] w fun t30 w =>
  pickP t24 t30 (Value.bool false) fun t31 =>
  m6_4 R t31 w)
  (pickP t24 undef (Value.bool false) fun t31 =>
  m6_4 R t31 w)
def m6_2 (R : VP) (counts1 window2 : Value) (w : World) : Prop :=
  valP Try.prog (Instr.build 46 #[(2, counts1)]) w fun t8 w =>
  valP Try.prog (Instr.build 48 #[(1, t8)]) w fun t9 w =>
  valP Try.prog (Instr.build 46 #[(0, (vi 7)), (2, window2)]) w fun t11 w =>
  valP Try.prog (Instr.build 48 #[(0, (vi 1)), (1, t11)]) w fun t12 w =>
  valP Try.prog (Instr.build 46 #[(2, counts1)]) w fun t14 w =>
  valP Try.prog (Instr.build 48 #[(0, (vi 2)), (1, t14)]) w fun t15 w =>
  valP Try.prog (Instr.build 46 #[(0, (vi 7)), (2, window2)]) w fun t17 w =>
  valP Try.prog (Instr.build 48 #[(0, (vi 3)), (1, t17)]) w fun t18 w =>
  valP Try.prog (Instr.buildSlice 25 4 #[(0, t9), (1, t12), (2, t15), (3, t18)]) w fun t19 w =>
  m6_3 R t19 w
def m6_1 (R : VP) (w : World) : Prop :=
  valP Try.prog (Instr.buildSlice 51 5 #[(0, (vi 0)), (1, (vi 1)), (2, (vi 0)), (3, (vi 0)), (4, (vi 1))]) w fun t4 w =>
  callP Try.prog (fnV 16) #[t4] w fun t5 w =>
  callP Try.prog (fnV 17) #[(vi 1)] w fun t6 w =>
  m6_2 R t5 t6 w
def m6_0 (R : VP) (w : World) : Prop :=
  m6_1 R w
abbrev W6 := cwp Try.prog (fun i => 0)
noncomputable def k6_0 := bodyOf Try.f6
noncomputable def k6_1 := c2 k6_0
noncomputable def k6_2 := c2 k6_1
noncomputable def k6_3 := c2 k6_2
noncomputable def k6_4 := c2 k6_3
abbrev hR6 (R : VP) (Q : EQ) : Prop := ∀ e w, (R (e 0) w) → Q .ret e w
theorem s6_4 (hR : hR6 R Q) (e : Env) (w : World) (h : m6_4 R (e 0) w) : W6 k6_4 Q e w := by
  exact reA (hR _ _ h)
theorem s6_3 (hR : hR6 R Q) (e : Env) (w : World) (h : m6_3 R (e 3) w) : W6 k6_3 Q e w := by
  refine seA ?_
  have hN : ∀ e w, (m6_4 R (e 0) w) → (thenE (W6 k6_4 Q) Q) .normal e w := fun e w h => then_N (s6_4 hR e w h)
  exact tree_ok 3 13 (bt 13 0) (.take 0 (bt 13 1) (.take 2 (bt 13 5) (.take 3 (bt 13 13) (.alt 1 (bt 13 15) (.alt 4 (bt 13 31) (.take 5 (bt 13 63) (.take 6 (bt 13 127) (.take 8 (bt 13 383) (.take 9 (bt 13 895) (.alt 7 (bt 13 1023) (.alt 10 (bt 13 2047) (.take 11 (bt 13 4095) (.take 12 (bt 13 8191) .done)) .stop) .stop))))) .stop) .stop)))) (fun e w => m6_4 R (e 0) w) (by kernel_rfl) (by kernel_rfl) (by kernel_rfl) (by kernel_rfl) (by kernel_rfl) (by kernel_rfl) (kcast (by kernel_rfl) h) hN (by kernel_rfl)
theorem s6_2 (hR : hR6 R Q) (e : Env) (w : World) (h : m6_2 R (e 1) (e 2) w) : W6 k6_2 Q e w := by
  refine seA ?_
  exact rgA 2 (fun e w => m6_3 R (e 3) w) h fun e w h => then_N (s6_3 hR e w h)
theorem s6_1 (hR : hR6 R Q) (e : Env) (w : World) (h : m6_1 R w) : W6 k6_1 Q e w := by
  refine seA ?_
  exact rgA 1 (fun e w => m6_2 R (e 1) (e 2) w) h fun e w h => then_N (s6_2 hR e w h)
theorem s6_0 (hR : hR6 R Q) (e : Env) (w : World) (h : m6_0 R w) : W6 k6_0 Q e w := by
  refine seA ?_
  exact rgA 0 (fun e w => m6_1 R w) h fun e w h => then_N (s6_1 hR e w h)
abbrev m6 (R : VP) (w : World) : Prop := m6_0 R w
theorem s6  {R : VP} {w : World} (h : m6 R  w) :
    Calls Try.prog 6 #[] w fun e w' => ∃ v, e = .returned v ∧ R v w' :=
  calls_of_cwp (st := (fun i => 0)) (c := k6_0) (by kernel_rfl) Try.func6 (by kernel_rfl) (Nat.le_of_ble_eq_true (by kernel_rfl)) (by kernel_rfl)
    (s6_0 (R := R) (Q := endE Try.prog Try.f6 R) (fun e w h => kcast (by kernel_rfl) h) (argsE #[]) w (kcast (by kernel_rfl) h))
def m16_8 (R : VP) (K1 : (Value × Value) → World → Prop) (l0 s3 i4 : Value) (w : World) : Prop :=
  valP Try.prog (binS BinOp.add 3 (tm 9) (ci 1) i4 (vi 1)) w fun t10 w =>
  K1 (s3, t10) w
def m16_7 (R : VP) (K1 : (Value × Value) → World → Prop) (l0 s3 i4 : Value) (w : World) : Prop :=
  valP Try.prog (Instr.indexAt 51 l0 i4) w fun t14 w =>
  valP Try.prog (Instr.loadAt 3 t14) w fun t15 w =>
  callP Try.prog (fnV 17) #[t15] w fun t16 w =>
  valP Try.prog (binS BinOp.add 9 (tm 11) (tm 16) s3 t16) w fun t17 w =>
  m16_8 R K1 l0 t17 i4 w
def m16_4 (R : VP) (t2 : Value) (w : World) : Prop :=
  R t2 w
def m16_3 (R : VP) (s3 : Value) (w : World) : Prop :=
  m16_4 R s3 w
def m16_9 (R : VP) (K1 : (Value × Value) → World → Prop) (l0 s3 i4 t8 : Value) (w : World) : Prop :=
  condP t8
  (m16_7 R K1 l0 s3 i4 w)
  (m16_3 R s3 w)
def m16_6 (R : VP) (K1 : (Value × Value) → World → Prop) (l0 s3 i4 : Value) (w : World) : Prop :=
  builtinP Try.prog Builtin.len #[51] 3 #[false] #[l0] w fun t7 w =>
  valP Try.prog (binS BinOp.lss 3 (tm 5) (tm 7) i4 t7) w fun t8 w =>
  m16_9 R K1 l0 s3 i4 t8 w
def m16_5 (R : VP) (l0 s3 i4 : Value) (w : World) : Prop :=
  loopP (fun (K1 : (Value × Value) → World → Prop) (s : Value × Value) w => m16_6 R K1 l0 s.1 s.2 w) (s3, i4) w
def m16_2 (R : VP) (l0 s3 : Value) (w : World) : Prop :=
  m16_5 R l0 s3 (vi 0) w
def m16_1 (R : VP) (l0 : Value) (w : World) : Prop :=
  m16_2 R l0 (Value.string ⟨#[]⟩) w
def m16_0 (R : VP) (l0 : Value) (w : World) : Prop :=
  m16_1 R l0 w
abbrev W16 := cwp Try.prog (fun i => 0)
noncomputable def k16_0 := bodyOf Try.f16
noncomputable def k16_1 := c2 k16_0
noncomputable def k16_2 := c2 k16_1
noncomputable def k16_3 := c2 k16_2
noncomputable def k16_4 := c2 k16_3
noncomputable def k16_5 := c2 (c1 k16_2)
noncomputable def k16_6 := c1 (c1 k16_5)
noncomputable def k16_7 := c2 k16_6
noncomputable def k16_8 := c2 k16_7
noncomputable def k16_9 := c2 (c1 k16_6)
theorem s16_8 {K1 : (Value × Value) → World → Prop} (hN : ∀ e w, (K1 ((e 3), (e 4)) w) → Q .normal e w) (e : Env) (w : World) (h : m16_8 R K1 (e 0) (e 3) (e 4) w) : W16 k16_8 Q e w := by
  exact rgA 4 (fun e w => K1 ((e 3), (e 4)) w) h hN
theorem s16_7 {K1 : (Value × Value) → World → Prop} (hN : ∀ e w, (K1 ((e 3), (e 4)) w) → Q .normal e w) (e : Env) (w : World) (h : m16_7 R K1 (e 0) (e 3) (e 4) w) : W16 k16_7 Q e w := by
  refine seA ?_
  have hN : ∀ e w, (m16_8 R K1 (e 0) (e 3) (e 4) w) → (thenE (W16 k16_8 Q) Q) .normal e w := fun e w h => then_N (s16_8 hN e w h)
  refine block_ok 1 (by kernel_rfl) ?_
  exact rgA 5 (fun e w => m16_8 R K1 (e 0) (e 3) (e 4) w) h fun e w h => block_N (hN e w h)
abbrev hR16 (R : VP) (Q : EQ) : Prop := ∀ e w, (R (e 2) w) → Q .ret e w
theorem s16_4 (hR : hR16 R Q) (e : Env) (w : World) (h : m16_4 R (e 2) w) : W16 k16_4 Q e w := by
  exact reA (hR _ _ h)
theorem s16_3 (hR : hR16 R Q) (e : Env) (w : World) (h : m16_3 R (e 3) w) : W16 k16_3 Q e w := by
  refine seA ?_
  exact rgA 6 (fun e w => m16_4 R (e 2) w) h fun e w h => then_N (s16_4 hR e w h)
theorem s16_9 {K1 : (Value × Value) → World → Prop} (hN : ∀ e w, (m16_7 R K1 (e 0) (e 3) (e 4) w) → Q .normal e w) (hX0 : ∀ e w, (m16_3 R (e 3) w) → Q (.exit 0) e w) (e : Env) (w : World) (h : m16_9 R K1 (e 0) (e 3) (e 4) (e 8) w) : W16 k16_9 Q e w := by
  refine coA (Operand.tmp 8) h (fun h1 => ?_) (fun h1 => ?_)
  · exact skA (hN _ _ h1)
  · exact exA 0 (hX0 _ _ h1)
theorem s16_6 {K1 : (Value × Value) → World → Prop} (hN : ∀ e w, (K1 ((e 3), (e 4)) w) → Q .normal e w) (hX0 : ∀ e w, (m16_3 R (e 3) w) → Q (.exit 0) e w) (e : Env) (w : World) (h : m16_6 R K1 (e 0) (e 3) (e 4) w) : W16 k16_6 Q e w := by
  refine seA ?_
  have hN : ∀ e w, (m16_7 R K1 (e 0) (e 3) (e 4) w) → (thenE (W16 k16_7 Q) Q) .normal e w := fun e w h => then_N (s16_7 hN e w h)
  have hX0 : ∀ e w, (m16_3 R (e 3) w) → (thenE (W16 k16_7 Q) Q) (.exit 0) e w := fun e w h => then_X (hX0 e w h)
  refine seA ?_
  exact rgA 3 (fun e w => m16_9 R K1 (e 0) (e 3) (e 4) (e 8) w) h fun e w h => then_N (s16_9 hN hX0 e w h)
theorem s16_5 (hN : ∀ e w, (m16_3 R (e 3) w) → Q .normal e w) (e : Env) (w : World) (h : m16_5 R (e 0) (e 3) (e 4) w) : W16 k16_5 Q e w := by
  refine block_ok 0 (by kernel_rfl) ?_
  have hX0 : ∀ e w, (m16_3 R (e 3) w) → (inBlockE 0 Q) (.exit 0) e w := fun e w h => inBlock_same (Q := Q) 0 (hN e w h)
  refine loop_ok' (fun (e : Env) => (e 3, e 4)) [0] (by kernel_rfl) (by kernel_rfl) h (fun K e' w' hk h' => ?_)
  have r0 : e' 0 = e 0 := hk 0 (by decide)
  have hX0 : ∀ e w, (m16_3 R (e 3) w) → (thenE (fun (e : Env) w => K ((e 3), (e 4)) w) (inBlockE 0 Q)) (.exit 0) e w := fun e w h => then_X (hX0 e w h)
  exact s16_6 (K1 := K) (fun _ _ h => then_N h) hX0 e' w' (by rw [r0]; exact h')
theorem s16_2 (hR : hR16 R Q) (e : Env) (w : World) (h : m16_2 R (e 0) (e 3) w) : W16 k16_2 Q e w := by
  refine seA ?_
  have hN : ∀ e w, (m16_3 R (e 3) w) → (thenE (W16 k16_3 Q) Q) .normal e w := fun e w h => then_N (s16_3 hR e w h)
  refine seA ?_
  exact rgA 2 (fun e w => m16_5 R (e 0) (e 3) (e 4) w) h fun e w h => then_N (s16_5 hN e w h)
theorem s16_1 (hR : hR16 R Q) (e : Env) (w : World) (h : m16_1 R (e 0) w) : W16 k16_1 Q e w := by
  refine seA ?_
  exact rgA 1 (fun e w => m16_2 R (e 0) (e 3) w) h fun e w h => then_N (s16_2 hR e w h)
theorem s16_0 (hR : hR16 R Q) (e : Env) (w : World) (h : m16_0 R (e 0) w) : W16 k16_0 Q e w := by
  refine seA ?_
  exact rgA 0 (fun e w => m16_1 R (e 0) w) h fun e w h => then_N (s16_1 hR e w h)
abbrev m16 (R : VP) (l0 : Value) (w : World) : Prop := m16_0 R l0 w
theorem s16 (l0 : Value) {R : VP} {w : World} (h : m16 R l0 w) :
    Calls Try.prog 16 #[l0] w fun e w' => ∃ v, e = .returned v ∧ R v w' :=
  calls_of_cwp (st := (fun i => 0)) (c := k16_0) (by kernel_rfl) Try.func16 (by kernel_rfl) (Nat.le_of_ble_eq_true (by kernel_rfl)) (by kernel_rfl)
    (s16_0 (R := R) (Q := endE Try.prog Try.f16 R) (fun e w h => kcast (by kernel_rfl) h) (argsE #[l0]) w (kcast (by kernel_rfl) h))
end Go.Proofs.Ytnhgdngbdoifnaa.M
namespace Go.Proofs.Ytnhgdngbdoifnaa.M
open Go.Proofs.Ytnhgdngbdoifnaa.F Go.RowKit
set_option linter.unusedVariables false
set_option linter.unusedSimpArgs false
set_option maxRecDepth 100000
set_option maxHeartbeats 2000000
attribute [local irreducible] Res.cells Res.row Res.map Res.any World.cell? World.frozen? Instr.fieldAt Instr.loadAt Instr.storeAt Instr.indexAt Instr.lookup Instr.mapUpdate Instr.box Instr.build Instr.buildSlice Instr.extract Instr.alloc Instr.field Instr.index Instr.sliceAt Instr.makeSlice Instr.makeMap Instr.makeFunc binS Op.unary Sem.run
open Classical in
/-- those of the first n that are not needless. -/
noncomputable def cleanN (l : List Gt) (upto : Int) : Nat → List Gt
  | 0 => []
  | n + 1 => if h : n < l.length then (if Needless l n upto then cleanN l upto n else cleanN l upto n ++ [l[n]]) else cleanN l upto n
theorem cleanN_len (l : List Gt) (upto : Int) : ∀ n, (cleanN l upto n).length ≤ n
  | 0 => Nat.le_refl _
  | n + 1 => by
    have := cleanN_len l upto n
    unfold cleanN
    split
    · split
      · omega
      · rw [List.length_append]; simp; omega
    · omega
theorem cleanN_skip {l : List Gt} {upto : Int} {n : Nat} (h : Needless l n upto) : cleanN l upto (n + 1) = cleanN l upto n := by
  rw [cleanN, dif_pos h.1, if_pos h]
theorem cleanN_take {l : List Gt} {upto : Int} {n : Nat} (hn : n < l.length) (h : ¬ Needless l n upto) : cleanN l upto (n + 1) = cleanN l upto n ++ [l[n]] := by
  rw [cleanN, dif_pos hn, if_neg h]
section
variable {w0 w : World} {F : List Nat} {L : List Res} {l l2 : List Gt} {A A2 : Option Addr} {c c2 : Nat} {upto : Int}
theorem gt_ext {a b : Gt} : a = b ↔ a.off = b.off ∧ a.r.key = b.r.key ∧ a.r.time = b.r.time ∧ a.r.text = b.r.text := by
  obtain ⟨o, k, t, s⟩ := a
  obtain ⟨o2, k2, t2, s2⟩ := b
  simp
theorem samegot_ret (hm : l.length ≤ 1000000) (hm2 : l2.length ≤ 1000000) (hE : BG w0 F L A l) (hE2 : BG w0 F L A2 l2) (hS : St w0 F w L) : Ret Try.prog 8 #[.slice A l.length c, .slice A2 l2.length c2] w fun v w' => (∃ t, v = .bool t ∧ (t = true ↔ l = l2)) ∧ St w0 F w' L := by
  refine s8 _ _ ?_
  unfold m8 m8_0
  unfold m8_1
  refine builtin_ok (len25 _) ?_
  refine builtin_ok (len25 _) ?_
  refine valP_ok (ne3 _ _ _ _ _) ?_
  unfold m8_12
  refine cond_split (fun h => ?_) (fun h => ?_)
  · unfold m8_13
    exact ⟨⟨_, rfl, ⟨fun h => (by cases h), fun h1 => absurd (congrArg (fun l : List Gt => (l.length : Int)) h1) h⟩⟩, hS⟩
  · have hl : l.length = l2.length := by omega
    unfold m8_2 m8_5
    refine loop_in (fun u w' => ∃ i : Nat, u = .int .i64 (i : Int) ∧ i ≤ l.length ∧ (∀ j (h1 : j < l.length) (h2 : j < l2.length), j < i → l[j] = l2[j]) ∧ St w0 F w' L) (fun u _ => l.length - (intOf u).toNat) ⟨0, rfl, by omega, fun j _ _ h => by omega, hS⟩ ?_
    clear hS
    rintro u w ⟨i, rfl, hi, hno, hS⟩
    unfold m8_6
    refine builtin_ok (len25 _) ?_
    refine valP_ok (lss_ok _ _ _ _ _ _ _) ?_
    unfold m8_11
    refine cond_split (fun h1 => ?_) (fun h1 => ?_)
    · have hil : i < l.length := by omega
      have hil2 : i < l2.length := by omega
      obtain ⟨b, o, rfl⟩ := (hE.rd hS).some_ (by omega) (by omega)
      obtain ⟨b2, o2, rfl⟩ := (hE2.rd hS).some_ (by omega) (by omega)
      have p := g_at (hE.rd hS) hil
      have p2 := g_at (hE2.rd hS) hil2
      unfold m8_7
      refine valQ_ok (ix25 hil) ?_
      refine valQ_at (fun n => ld48 (cellD p.1 n) (cellD p.2.1 n) (cellD p.2.2.1 n) (cellD p.2.2.2 n)) ?_
      refine valQ_ok (ix25 hil2) ?_
      refine valQ_at (fun n => ld48 (cellD p2.1 n) (cellD p2.2.1 n) (cellD p2.2.2.1 n) (cellD p2.2.2.2 n)) ?_
      refine valQ_ok (ne48 _ _ _ _ _ _ _ _ _ _) ?_
      refine drawn_ok hS ?_
      intro w hS
      unfold m8_9
      refine cond_split (fun h2 => ?_) (fun h2 => ?_)
      · unfold m8_10
        refine ⟨⟨_, rfl, ⟨fun h => (by cases h), fun h3 => ?_⟩⟩, hS⟩
        subst h3
        exact absurd ⟨rfl, rfl, rfl, rfl⟩ h2
      · unfold m8_8
        refine valP_ok (add_ok _ _ _ (by omega) (by omega) _) ?_
        refine ⟨⟨i + 1, rfl, by omega, fun j h3 h4 h5 => ?_, hS⟩, by simp [intOf]; omega⟩
        rcases Nat.lt_or_ge j i with g | g
        · exact hno j h3 h4 g
        · obtain rfl : j = i := by omega
          exact gt_ext.2 (Classical.not_not.1 h2)
    · unfold m8_3 m8_4
      exact ⟨⟨_, rfl, ⟨fun _ => List.ext_getElem hl fun j h2 h3 => hno j h2 h3 (by omega), fun _ => rfl⟩⟩, hS⟩
end
end Go.Proofs.Ytnhgdngbdoifnaa.M
namespace Go.Proofs.Ytnhgdngbdoifnaa.M
open Go.Proofs.Ytnhgdngbdoifnaa.F Go.RowKit
set_option linter.unusedVariables false
set_option linter.unusedSimpArgs false
set_option maxRecDepth 100000
set_option maxHeartbeats 2000000
attribute [local irreducible] Res.cells Res.row Res.map Res.any World.cell? World.frozen? Instr.fieldAt Instr.loadAt Instr.storeAt Instr.indexAt Instr.lookup Instr.mapUpdate Instr.box Instr.build Instr.buildSlice Instr.extract Instr.alloc Instr.field Instr.index Instr.sliceAt Instr.makeSlice Instr.makeMap Instr.makeFunc binS Op.unary Sem.run
theorem laidOutP : laidOutB Try.prog = true := by kernel_rfl
theorem wideR : (match Try.prog.underlying 46 with | some (.array _ _) | some (.struct _) => true | _ => false) = true := by rw [Try.underlying46]
theorem lawR : Go.Maps.Keyed Try.prog 46 := Go.Maps.Keyed.of_law (deep_law_laid laidOutP (m := 2) (by omega) (of_decide_eq_true (by kernel_rfl)) (by kernel_rfl) wideR)
theorem cells38 : Try.prog.cellsOf 46 = 3 := by kernel_rfl
theorem cells3 : Try.prog.cellsOf 3 = 1 := by kernel_rfl
theorem cells9 : Try.prog.cellsOf 9 = 1 := by kernel_rfl
theorem keyRB : Try.prog.keyType 46 = true := by kernel_rfl
theorem sizeTypes : ∃ m, Try.prog.types.size = m + 1 := by
  refine ⟨Try.prog.types.size - 1, ?_⟩
  have : decide (1 ≤ Try.prog.types.size) = true := by kernel_rfl
  have := of_decide_eq_true this
  omega
def RcOk (r : Rc) : Prop := (-9223372036854775808 ≤ r.key ∧ r.key ≤ 9223372036854775807) ∧ (-9223372036854775808 ≤ r.time ∧ r.time ≤ 9223372036854775807) ∧ r.text.size ≤ maxLen
theorem wfI {x : Int} (h : -9223372036854775808 ≤ x ∧ x ≤ 9223372036854775807) : (Lit.int .i64 x).wf = true := by
  simp only [Lit.wf, Bool.and_eq_true, decide_eq_true_eq]
  exact h
theorem keyRc {r : Rc} (h : RcOk r) : ∃ l, keyOf Try.prog 46 (rv r) = some l := by
  obtain ⟨m, hm⟩ := sizeTypes
  refine ⟨.string (keyBytes [.int .i64 r.key, .int .i64 r.time, .string r.text.data.toList]), ?_⟩
  unfold keyOf
  rw [Try.underlying46]
  simp only [keyRB, Bool.true_and]
  rw [if_pos (by simp [Value.formed, Try.underlying46, cells38]), hm]
  simp only [Program.keyLits, Try.underlying46, Value.cells, cells38, cells3, cells9, Try.underlying3, Try.underlying9]
  simp [wfI h.1, wfI h.2.1, h.2.2, cells3, cells9]
def Qual (l : List Gt) (upto : Int) (x : Rc) (j : Nat) : Prop := ∃ h : j < l.length, l[j].off < upto ∧ aboutR l[j].r = some x
open Classical in
noncomputable def lastI (l : List Gt) (upto : Int) (x : Rc) : Nat → Option Nat
  | 0 => none
  | i + 1 => if Qual l upto x i then some i else lastI l upto x i
theorem lastI_some {l : List Gt} {upto : Int} {x : Rc} : ∀ {n j}, lastI l upto x n = some j → j < n ∧ Qual l upto x j ∧ ∀ k, j < k → k < n → ¬ Qual l upto x k
  | 0, j, h => by cases h
  | n + 1, j, h => by
    unfold lastI at h
    split at h
    · obtain rfl := Option.some.inj h
      exact ⟨by omega, by assumption, fun k h1 h2 => by omega⟩
    · rename_i hq
      obtain ⟨h1, h2, h3⟩ := lastI_some h
      refine ⟨by omega, h2, fun k h4 h5 => ?_⟩
      rcases Nat.lt_or_ge k n with g | g
      · exact h3 k h4 g
      · obtain rfl : k = n := by omega
        exact hq
theorem lastI_none {l : List Gt} {upto : Int} {x : Rc} : ∀ {n}, lastI l upto x n = none → ∀ k, k < n → ¬ Qual l upto x k
  | 0, h, k, hk => by omega
  | n + 1, h, k, hk => by
    unfold lastI at h
    split at h
    · cases h
    · rename_i hq
      rcases Nat.lt_or_ge k n with g | g
      · exact lastI_none h k g
      · obtain rfl : k = n := by omega
        exact hq
theorem last_ne {l : List Gt} {upto : Int} {x : Rc} {i : Nat} (hi : i < l.length) (hq : Qual l upto x i) : ¬ ((lastI l upto x l.length).getD 0 = i) ↔ ∃ k, i < k ∧ Qual l upto x k := by
  cases h : lastI l upto x l.length with
  | none => exact absurd hq (lastI_none h i hi)
  | some j =>
    obtain ⟨h1, h2, h3⟩ := lastI_some h
    show ¬ j = i ↔ _
    constructor
    · intro hne
      refine ⟨j, ?_, h2⟩
      rcases Nat.lt_trichotomy j i with g | g | g
      · exact absurd hq (h3 i g hi)
      · exact absurd g hne
      · exact g
    · rintro ⟨k, hk, hqk⟩ rfl
      exact h3 k hk hqk.1 hqk
theorem kind_put2 : kindS (putS 2) = 2 := by
  unfold kindS
  rw [takeS_L, bytesN_putS]
  have h := takeL_put 2 [] (by omega) (by omega)
  rw [List.append_nil] at h
  rw [h]
  rfl
theorem needless_iff {l : List Gt} {upto : Int} {i : Nat} (hi : i < l.length) : Needless l i upto ↔ ∃ x, Qual l upto x i ∧ (¬ ((lastI l upto x l.length).getD 0 = i) ∨ l[i].r.text = putS 2) := by
  constructor
  · rintro ⟨h, h1, h2⟩
    rcases h2 with h2 | ⟨k, hk, h3, h4, h5⟩
    · have hk2 := kind_put2
      rw [← h2] at hk2
      obtain ⟨x, hx⟩ : ∃ x, aboutR l[i].r = some x := by
        unfold aboutR
        rw [hk2]
        exact ⟨_, rfl⟩
      exact ⟨x, ⟨hi, h1, hx⟩, .inr h2⟩
    · obtain ⟨x, hx1, hx2⟩ := (same_about _ _).1 h5
      have hq : Qual l upto x i := ⟨hi, h1, hx1⟩
      exact ⟨x, hq, .inl ((last_ne hi hq).2 ⟨k, h3, hk, h4, hx2⟩)⟩
  · rintro ⟨x, hq, h⟩
    refine ⟨hi, hq.2.1, ?_⟩
    rcases h with h | h
    · obtain ⟨k, h3, hk, h4, h5⟩ := (last_ne hi hq).1 h
      exact .inr ⟨k, hk, h3, h4, (same_about _ _).2 ⟨x, hq.2.2, h5⟩⟩
    · exact .inl h
abbrev mapR (b n : Nat) (M : Value → Option Value) : Res := Res.map Try.prog 46 (plainElem Try.prog 3) b n M
theorem plain3_apart : Elem.apart (plainElem (H := Unit) Try.prog 3) := fun u v d p q h1 h2 => by
  obtain ⟨a, rfl, e1, _⟩ := plainElem_int_inv Try.underlying3 h1
  obtain ⟨b, rfl, e2, _⟩ := plainElem_int_inv Try.underlying3 h2
  simp only [Prod.mk.injEq] at e1 e2
  have := e1.1.symm.trans e2.1
  simp only [DataW.lit.injEq, Lit.int.injEq] at this
  rw [this.2]
def MOk (l : List Gt) (upto : Int) (i : Nat) (M : Value → Option Value) : Prop := ∀ x, RcOk x → M (rv x) = (lastI l upto x i).map fun j => .int .i64 (j : Int)
def GtOk (g : Gt) : Prop := (-9223372036854775808 ≤ g.r.key ∧ g.r.key ≤ 9223372036854775807) ∧ -9223372036854775808 ≤ g.r.time ∧ g.r.time ≤ 9223372036854775807
theorem about_ok {g : Gt} (h : GtOk g) {x : Rc} (hx : aboutR g.r = some x) : RcOk x := by
  unfold aboutR at hx
  split at hx
  · cases hx
  · split at hx
    · obtain rfl := Option.some.inj hx
      refine ⟨?_, ?_, ?_⟩ <;> simp only
      · omega
      · omega
      · show (6 : Nat) ≤ maxLen
        unfold maxLen; omega
    · obtain rfl := Option.some.inj hx
      refine ⟨h.1, h.2, ?_⟩
      show (0 : Nat) ≤ maxLen
      omega
theorem rv_inj {a b : Rc} (h : rv a = rv b) : a = b := by
  obtain ⟨k, t, s⟩ := a
  obtain ⟨k2, t2, s2⟩ := b
  simp only [Value.agg.injEq, Array.mk.injEq, List.cons.injEq, Value.int.injEq, Value.string.injEq, true_and, and_true] at h
  obtain ⟨rfl, rfl, rfl⟩ := h
  rfl
theorem MOk.skip {l : List Gt} {upto : Int} {i : Nat} {M : Value → Option Value} (h : MOk l upto i M) (hn : ∀ x, ¬ Qual l upto x i) : MOk l upto (i + 1) M := fun x hx => by
  rw [lastI, if_neg (hn x)]
  exact h x hx
theorem MOk.put {l : List Gt} {upto : Int} {i : Nat} {M : Value → Option Value} (h : MOk l upto i M) {x : Rc} (hq : Qual l upto x i) : MOk l upto (i + 1) (updV M (rv x) (some (.int .i64 (i : Int)))) := fun y hy => by
  by_cases e : y = x
  · subst e
    rw [updV_same, lastI, if_pos hq]
    rfl
  · rw [updV_other (fun h => e (rv_inj h)), lastI, if_neg (fun h2 => e (Option.some.inj (h2.2.2.symm.trans hq.2.2)))]
    exact h y hy
section
variable {w0 w : World} {F : List Nat} {L : List Res} {l : List Gt} {A : Option Addr} {c : Nat} {upto : Int}
theorem clean_ret (hm : l.length ≤ 100000) (hg : ∀ g ∈ l, GtOk g) (hE : BG w0 F L A l) (hS : St w0 F w L) : Ret Try.prog 7 #[.slice A l.length c, .int .i64 upto] w fun v w' => ∃ A' c', v = .slice A' (cleanN l upto l.length).length c' ∧ St w0 F w' (grow A' c' (cleanN l upto l.length) :: L) := by
  refine s7 _ _ ?_
  unfold m7 m7_0 m7_1
  refine makeMap_ok 46 (plainElem Try.prog 3) hS ?_
  intro b w hS
  unfold m7_2
  refine builtin_ok (len25 _) ?_
  unfold m7_16
  refine loop_in (fun u w' => ∃ (i n : Nat) (M : Value → Option Value), u = .int .i64 (i : Int) ∧ i ≤ l.length ∧ n ≤ i ∧ MOk l upto i M ∧ St w0 F w' (mapR b n M :: L)) (fun u _ => l.length - (intOf u).toNat) ⟨0, 0, _, rfl, by omega, by omega, fun x hx => rfl, hS⟩ ?_
  clear hS
  rintro u w ⟨i, n, M, rfl, hi, hn, hM, hS⟩
  unfold m7_17
  refine valP_ok (lss_ok _ _ _ _ _ _ _) ?_
  unfold m7_18
  refine cond_split (fun h => ?_) (fun h => ?_)
  · have hil : i < l.length := by omega
    have hgi := hg _ (List.getElem_mem hil)
    obtain ⟨gb, o, rfl⟩ := (hE.rd1 hS).some_ (by omega) (by omega)
    have p := g_at (hE.rd1 hS) hil
    unfold m7_19
    refine valP_ok (ix25 hil _) ?_
    refine valP_ok (ld48 p.1 p.2.1 p.2.2.1 p.2.2.2) ?_
    refine new_ok (al48 _) hS ?_
    intro b7 w hS
    first | refine ss48 0 hS rfl rfl rfl rfl rfl ?_ | refine ss48 1 hS rfl rfl rfl rfl rfl ?_ | refine ss48 2 hS rfl rfl rfl rfl rfl ?_ | refine ss48 3 hS rfl rfl rfl rfl rfl ?_ | refine ss48 4 hS rfl rfl rfl rfl rfl ?_ | refine ss48 5 hS rfl rfl rfl rfl rfl ?_ | refine ss48 6 hS rfl rfl rfl rfl rfl ?_ | refine ss48 7 hS rfl rfl rfl rfl rfl ?_
    intro w hS
    simp only [List.set_cons_zero, List.set_cons_succ] at hS
    unfold m7_21
    refine valP_ok (fa48_1 _ _) ?_
    refine valP_ok (ld46 (hS.cell 0 rfl rfl) (hS.cell 0 rfl rfl) (hS.cell 0 rfl rfl)) ?_
    refine callR (by kernel_rfl) (about_ret (r := l[i].r) hS) ?_
    rintro _ w ⟨rfl, hS⟩
    refine valP_ok (extract_ok _ 0 rfl _) ?_
    refine valP_ok (extract_ok _ 1 rfl _) ?_
    refine new_ok (al46 _) hS ?_
    intro b8 w hS
    first | refine ss46 0 hS rfl rfl rfl rfl ?_ | refine ss46 1 hS rfl rfl rfl rfl ?_ | refine ss46 2 hS rfl rfl rfl rfl ?_ | refine ss46 3 hS rfl rfl rfl rfl ?_ | refine ss46 4 hS rfl rfl rfl rfl ?_ | refine ss46 5 hS rfl rfl rfl rfl ?_ | refine ss46 6 hS rfl rfl rfl rfl ?_ | refine ss46 7 hS rfl rfl rfl rfl ?_
    intro w hS
    simp only [List.set_cons_zero, List.set_cons_succ] at hS
    have noq : aboutR l[i].r = none → ∀ x, ¬ Qual l upto x i := fun hn x hq => by
      have := hq.2.2
      rw [hn] at this
      cases this
    cases ha : aboutR l[i].r with
    | none =>
      unfold m7_22
      refine cond_f rfl ?_
      first | refine pick_dt (by first | assumption | omega) ?_ | refine pick_df (by first | assumption | omega) ?_ | refine pick_t (by first | rfl | assumption) ?_ | refine pick_f (by first | rfl | assumption) ?_ | refine pick_dt rfl ?_ | refine pick_df (not_not_intro rfl) ?_
      unfold m7_23
      refine cond_f rfl ?_
      unfold m7_20
      refine valP_ok (add_ok _ _ _ (by omega) (by omega) _) ?_
      exact ⟨⟨i + 1, n, M, rfl, by omega, by omega, hM.skip (noq ha), hS.tail.tail⟩, by simp [intOf]; omega⟩
    | some x =>
      rw [ha] at hS
      obtain ⟨lk, hlk⟩ := keyRc (about_ok hgi ha)
      unfold m7_22
      refine cond_t rfl ?_
      first | refine valP_ok (fa48_0 _ _) ?_ | refine valP_ok (fao48_0 _ _ _) ?_
      first | refine valP_ok (ld3 (hS.cell 0 rfl rfl)) ?_ | refine valP_ok (ld3 (hS.cell 1 rfl rfl)) ?_ | refine valP_ok (ld3 (hS.cell 2 rfl rfl)) ?_ | refine valP_ok (ld3 (hS.cell 3 rfl rfl)) ?_ | refine valP_ok (ld3 (hS.cell 4 rfl rfl)) ?_ | refine valP_ok (ld3 (hS.cell 5 rfl rfl)) ?_ | refine valP_ok (ld3 (hS.cell 6 rfl rfl)) ?_ | refine valP_ok (ld3 (hS.cell 7 rfl rfl)) ?_ | refine valP_ok (ld3 (by assumption)) ?_
      refine valP_ok (lss_ok _ _ _ _ _ _ _) ?_
      first | refine pick_dt (by first | assumption | omega) ?_ | refine pick_df (by first | assumption | omega) ?_ | refine pick_t (by first | rfl | assumption) ?_ | refine pick_f (by first | rfl | assumption) ?_ | refine pick_dt rfl ?_ | refine pick_df (not_not_intro rfl) ?_
      unfold m7_23
      refine cond_split (fun h1 => ?_) (fun h1 => ?_)
      · first | refine ls46 0 hS rfl ?_ | refine ls46 1 hS rfl ?_ | refine ls46 2 hS rfl ?_ | refine ls46 3 hS rfl ?_ | refine ls46 4 hS rfl ?_ | refine ls46 5 hS rfl ?_ | refine ls46 6 hS rfl ?_ | refine ls46 7 hS rfl ?_ | refine valP_ok (ld46 (by assumption) (by assumption) (by assumption)) ?_
        refine mapUpdate_at 2 hS rfl lawR Try.underlying53 (by unfold maxLen; omega) hlk (plainElem_int Try.underlying3 (wfI (by omega))) ?_
        intro w hS
        simp only [List.set_cons_zero, List.set_cons_succ] at hS
        unfold m7_20
        refine valP_ok (add_ok _ _ _ (by omega) (by omega) _) ?_
        exact ⟨⟨i + 1, n + 1, _, rfl, by omega, by omega, hM.put ⟨hil, h1, ha⟩, hS.tail.tail⟩, by simp [intOf]; omega⟩
      · unfold m7_20
        refine valP_ok (add_ok _ _ _ (by omega) (by omega) _) ?_
        exact ⟨⟨i + 1, n, M, rfl, by omega, by omega, hM.skip (fun x hq => h1 hq.2.1), hS.tail.tail⟩, by simp [intOf]; omega⟩
  · obtain rfl : i = l.length := by omega
    unfold m7_3
    unfold m7_4
    refine builtin_ok (len25 _) ?_
    unfold m7_7
    refine loop_in (fun u w' => ∃ (i : Nat) (A' : Option Addr) (c' : Nat), u = (.slice A' (cleanN l upto i).length c', .int .i64 (i : Int)) ∧ i ≤ l.length ∧ St w0 F w' (grow A' c' (cleanN l upto i) :: mapR b n M :: L)) (fun u _ => l.length - (intOf u.2).toNat) ⟨0, none, 0, rfl, by omega, hS.row_nil 48 4⟩ ?_
    clear hS hi h
    rintro u w ⟨i, A', c', rfl, hi, hS⟩
    simp only
    have hlen := cleanN_len l upto i
    unfold m7_8
    refine valP_ok (lss_ok _ _ _ _ _ _ _) ?_
    unfold m7_9
    refine cond_split (fun h => ?_) (fun h => ?_)
    · have hil : i < l.length := by omega
      have hgi := hg _ (List.getElem_mem hil)
      obtain ⟨gb, o, rfl⟩ := ((hE.cons _).rd1 hS).some_ (by omega) (by omega)
      have p := g_at ((hE.cons _).rd1 hS) hil
      unfold m7_10
      refine valP_ok (ix25 hil _) ?_
      refine valP_ok (ld48 p.1 p.2.1 p.2.2.1 p.2.2.2) ?_
      refine new_ok (al48 _) hS ?_
      intro b12 w hS
      first | refine ss48 0 hS rfl rfl rfl rfl rfl ?_ | refine ss48 1 hS rfl rfl rfl rfl rfl ?_ | refine ss48 2 hS rfl rfl rfl rfl rfl ?_ | refine ss48 3 hS rfl rfl rfl rfl rfl ?_ | refine ss48 4 hS rfl rfl rfl rfl rfl ?_ | refine ss48 5 hS rfl rfl rfl rfl rfl ?_ | refine ss48 6 hS rfl rfl rfl rfl rfl ?_ | refine ss48 7 hS rfl rfl rfl rfl rfl ?_
      intro w hS
      simp only [List.set_cons_zero, List.set_cons_succ] at hS
      have leaf : ∀ (K1 : Value × Value → World → Prop), (∀ w' A' c', St w0 F w' (grow A' c' (cleanN l upto (i + 1)) :: mapR b n M :: L) → K1 (.slice A' (cleanN l upto (i + 1)).length c', .int .i64 ((i + 1 : Nat) : Int)) w') → ∀ t : Bool, (t = true ↔ Needless l i upto) → ∀ w ba (ra : Rc), St w0 F w (Res.cells ba 46 (encR ra) :: Res.cells b12 48 (encG l[i]) :: grow A' c' (cleanN l upto i) :: mapR b n M :: L) → m7_15 (fun v w' => ∃ A' c', v = .slice A' (cleanN l upto l.length).length c' ∧ St w0 F w' (grow A' c' (cleanN l upto l.length) :: L)) K1 (.int .i64 upto) (.map (some b)) (.slice A' (cleanN l upto i).length c') (.pointer (some ⟨b12, 0, none⟩)) (.slice (some ⟨gb, o, none⟩) l.length c) (.int .i64 (l.length : Int)) (.int .i64 (i : Int)) (.bool t) w := fun K1 hK t ht w ba ra hS => by
        unfold m7_15
        cases t with
        | true =>
          have hn := ht.1 rfl
          have h1 := hK w A' c' (by rw [cleanN_skip hn]; exact hS.tail.tail)
          rw [cleanN_skip hn] at h1
          refine cond_t rfl ?_
          unfold m7_11
          refine valP_ok (add_ok _ _ _ (by omega) (by omega) _) ?_
          exact h1
        | false =>
          have hn : ¬ Needless l i upto := fun h => by have := ht.2 h; cases this
          refine cond_f rfl ?_
          unfold m7_14
          first | refine ls48 0 hS rfl ?_ | refine ls48 1 hS rfl ?_ | refine ls48 2 hS rfl ?_ | refine ls48 3 hS rfl ?_ | refine ls48 4 hS rfl ?_ | refine ls48 5 hS rfl ?_ | refine ls48 6 hS rfl ?_ | refine ls48 7 hS rfl ?_ | refine valP_ok (ld48 (by assumption) (by assumption) (by assumption) (by assumption)) ?_
          refine newslice_ok (bs25_1 _) hS ?_
          intro b74 w hS
          refine append_one1 (enc := encG) 2 l[i] sl25 encG_len encG_one (by unfold maxLen; omega) (by omega) hS rfl ?_
          intro A' c' w' hS
          simp only [List.set_cons_zero, List.set_cons_succ] at hS
          have h1 := hK w' A' c' (by rw [cleanN_take hil hn]; exact hS.tail.tail)
          rw [cleanN_take hil hn] at h1
          unfold m7_11
          refine valP_ok (add_ok _ _ _ (by omega) (by omega) _) ?_
          exact h1
      unfold m7_12
      refine valP_ok (fa48_1 _ _) ?_
      refine valP_ok (ld46 (hS.cell 0 rfl rfl) (hS.cell 0 rfl rfl) (hS.cell 0 rfl rfl)) ?_
      refine callR (by kernel_rfl) (about_ret (r := l[i].r) hS) ?_
      rintro _ w ⟨rfl, hS⟩
      refine valP_ok (extract_ok _ 0 rfl _) ?_
      refine valP_ok (extract_ok _ 1 rfl _) ?_
      refine new_ok (al46 _) hS ?_
      intro b13 w hS
      first | refine ss46 0 hS rfl rfl rfl rfl ?_ | refine ss46 1 hS rfl rfl rfl rfl ?_ | refine ss46 2 hS rfl rfl rfl rfl ?_ | refine ss46 3 hS rfl rfl rfl rfl ?_ | refine ss46 4 hS rfl rfl rfl rfl ?_ | refine ss46 5 hS rfl rfl rfl rfl ?_ | refine ss46 6 hS rfl rfl rfl rfl ?_ | refine ss46 7 hS rfl rfl rfl rfl ?_
      intro w hS
      simp only [List.set_cons_zero, List.set_cons_succ] at hS
      unfold m7_13
      first | refine valP_ok (fa48_0 _ _) ?_ | refine valP_ok (fao48_0 _ _ _) ?_
      first | refine valP_ok (ld3 (hS.cell 0 rfl rfl)) ?_ | refine valP_ok (ld3 (hS.cell 1 rfl rfl)) ?_ | refine valP_ok (ld3 (hS.cell 2 rfl rfl)) ?_ | refine valP_ok (ld3 (hS.cell 3 rfl rfl)) ?_ | refine valP_ok (ld3 (hS.cell 4 rfl rfl)) ?_ | refine valP_ok (ld3 (hS.cell 5 rfl rfl)) ?_ | refine valP_ok (ld3 (hS.cell 6 rfl rfl)) ?_ | refine valP_ok (ld3 (hS.cell 7 rfl rfl)) ?_ | refine valP_ok (ld3 (by assumption)) ?_
      refine valP_ok (lss_ok _ _ _ _ _ _ _) ?_
      have noq : aboutR l[i].r = none → ¬ Needless l i upto := fun hn h => by
        obtain ⟨x, hq, _⟩ := (needless_iff hil).1 h
        have := hq.2.2
        rw [hn] at this
        cases this
      have fin : ∀ w' A' c', St w0 F w' (grow A' c' (cleanN l upto (i + 1)) :: mapR b n M :: L) → (∃ (i : Nat) (A'' : Option Addr) (c'' : Nat), (Value.slice A' (cleanN l upto (i + 1)).length c', Value.int .i64 ((i + 1 : Nat) : Int)) = (Value.slice A'' (cleanN l upto i).length c'', Value.int .i64 (i : Int)) ∧ i ≤ l.length ∧ St w0 F w' (grow A'' c'' (cleanN l upto i) :: mapR b n M :: L)) ∨ True := fun _ _ _ _ => .inr trivial
      clear fin
      refine cond_split (fun h1 => ?_) (fun h1 => ?_)
      · first | refine pick_dt (by first | assumption | omega) ?_ | refine pick_df (by first | assumption | omega) ?_ | refine pick_t (by first | rfl | assumption) ?_ | refine pick_f (by first | rfl | assumption) ?_ | refine pick_dt rfl ?_ | refine pick_df (not_not_intro rfl) ?_
        cases ha : aboutR l[i].r with
        | none =>
          refine cond_f rfl ?_
          first | refine pick_dt (by first | assumption | omega) ?_ | refine pick_df (by first | assumption | omega) ?_ | refine pick_t (by first | rfl | assumption) ?_ | refine pick_f (by first | rfl | assumption) ?_ | refine pick_dt rfl ?_ | refine pick_df (not_not_intro rfl) ?_
          exact leaf _ (fun w' A' c' hS => ⟨⟨i + 1, A', c', rfl, by omega, hS⟩, by simp [intOf]; omega⟩) false ⟨fun h => (by cases h), fun h => absurd h (noq ha)⟩ _ _ _ hS
        | some x =>
          rw [ha] at hS
          have hxo := about_ok hgi ha
          obtain ⟨lk, hlk⟩ := keyRc hxo
          have hq : Qual l upto x i := ⟨hil, h1, ha⟩
          have hnl : Needless l i upto ↔ (¬ ((lastI l upto x l.length).getD 0 = i) ∨ l[i].r.text = putS 2) := by
            rw [needless_iff hil]
            constructor
            · rintro ⟨y, hy, h⟩
              obtain rfl := Option.some.inj (hy.2.2.symm.trans ha)
              exact h
            · exact fun h => ⟨x, hq, h⟩
          refine cond_t rfl ?_
          first | refine ls46 0 hS rfl ?_ | refine ls46 1 hS rfl ?_ | refine ls46 2 hS rfl ?_ | refine ls46 3 hS rfl ?_ | refine ls46 4 hS rfl ?_ | refine ls46 5 hS rfl ?_ | refine ls46 6 hS rfl ?_ | refine ls46 7 hS rfl ?_ | refine valP_ok (ld46 (by assumption) (by assumption) (by assumption)) ?_
          have hmv : MapV Try.prog 46 (plainElem Try.prog 3) b n M w := by
            have h := hS.get 3 rfl
            unfold mapR Res.map at h
            exact h
          have hlook : (Instr.lookup 53 (.map (some b)) (rv x) false).run Try.prog w = .ok (.int .i64 ((lastI l upto x l.length).getD 0 : Nat)) w := by
            rw [hmv.lookup plain3_apart lawR Try.underlying53 (z := .int .i64 0) (by simp [go_sem]) (plainElem_int Try.underlying3 (wfI (by omega))) hlk, hM x hxo]
            cases lastI l upto x l.length <;> rfl
          refine valP_ok hlook ?_
          refine valP_ok (ne3 _ _ _ _ _) ?_
          refine cond_split (fun h2 => ?_) (fun h2 => ?_)
          · first | refine pick_dt (by first | assumption | omega) ?_ | refine pick_df (by first | assumption | omega) ?_ | refine pick_t (by first | rfl | assumption) ?_ | refine pick_f (by first | rfl | assumption) ?_ | refine pick_dt rfl ?_ | refine pick_df (not_not_intro rfl) ?_
            first | refine pick_dt (by first | assumption | omega) ?_ | refine pick_df (by first | assumption | omega) ?_ | refine pick_t (by first | rfl | assumption) ?_ | refine pick_f (by first | rfl | assumption) ?_ | refine pick_dt rfl ?_ | refine pick_df (not_not_intro rfl) ?_
            exact leaf _ (fun w' A' c' hS => ⟨⟨i + 1, A', c', rfl, by omega, hS⟩, by simp [intOf]; omega⟩) true ⟨fun _ => hnl.2 (.inl (by omega)), fun _ => rfl⟩ _ _ _ hS
          · refine valP_ok (fa48_1 _ _) ?_
            refine valP_ok (ld46 (hS.cell 1 rfl rfl) (hS.cell 1 rfl rfl) (hS.cell 1 rfl rfl)) ?_
            refine callR (by kernel_rfl) (gone_ret (r := l[i].r) hS) ?_
            rintro _ w ⟨rfl, hS⟩
            first | refine pick_dt (by first | assumption | omega) ?_ | refine pick_df (by first | assumption | omega) ?_ | refine pick_t (by first | rfl | assumption) ?_ | refine pick_f (by first | rfl | assumption) ?_ | refine pick_dt rfl ?_ | refine pick_df (not_not_intro rfl) ?_
            first | refine pick_dt (by first | assumption | omega) ?_ | refine pick_df (by first | assumption | omega) ?_ | refine pick_t (by first | rfl | assumption) ?_ | refine pick_f (by first | rfl | assumption) ?_ | refine pick_dt rfl ?_ | refine pick_df (not_not_intro rfl) ?_
            refine leaf _ (fun w' A' c' hS => ⟨⟨i + 1, A', c', rfl, by omega, hS⟩, by simp [intOf]; omega⟩) _ ?_ _ _ _ hS
            rw [decide_eq_true_eq, hnl]
            exact ⟨.inr, fun h => h.resolve_left (by omega)⟩
      · first | refine pick_dt (by first | assumption | omega) ?_ | refine pick_df (by first | assumption | omega) ?_ | refine pick_t (by first | rfl | assumption) ?_ | refine pick_f (by first | rfl | assumption) ?_ | refine pick_dt rfl ?_ | refine pick_df (not_not_intro rfl) ?_
        refine cond_f rfl ?_
        first | refine pick_dt (by first | assumption | omega) ?_ | refine pick_df (by first | assumption | omega) ?_ | refine pick_t (by first | rfl | assumption) ?_ | refine pick_f (by first | rfl | assumption) ?_ | refine pick_dt rfl ?_ | refine pick_df (not_not_intro rfl) ?_
        exact leaf _ (fun w' A' c' hS => ⟨⟨i + 1, A', c', rfl, by omega, hS⟩, by simp [intOf]; omega⟩) false ⟨fun h => (by cases h), fun h => absurd h.2.1 h1⟩ _ _ _ hS
    · obtain rfl : i = l.length := by omega
      unfold m7_5 m7_6
      exact ⟨_, _, rfl, St.mid (A := [_]) (B := [_]) hS⟩
end
theorem sadd (x y : Operand) {a b : ByteArray} (h : a.size + b.size ≤ 9223372036854775807) (w : World) : (binS .add 9 x y (.string a) (.string b)).run Try.prog w = .ok (.string (a ++ b)) w := by
  rw [binS_run _ _ _ _ _ _ (by kernel_rfl)]; simp [go_sem, binOp, h]
def allS (xs : List Int) : ByteArray := xs.foldl (fun s n => s ++ putS n) ⟨#[]⟩
def l4 (p q : ByteArray) : List Gt := [⟨0, 0, 0, p⟩, ⟨1, 7, 0, q⟩, ⟨2, 0, 0, p⟩, ⟨3, 7, 0, q⟩]
section
variable {p q : ByteArray}
theorem l4_2 (hp : kindS p = 0) (hq : kindS q = 1) (u : Int) : ¬ Needless (l4 p q) 2 u := by
  have np : p ≠ putS 2 := fun e => by rw [e, kind_put2] at hp; omega
  rintro ⟨_, _, h | ⟨k, hk, h1, h2, h3⟩⟩
  · exact np h
  · obtain rfl : k = 3 := by simp [l4] at hk; omega
    simp [l4, SameR, hp, hq] at h3
theorem l4_3 (hq : kindS q = 1) (u : Int) : ¬ Needless (l4 p q) 3 u := by
  have nq : q ≠ putS 2 := fun e => by rw [e, kind_put2] at hq; omega
  rintro ⟨_, _, h | ⟨k, hk, h1, h2, h3⟩⟩
  · exact nq h
  · simp [l4] at hk
    omega
theorem l4_0 (hp : kindS p = 0) {u : Int} (hu : 2 < u) : Needless (l4 p q) 0 u := ⟨by simp [l4], by simp [l4]; omega, .inr ⟨2, by simp [l4], by omega, by simp [l4]; omega, by simp [l4, SameR, hp]⟩⟩
theorem clean4 (hp : kindS p = 0) (hq : kindS q = 1) : cleanN (l4 p q) 4 4 = (l4 p q).drop 2 := by
  have n1 : Needless (l4 p q) 1 4 := ⟨by simp [l4], by simp [l4], .inr ⟨3, by simp [l4], by omega, by simp [l4], by simp [l4, SameR, hq]⟩⟩
  rw [cleanN_take (by simp [l4]) (l4_3 hq 4), cleanN_take (by simp [l4]) (l4_2 hp hq 4), cleanN_skip n1, cleanN_skip (l4_0 hp (by omega))]
  rfl
theorem clean3 (hp : kindS p = 0) (hq : kindS q = 1) : cleanN (l4 p q) 3 4 = (l4 p q).drop 1 := by
  have nq : q ≠ putS 2 := fun e => by rw [e, kind_put2] at hq; omega
  have n1 : ¬ Needless (l4 p q) 1 3 := by
    rintro ⟨_, _, h | ⟨k, hk, h1, h2, h3⟩⟩
    · exact nq h
    · rcases (by simp [l4] at hk; omega : k = 2 ∨ k = 3) with rfl | rfl
      · simp [l4, SameR, hp, hq] at h3
      · simp [l4] at h2
  rw [cleanN_take (by simp [l4]) (l4_3 hq 3), cleanN_take (by simp [l4]) (l4_2 hp hq 3), cleanN_take (by simp [l4]) n1, cleanN_skip (l4_0 hp (by omega))]
  rfl
end
theorem kind_head {s : ByteArray} {n : Int} {r : List Nat} (h : bytesN s = lebN (zz n) ++ r) (h0 : 0 ≤ n ∧ n ≤ 2) : kindS s = n := by
  unfold kindS
  rw [takeS_L, h, takeL_put n r (by omega) (by omega)]
  simp only [Option.map_some]
  rw [if_pos h0]
theorem kind_counts : kindS (allS [0, 1, 0, 0, 1]) = 0 := by
  refine kind_head (n := 0) (r := lebN (zz 1) ++ (lebN (zz 0) ++ (lebN (zz 0) ++ lebN (zz 1)))) ?_ (by omega)
  simp only [allS, List.foldl_cons, List.foldl_nil, bytesN_append, bytesN_putS, List.append_assoc]
  rfl
theorem kind_window : kindS (putS 1) = 1 := kind_head (n := 1) (r := []) (by rw [bytesN_putS, List.append_nil]) (by omega)
section
variable {w0 w : World} {F : List Nat} {L : List Res} {A : Option Addr} {c : Nat}
theorem putS_size {n : Int} (h : -9223372036854775808 ≤ n ∧ n ≤ 9223372036854775807) : (putS n).size ≤ 10 := by
  rw [← bytesN_length, bytesN_putS]
  exact lebN_len _ (zz_lt n h.1 h.2)
theorem fold_size {xs : List Int} (hx : ∀ x ∈ xs, -9223372036854775808 ≤ x ∧ x ≤ 9223372036854775807) (s : ByteArray) : (xs.foldl (fun s n => s ++ putS n) s).size ≤ s.size + 10 * xs.length := by
  induction xs generalizing s with
  | nil => simp
  | cons x xs ih =>
    have h1 := ih (fun y hy => hx y (.tail _ hy)) (s ++ putS x)
    have h2 := putS_size (hx x (.head _))
    rw [ByteArray.size_append] at h1
    rw [List.foldl_cons, List.length_cons]
    omega
theorem all_ret {xs : List Int} (hx : ∀ x ∈ xs, -9223372036854775808 ≤ x ∧ x ≤ 9223372036854775807) (hm : xs.length ≤ 1000) (hE : Bes w0 F L 1 A xs.length (xs.map (Value.int .i64))) (hS : St w0 F w L) : Ret Try.prog 16 #[.slice A xs.length c] w fun v w' => v = .string (allS xs) ∧ St w0 F w' L := by
  refine s16 _ ?_
  unfold m16 m16_0 m16_1 m16_2 m16_5
  refine loop_in (fun u w' => ∃ i : Nat, u = (.string (allS (xs.take i)), .int .i64 (i : Int)) ∧ i ≤ xs.length ∧ St w0 F w' L) (fun u _ => xs.length - (intOf u.2).toNat) ⟨0, rfl, by omega, hS⟩ ?_
  clear hS
  rintro u w ⟨i, rfl, hi, hS⟩
  simp only
  unfold m16_6
  refine builtin_ok (len51 _) ?_
  refine valP_ok (lss_ok _ _ _ _ _ _ _) ?_
  unfold m16_9
  refine cond_split (fun h => ?_) (fun h => ?_)
  · have hil : i < xs.length := by omega
    obtain ⟨gb, o, rfl⟩ := (hE.rd hS).some_ (by omega) (by omega)
    unfold m16_7
    refine valP_ok (ix51 hil _) ?_
    refine valP_ok (ld3 ((hE.rd hS).cell_ (u := .int .i64 xs[i]) (by simp [hil]))) ?_
    refine callR (by kernel_rfl) (rput_ret (hx _ (List.getElem_mem hil)) hS) ?_
    rintro _ w ⟨rfl, hS⟩
    have hsz := fold_size (xs := xs.take i) (fun x hx' => hx x (List.mem_of_mem_take hx')) ⟨#[]⟩
    have hps := putS_size (hx _ (List.getElem_mem hil))
    rw [List.length_take] at hsz
    have hz0 : (⟨#[]⟩ : ByteArray).size = 0 := rfl
    refine valP_ok (sadd _ _ (by unfold allS; omega) _) ?_
    unfold m16_8
    refine valP_ok (add_ok _ _ _ (by omega) (by omega) _) ?_
    refine ⟨⟨i + 1, ?_, by omega, hS⟩, by simp [intOf]; omega⟩
    unfold allS
    rw [List.take_succ_eq_append_getElem hil, List.foldl_append]
    rfl
  · obtain rfl : i = xs.length := by omega
    unfold m16_3 m16_4
    rw [List.take_length]
    exact ⟨rfl, hS⟩
theorem awake_ret (hS : St w0 F w L) : Ret Try.prog 6 #[] w fun v w' => v = .bool true ∧ St w0 F w' L := by
  refine s6 ?_
  unfold m6 m6_0
  unfold m6_1
  refine newslice_ok (bs51_5 rfl rfl rfl rfl rfl _) hS ?_
  intro b4 w hS
  refine callR (by kernel_rfl) (all_ret (xs := [0, 1, 0, 0, 1]) (by simp) (by simp) (Bes.of_cells 0 rfl rfl) hS) ?_
  rintro _ w ⟨rfl, hS⟩
  refine callR (by kernel_rfl) (rput_ret (by omega) hS) ?_
  rintro _ w ⟨rfl, hS⟩
  have hp := kind_counts
  have hq := kind_window
  generalize allS [0, 1, 0, 0, 1] = p at *
  generalize putS 1 = q at *
  unfold m6_2
  refine valP_ok (bd46_2 rfl _) ?_
  refine valP_ok (bd48_1 _) ?_
  refine valP_ok (bd46_0_2 rfl rfl _) ?_
  refine valP_ok (bd48_0_1 rfl _) ?_
  refine valP_ok (bd46_2 rfl _) ?_
  refine valP_ok (bd48_0_1 rfl _) ?_
  refine valP_ok (bd46_0_2 rfl rfl _) ?_
  refine valP_ok (bd48_0_1 rfl _) ?_
  refine newslice_ok (bs25_4 _) hS ?_
  intro b19 w hS
  have hB : BG w0 F (Res.cells b19 48 ((l4 p q).flatMap encG) :: Res.cells b4 3 [.int .i64 0, .int .i64 1, .int .i64 0, .int .i64 0, .int .i64 1] :: L) (some ⟨b19, 0, none⟩) (l4 p q) := Bes.of_cells 0 rfl rfl
  have hok : ∀ g ∈ l4 p q, GtOk g := by simp [l4, GtOk]
  unfold m6_3
  refine drawn_ok hS ?_
  intro w hS
  refine pureP_ok (fun w => so25 (A := some ⟨b19, 0, none⟩) (n := 4) (c := 4) (k := 2) (by omega) (by omega) w) ?_
  refine callR (by kernel_rfl) (clean_ret (l := l4 p q) (c := 4) (by simp [l4]) hok hB hS) ?_
  rintro _ w ⟨A1, c1, rfl, hS⟩
  refine callR (by kernel_rfl) (samegot_ret (l := cleanN (l4 p q) 4 4) (l2 := (l4 p q).drop 2) (c2 := 2) (A2 := some ⟨b19, 8, none⟩) (by rw [clean4 hp hq]; simp [l4]) (by simp [l4]) (Bes.of_row 0 rfl) (fun w L' hS hL => ((hB.cons _) w L' hS hL).dropS (c := 4) (k := 2) encG_len (by simp [l4]) (by simp [l4])) hS) ?_
  rintro _ w ⟨⟨t, rfl, ht⟩, hS⟩
  have ht := ht.2 (clean4 hp hq)
  subst ht
  refine cond_t rfl ?_
  refine pureP_ok (fun w => so25 (A := some ⟨b19, 0, none⟩) (n := 4) (c := 4) (k := 1) (by omega) (by omega) w) ?_
  refine callR (by kernel_rfl) (clean_ret (l := l4 p q) (c := 4) (by simp [l4]) hok (hB.cons _) hS) ?_
  rintro _ w ⟨A2, c2, rfl, hS⟩
  refine callR (by kernel_rfl) (samegot_ret (l := cleanN (l4 p q) 3 4) (l2 := (l4 p q).drop 1) (c2 := 3) (A2 := some ⟨b19, 4, none⟩) (by rw [clean3 hp hq]; simp [l4]) (by simp [l4]) (Bes.of_row 0 rfl) (fun w L' hS hL => (((hB.cons _).cons _) w L' hS hL).dropS (c := 4) (k := 1) encG_len (by simp [l4]) (by simp [l4])) hS) ?_
  rintro _ w ⟨⟨t, rfl, ht⟩, hS⟩
  have ht := ht.2 (clean3 hp hq)
  subst ht
  first | refine pick_dt (by first | assumption | omega) ?_ | refine pick_df (by first | assumption | omega) ?_ | refine pick_t (by first | rfl | assumption) ?_ | refine pick_f (by first | rfl | assumption) ?_ | refine pick_dt rfl ?_ | refine pick_df (not_not_intro rfl) ?_
  unfold m6_4
  exact ⟨rfl, hS.tail.tail.tail.tail⟩
end
section
variable {w0 : World} {l : List Gt} {A : Option Addr} {c : Nat}
end
theorem icells3 : Try.prog.cellsOf 3 = 1 := by kernel_rfl
theorem iI {x : Int} (h : (Lit.int .i64 x).wf = true) : -9223372036854775808 ≤ x ∧ x ≤ 9223372036854775807 := by
  simp only [Lit.wf, Bool.and_eq_true, decide_eq_true_eq] at h
  exact h
section
variable {H : Type} {en : TypeId × Value → H} {w : World}
theorem openRc {n : Nat} {cs : List Value} {y : DataW H × List MemPlace} (h : DataW.trod en Try.prog w 0 (fun _ => true) true n 46 cs = some y) : ∃ r : Rc, cs = encR r ∧ (-9223372036854775808 ≤ r.key ∧ r.key ≤ 9223372036854775807) ∧ -9223372036854775808 ≤ r.time ∧ r.time ≤ 9223372036854775807 := by
  obtain ⟨hl, hf⟩ := open_structE Try.underlying46 h
  rw [show Try.prog.cellsOf 46 = 3 from by kernel_rfl] at hl
  obtain ⟨c0, c1, c2, rfl⟩ : ∃ c0 c1 c2, cs = [c0, c1, c2] := by
    match cs, hl with
    | [c0, c1, c2], _ => exact ⟨c0, c1, c2, rfl⟩
  obtain ⟨_, _, h0⟩ := hf 0 3 0 1 rfl icells3
  obtain ⟨_, _, h1⟩ := hf 1 3 1 1 rfl icells3
  obtain ⟨_, _, h2⟩ := hf 2 9 2 1 rfl (by kernel_rfl)
  obtain ⟨a0, e0, _, w0⟩ := DataW.trod_int Try.underlying3 h0
  obtain ⟨a1, e1, _, w1⟩ := DataW.trod_int Try.underlying3 h1
  obtain ⟨a2, e2, _, w2⟩ := DataW.trod_string Try.underlying9 h2
  simp at e0 e1 e2
  subst e0; subst e1; subst e2
  exact ⟨⟨a0, a1, a2⟩, rfl, iI w0, iI w1⟩
end
def need (u : Int) (g : Gt) (t : List Gt) : Prop := g.off < u ∧ (g.r.text = putS 2 ∨ ∃ h ∈ t, h.off < u ∧ SameR g.r h.r)
open Classical in
noncomputable def cl (u : Int) : List Gt → List Gt
  | [] => []
  | g :: t => if need u g t then cl u t else g :: cl u t
theorem needless_need {l : List Gt} {u : Int} {i : Nat} (hi : i < l.length) : Needless l i u ↔ need u l[i] (l.drop (i + 1)) := by
  unfold Needless need
  constructor
  · rintro ⟨_, h1, h2⟩
    refine ⟨h1, h2.imp id ?_⟩
    rintro ⟨k, hk, h3, h4, h5⟩
    refine ⟨l[k], ?_, h4, h5⟩
    rw [List.mem_iff_getElem]
    refine ⟨k - (i + 1), by rw [List.length_drop]; omega, ?_⟩
    rw [List.getElem_drop]
    congr 1
    omega
  · rintro ⟨h1, h2⟩
    refine ⟨hi, h1, h2.imp id ?_⟩
    rintro ⟨h, hm, h4, h5⟩
    obtain ⟨k, hk, rfl⟩ := List.mem_iff_getElem.1 hm
    rw [List.length_drop] at hk
    rw [List.getElem_drop] at h4 h5
    exact ⟨i + 1 + k, by omega, by omega, h4, h5⟩
theorem cleanN_cl (l : List Gt) (u : Int) : ∀ n, n ≤ l.length → cleanN l u n ++ cl u (l.drop n) = cl u l
  | 0, _ => rfl
  | n + 1, hn => by
    have hi : n < l.length := by omega
    have ih := cleanN_cl l u n (by omega)
    rw [List.drop_eq_getElem_cons hi, cl] at ih
    by_cases h : Needless l n u
    · rw [if_pos ((needless_need hi).1 h)] at ih
      rw [cleanN_skip h]
      exact ih
    · rw [if_neg (fun h1 => h ((needless_need hi).2 h1))] at ih
      rw [cleanN_take hi h, List.append_assoc]
      exact ih
theorem cleanN_eq (l : List Gt) (u : Int) : cleanN l u l.length = cl u l := by
  have h := cleanN_cl l u l.length (Nat.le_refl _)
  rw [List.drop_length] at h
  rw [← h]
  simp [cl]
abbrev I64 (x : Int) : Prop := -9223372036854775808 ≤ x ∧ x ≤ 9223372036854775807
structure Ag where
  count : Int
  sum : Int
  mn : Int
  mx : Int
  h0 : Int
  h1 : Int
  h2 : Int
  h3 : Int
  re : Int
  im : Int
structure Ce where
  key : Int
  start : Int
  a : Ag
structure Sg where
  mark : Int
  late : Int
  bad : Int
  n : Int
  L : List Ce
abbrev agI (a : Ag) : List Int := [a.count, a.sum, a.mn, a.mx, a.h0, a.h1, a.h2, a.h3, a.re, a.im]
def AgOk (a : Ag) : Prop := ∀ x ∈ agI a, I64 x
def CeOk (c : Ce) : Prop := I64 c.key ∧ I64 c.start ∧ AgOk c.a
def absI (x : Int) : Int := if x < 0 then -x else x
def MayA (a : Ag) : Prop := (1 ≤ a.count ∧ a.count ≤ 1099511627776 ∧ a.mn ≤ a.mx) ∧ ((0 ≤ a.h0 ∧ a.h0 ≤ 1099511627776) ∧ (0 ≤ a.h1 ∧ a.h1 ≤ 1099511627776) ∧ (0 ≤ a.h2 ∧ a.h2 ≤ 1099511627776) ∧ (0 ≤ a.h3 ∧ a.h3 ≤ 1099511627776)) ∧ a.h0 + a.h1 + a.h2 + a.h3 = a.count ∧ (-1099511627776 ≤ a.re ∧ a.re ≤ 1099511627776) ∧ (-1099511627776 ≤ a.im ∧ a.im ≤ 1099511627776) ∧ absI a.re + absI a.im ≤ a.count
instance (a : Ag) : Decidable (MayA a) := by unfold MayA; infer_instance
def encA (a : Ag) : ByteArray := if MayA a then allS (agI a) else ⟨#[]⟩
def AheadC (a b : Ce) : Prop := a.start < b.start ∨ (a.start = b.start ∧ a.key < b.key)
instance (a b : Ce) : Decidable (AheadC a b) := by unfold AheadC; infer_instance
abbrev goneR (c : Ce) : Rc := ⟨c.key, c.start, putS 2⟩
abbrev thereR (c : Ce) : Rc := ⟨c.key, c.start, putS 1 ++ encA c.a⟩
abbrev headR (s : Sg) : Rc := ⟨0, 0, allS [0, s.mark, s.late, s.bad, s.n]⟩
open Classical in
/-- side by side. -/
noncomputable def diffL : List Ce → List Ce → List Rc
  | [], [] => []
  | a :: A, [] => goneR a :: diffL A []
  | [], b :: B => thereR b :: diffL [] B
  | a :: A, b :: B => if AheadC a b then goneR a :: diffL A (b :: B) else if AheadC b a then thereR b :: diffL (a :: A) B else (if a = b then [] else [thereR b]) ++ diffL A B
termination_by A B => A.length + B.length
open Classical in
noncomputable def diffS (s t : Sg) : List Rc := (if ¬ s.mark = t.mark ∨ ¬ s.late = t.late ∨ ¬ s.bad = t.bad ∨ ¬ s.n = t.n then [headR t] else []) ++ diffL s.L t.L
theorem kind_there (c : Ce) : kindS (thereR c).text = 1 := kind_head (n := 1) (r := bytesN (encA c.a)) (by rw [bytesN_append, bytesN_putS]) (by omega)
theorem foldl_app (xs : List Int) : ∀ s : ByteArray, xs.foldl (fun s n => s ++ putS n) s = s ++ allS xs := by
  have e0 : ∀ a : ByteArray, a ++ ⟨#[]⟩ = a := fun a => by apply ByteArray.ext; rw [ByteArray.data_append]; simp
  have ea : ∀ a b c : ByteArray, a ++ b ++ c = a ++ (b ++ c) := fun a b c => by apply ByteArray.ext; simp only [ByteArray.data_append, Array.append_assoc]
  have ez : ∀ a : ByteArray, (⟨#[]⟩ : ByteArray) ++ a = a := fun a => by apply ByteArray.ext; rw [ByteArray.data_append]; simp
  induction xs with
  | nil => intro s; exact (e0 s).symm
  | cons x xs ih =>
    intro s
    unfold allS
    rw [List.foldl_cons, ih, List.foldl_cons, ih, ea, ez]
theorem allS_cons (x : Int) (xs : List Int) : allS (x :: xs) = putS x ++ allS xs := by
  have ez : ∀ a : ByteArray, (⟨#[]⟩ : ByteArray) ++ a = a := fun a => by apply ByteArray.ext; rw [ByteArray.data_append]; simp
  conv => lhs; unfold allS
  rw [List.foldl_cons, foldl_app, ez]
theorem kind_headR (s : Sg) : kindS (headR s).text = 0 := by
  refine kind_head (n := 0) (r := bytesN (allS [s.mark, s.late, s.bad, s.n])) ?_ (by omega)
  show bytesN (allS (0 :: [s.mark, s.late, s.bad, s.n])) = _
  rw [allS_cons, bytesN_append, bytesN_putS]
theorem diff_mem (A B : List Ce) : ∀ r ∈ diffL A B, (∃ c ∈ A, r = goneR c) ∨ ∃ c ∈ B, r = thereR c := by
  induction A, B using diffL.induct with
  | case1 => intro r h; rw [diffL] at h; cases h
  | case2 a A ih =>
    intro r h
    rw [diffL] at h
    rcases List.mem_cons.1 h with rfl | h
    · exact .inl ⟨a, .head _, rfl⟩
    · exact (ih r h).imp (fun ⟨c, hc, e⟩ => ⟨c, .tail _ hc, e⟩) id
  | case3 b B ih =>
    intro r h
    rw [diffL] at h
    rcases List.mem_cons.1 h with rfl | h
    · exact .inr ⟨b, .head _, rfl⟩
    · exact (ih r h).imp id (fun ⟨c, hc, e⟩ => ⟨c, .tail _ hc, e⟩)
  | case4 a A b B h1 ih =>
    intro r h
    rw [diffL, if_pos h1] at h
    rcases List.mem_cons.1 h with rfl | h
    · exact .inl ⟨a, .head _, rfl⟩
    · exact (ih r h).imp (fun ⟨c, hc, e⟩ => ⟨c, .tail _ hc, e⟩) id
  | case5 a A b B h1 h2 ih =>
    intro r h
    rw [diffL, if_neg h1, if_pos h2] at h
    rcases List.mem_cons.1 h with rfl | h
    · exact .inr ⟨b, .head _, rfl⟩
    · exact (ih r h).imp id (fun ⟨c, hc, e⟩ => ⟨c, .tail _ hc, e⟩)
  | case6 a A b B h1 h2 ih =>
    intro r h
    rw [diffL, if_neg h1, if_neg h2] at h
    rcases List.mem_append.1 h with h | h
    · split at h
      · cases h
      · obtain rfl := List.mem_singleton.1 h
        exact .inr ⟨b, .head _, rfl⟩
    · exact (ih r h).imp (fun ⟨c, hc, e⟩ => ⟨c, .tail _ hc, e⟩) (fun ⟨c, hc, e⟩ => ⟨c, .tail _ hc, e⟩)
def offs : Int → List Rc → List Gt
  | _, [] => []
  | i, r :: t => ⟨i, r⟩ :: offs (i + 1) t
theorem offs_len : ∀ (i : Int) (rs : List Rc), (offs i rs).length = rs.length
  | _, [] => rfl
  | i, r :: t => by rw [offs, List.length_cons, List.length_cons, offs_len]
theorem offs_r : ∀ (i : Int) (rs : List Rc), (offs i rs).map (·.r) = rs
  | _, [] => rfl
  | i, r :: t => by rw [offs, List.map_cons, offs_r]
theorem offs_mem : ∀ {i : Int} {rs : List Rc} {g : Gt}, g ∈ offs i rs → i ≤ g.off ∧ g.off < i + rs.length
  | i, r :: t, g, h => by
    rw [offs] at h
    rw [List.length_cons]
    rcases List.mem_cons.1 h with rfl | h
    · simp only; omega
    · have := offs_mem h
      omega
theorem offs_snoc : ∀ (i : Int) (rs : List Rc) (r : Rc), offs i (rs ++ [r]) = offs i rs ++ [⟨i + rs.length, r⟩]
  | i, [], r => by simp [offs]
  | i, a :: t, r => by
    rw [List.cons_append, offs, offs_snoc, offs, List.cons_append, List.length_cons]
    have : i + 1 + (t.length : Int) = i + ((t.length + 1 : Nat) : Int) := by omega
    rw [this]
end Go.Proofs.Ytnhgdngbdoifnaa.M
namespace Go.Proofs.Ytnhgdngbdoifnaa.M
open Go.Proofs.Ytnhgdngbdoifnaa.F
set_option linter.unusedVariables false
set_option maxRecDepth 100000
variable {R : VP} {Q : EQ}
def m27_13 (R : VP) (t2 : Value) (w : World) : Prop :=
  R t2 w
def m27_10 (R : VP) (K1 : VP) (t2 : Value) (w : World) : Prop :=
  R t2 w
def m27_8 (R : VP) (K1 : VP) (g1 k3 : Value) (w : World) : Prop :=
  valP Try.prog (binS BinOp.add 3 (tm 36) (ci 1) k3 (vi 1)) w fun t37 w =>
  K1 t37 w
def m27_9 (R : VP) (K1 : VP) (g1 k3 t44 : Value) (w : World) : Prop :=
  condP t44
  (m27_10 R K1 (Value.bool true) w)
  (m27_8 R K1 g1 k3 w)
def m27_7 (R : VP) (K1 : VP) (g1 k3 : Value) (w : World) : Prop :=
  valP Try.prog (Instr.fieldAt 23 g1 1) w fun t39 w =>
  valP Try.prog (Instr.loadAt 3 t39) w fun t40 w =>
  valP Try.prog (binS BinOp.mul 3 (tm 38) (tm 40) k3 t40) w fun t41 w =>
  valP Try.prog (Instr.fieldAt 23 g1 0) w fun t42 w =>
  valP Try.prog (Instr.loadAt 3 t42) w fun t43 w =>
  valP Try.prog (binS BinOp.eql 3 (tm 41) (tm 43) t41 t43) w fun t44 w =>
  m27_9 R K1 g1 k3 t44 w
def m27_4 (R : VP) (t2 : Value) (w : World) : Prop :=
  R t2 w
def m27_3 (R : VP) (w : World) : Prop :=
  m27_4 R (Value.bool false) w
def m27_11 (R : VP) (K1 : VP) (g1 k3 t35 : Value) (w : World) : Prop :=
  condP t35
  (m27_7 R K1 g1 k3 w)
  (m27_3 R w)
def m27_6 (R : VP) (K1 : VP) (g1 k3 : Value) (w : World) : Prop :=
  valP Try.prog (binS BinOp.leq 3 (tm 34) (ci 8) k3 (vi 8)) w fun t35 w =>
  m27_11 R K1 g1 k3 t35 w
def m27_5 (R : VP) (g1 k3 : Value) (w : World) : Prop :=
  loopP (fun (K1 : VP) (s : Value) w => m27_6 R K1 g1 s w) k3 w
def m27_2 (R : VP) (g1 : Value) (w : World) : Prop :=
  m27_5 R g1 (vi 1) w
def m27_12 (R : VP) (g1 t33 : Value) (w : World) : Prop :=
  condP t33
  (m27_13 R (Value.bool false) w)
  (m27_2 R g1 w)
def m27_1 (R : VP) (g1 : Value) (w : World) : Prop :=
  valP Try.prog (Instr.fieldAt 23 g1 0) w fun t4 w =>
  valP Try.prog (Instr.loadAt 3 t4) w fun t5 w =>
  valP Try.prog (binS BinOp.lss 3 (tm 5) (ci 1) t5 (vi 1)) w fun t6 w =>
  condP t6
  (pickP t6 (Value.bool true) undef fun t11 =>
  pickP t11 (Value.bool true) undef fun t16 =>
  pickP t16 (Value.bool true) undef fun t23 =>
  pickP t23 (Value.bool true) undef fun t28 =>
  pickP t28 (Value.bool true) undef fun t33 =>
  m27_12 R g1 t33 w)
  (valP Try.prog (Instr.fieldAt 23 g1 0) w fun t8 w =>
  valP Try.prog (Instr.loadAt 3 t8) w fun t9 w =>
  valP Try.prog (binS BinOp.gtr 3 (tm 9) (ci 1048576) t9 (vi 1048576)) w fun t10 w =>
  pickP t6 (Value.bool true) t10 fun t11 =>
  condP t11
  (pickP t11 (Value.bool true) undef fun t16 =>
  pickP t16 (Value.bool true) undef fun t23 =>
  pickP t23 (Value.bool true) undef fun t28 =>
  pickP t28 (Value.bool true) undef fun t33 =>
  m27_12 R g1 t33 w)
  (valP Try.prog (Instr.fieldAt 23 g1 1) w fun t13 w =>
  valP Try.prog (Instr.loadAt 3 t13) w fun t14 w =>
  valP Try.prog (binS BinOp.lss 3 (tm 14) (ci 1) t14 (vi 1)) w fun t15 w =>
  pickP t11 (Value.bool true) t15 fun t16 =>
  condP t16
  (pickP t16 (Value.bool true) undef fun t23 =>
  pickP t23 (Value.bool true) undef fun t28 =>
  pickP t28 (Value.bool true) undef fun t33 =>
  m27_12 R g1 t33 w)
  (valP Try.prog (Instr.fieldAt 23 g1 1) w fun t18 w =>
  valP Try.prog (Instr.loadAt 3 t18) w fun t19 w =>
  valP Try.prog (Instr.fieldAt 23 g1 0) w fun t20 w =>
  valP Try.prog (Instr.loadAt 3 t20) w fun t21 w =>
  valP Try.prog (binS BinOp.gtr 3 (tm 19) (tm 21) t19 t21) w fun t22 w =>
  pickP t16 (Value.bool true) t22 fun t23 =>
  condP t23
  (pickP t23 (Value.bool true) undef fun t28 =>
  pickP t28 (Value.bool true) undef fun t33 =>
  m27_12 R g1 t33 w)
  (valP Try.prog (Instr.fieldAt 23 g1 2) w fun t25 w =>
  valP Try.prog (Instr.loadAt 3 t25) w fun t26 w =>
  valP Try.prog (binS BinOp.lss 3 (tm 26) (ci 0) t26 (vi 0)) w fun t27 w =>
  pickP t23 (Value.bool true) t27 fun t28 =>
  condP t28
  (pickP t28 (Value.bool true) undef fun t33 =>
  m27_12 R g1 t33 w)
  (valP Try.prog (Instr.fieldAt 23 g1 2) w fun t30 w =>
  valP Try.prog (Instr.loadAt 3 t30) w fun t31 w =>
  valP Try.prog (binS BinOp.gtr 3 (tm 31) (ci 1048576) t31 (vi 1048576)) w fun t32 w =>
  pickP t28 (Value.bool true) t32 fun t33 =>
  m27_12 R g1 t33 w)))))
def m27_0 (R : VP) (g0 : Value) (w : World) : Prop :=
  valP Try.prog (Instr.box 23 g0) w fun g1 w =>
  m27_1 R g1 w
abbrev W27 := cwp Try.prog (fun i => 0)
noncomputable def k27_0 := bodyOf Try.f27
noncomputable def k27_1 := c2 k27_0
noncomputable def k27_2 := c2 k27_1
noncomputable def k27_3 := c2 k27_2
noncomputable def k27_4 := c2 k27_3
noncomputable def k27_5 := c2 (c1 k27_2)
noncomputable def k27_6 := c1 (c1 k27_5)
noncomputable def k27_7 := c2 k27_6
noncomputable def k27_8 := c2 k27_7
noncomputable def k27_9 := c2 (c1 (c1 k27_7))
noncomputable def k27_10 := c2 (c1 k27_9)
noncomputable def k27_11 := c2 (c1 k27_6)
noncomputable def k27_12 := c2 (c1 k27_1)
noncomputable def k27_13 := c2 (c1 k27_12)
abbrev hR27 (R : VP) (Q : EQ) : Prop := ∀ e w, (R (e 2) w) → Q .ret e w
theorem s27_13 (hR : hR27 R Q) (e : Env) (w : World) (h : m27_13 R (e 2) w) : W27 k27_13 Q e w := by
  exact reA (hR _ _ h)
theorem s27_10 {K1 : VP} (hR : hR27 R Q) (e : Env) (w : World) (h : m27_10 R K1 (e 2) w) : W27 k27_10 Q e w := by
  exact reA (hR _ _ h)
theorem s27_8 {K1 : VP} (hN : ∀ e w, (K1 (e 3) w) → Q .normal e w) (e : Env) (w : World) (h : m27_8 R K1 (e 1) (e 3) w) : W27 k27_8 Q e w := by
  exact rgA 5 (fun e w => K1 (e 3) w) h hN
theorem s27_9 {K1 : VP} (hN : ∀ e w, (m27_8 R K1 (e 1) (e 3) w) → Q .normal e w) (hR : hR27 R Q) (e : Env) (w : World) (h : m27_9 R K1 (e 1) (e 3) (e 44) w) : W27 k27_9 Q e w := by
  refine coA (Operand.tmp 44) h (fun h1 => ?_) (fun h1 => ?_)
  · refine seA ?_
    exact rgA 7 (fun e w => m27_10 R K1 (e 2) w) h1 fun e w h => then_N (s27_10 hR e w h)
  · exact skA (hN _ _ h1)
theorem s27_7 {K1 : VP} (hN : ∀ e w, (K1 (e 3) w) → Q .normal e w) (hR : hR27 R Q) (e : Env) (w : World) (h : m27_7 R K1 (e 1) (e 3) w) : W27 k27_7 Q e w := by
  refine seA ?_
  have hN : ∀ e w, (m27_8 R K1 (e 1) (e 3) w) → (thenE (W27 k27_8 Q) Q) .normal e w := fun e w h => then_N (s27_8 hN e w h)
  have hR : hR27 R (thenE (W27 k27_8 Q) Q) := fun e w h => then_R (hR e w h)
  refine block_ok 1 (by kernel_rfl) ?_
  have hN : ∀ e w, (m27_8 R K1 (e 1) (e 3) w) → (inBlockE 1 (thenE (W27 k27_8 Q) Q)) .normal e w := fun e w h => block_N (hN e w h)
  have hR : hR27 R (inBlockE 1 (thenE (W27 k27_8 Q) Q)) := fun e w h => block_R (hR e w h)
  refine seA ?_
  exact rgA 6 (fun e w => m27_9 R K1 (e 1) (e 3) (e 44) w) h fun e w h => then_N (s27_9 (R := R) (Q := (inBlockE 1 (thenE (W27 k27_8 Q) Q))) hN hR e w h)
theorem s27_4 (hR : hR27 R Q) (e : Env) (w : World) (h : m27_4 R (e 2) w) : W27 k27_4 Q e w := by
  exact reA (hR _ _ h)
theorem s27_3 (hR : hR27 R Q) (e : Env) (w : World) (h : m27_3 R w) : W27 k27_3 Q e w := by
  refine seA ?_
  exact rgA 8 (fun e w => m27_4 R (e 2) w) h fun e w h => then_N (s27_4 hR e w h)
theorem s27_11 {K1 : VP} (hN : ∀ e w, (m27_7 R K1 (e 1) (e 3) w) → Q .normal e w) (hX0 : ∀ e w, (m27_3 R w) → Q (.exit 0) e w) (e : Env) (w : World) (h : m27_11 R K1 (e 1) (e 3) (e 35) w) : W27 k27_11 Q e w := by
  refine coA (Operand.tmp 35) h (fun h1 => ?_) (fun h1 => ?_)
  · exact skA (hN _ _ h1)
  · exact exA 0 (hX0 _ _ h1)
theorem s27_6 {K1 : VP} (hN : ∀ e w, (K1 (e 3) w) → Q .normal e w) (hR : hR27 R Q) (hX0 : ∀ e w, (m27_3 R w) → Q (.exit 0) e w) (e : Env) (w : World) (h : m27_6 R K1 (e 1) (e 3) w) : W27 k27_6 Q e w := by
  refine seA ?_
  have hN : ∀ e w, (m27_7 R K1 (e 1) (e 3) w) → (thenE (W27 k27_7 Q) Q) .normal e w := fun e w h => then_N (s27_7 hN hR e w h)
  have hX0 : ∀ e w, (m27_3 R w) → (thenE (W27 k27_7 Q) Q) (.exit 0) e w := fun e w h => then_X (hX0 e w h)
  refine seA ?_
  exact rgA 4 (fun e w => m27_11 R K1 (e 1) (e 3) (e 35) w) h fun e w h => then_N (s27_11 hN hX0 e w h)
theorem s27_5 (hN : ∀ e w, (m27_3 R w) → Q .normal e w) (hR : hR27 R Q) (e : Env) (w : World) (h : m27_5 R (e 1) (e 3) w) : W27 k27_5 Q e w := by
  refine block_ok 0 (by kernel_rfl) ?_
  have hX0 : ∀ e w, (m27_3 R w) → (inBlockE 0 Q) (.exit 0) e w := fun e w h => inBlock_same (Q := Q) 0 (hN e w h)
  have hR : hR27 R (inBlockE 0 Q) := fun e w h => block_R (hR e w h)
  refine loop_ok' (fun (e : Env) => e 3) [1] (by kernel_rfl) (by kernel_rfl) h (fun K e' w' hk h' => ?_)
  have r1 : e' 1 = e 1 := hk 1 (by decide)
  have hR : hR27 R (thenE (fun (e : Env) w => K (e 3) w) (inBlockE 0 Q)) := fun e w h => then_R (hR e w h)
  have hX0 : ∀ e w, (m27_3 R w) → (thenE (fun (e : Env) w => K (e 3) w) (inBlockE 0 Q)) (.exit 0) e w := fun e w h => then_X (hX0 e w h)
  exact s27_6 (K1 := K) (fun _ _ h => then_N h) hR hX0 e' w' (by rw [r1]; exact h')
theorem s27_2 (hR : hR27 R Q) (e : Env) (w : World) (h : m27_2 R (e 1) w) : W27 k27_2 Q e w := by
  refine seA ?_
  have hN : ∀ e w, (m27_3 R w) → (thenE (W27 k27_3 Q) Q) .normal e w := fun e w h => then_N (s27_3 hR e w h)
  have hR : hR27 R (thenE (W27 k27_3 Q) Q) := fun e w h => then_R (hR e w h)
  refine seA ?_
  exact rgA 3 (fun e w => m27_5 R (e 1) (e 3) w) h fun e w h => then_N (s27_5 hN hR e w h)
theorem s27_12 (hN : ∀ e w, (m27_2 R (e 1) w) → Q .normal e w) (hR : hR27 R Q) (e : Env) (w : World) (h : m27_12 R (e 1) (e 33) w) : W27 k27_12 Q e w := by
  refine coA (Operand.tmp 33) h (fun h1 => ?_) (fun h1 => ?_)
  · refine seA ?_
    exact rgA 2 (fun e w => m27_13 R (e 2) w) h1 fun e w h => then_N (s27_13 hR e w h)
  · exact skA (hN _ _ h1)
theorem s27_1 (hR : hR27 R Q) (e : Env) (w : World) (h : m27_1 R (e 1) w) : W27 k27_1 Q e w := by
  refine seA ?_
  have hN : ∀ e w, (m27_2 R (e 1) w) → (thenE (W27 k27_2 Q) Q) .normal e w := fun e w h => then_N (s27_2 hR e w h)
  have hR : hR27 R (thenE (W27 k27_2 Q) Q) := fun e w h => then_R (hR e w h)
  refine seA ?_
  have hN : ∀ e w, (m27_12 R (e 1) (e 33) w) → (thenE (W27 k27_12 (thenE (W27 k27_2 Q) Q)) (thenE (W27 k27_2 Q) Q)) .normal e w := fun e w h => then_N (s27_12 hN hR e w h)
  exact rgK 1 (fun e w => m27_12 R (e 1) (e 33) w) h hN
theorem s27_0 (hR : hR27 R Q) (e : Env) (w : World) (h : m27_0 R (e 0) w) : W27 k27_0 Q e w := by
  refine seA ?_
  exact rgA 0 (fun e w => m27_1 R (e 1) w) h fun e w h => then_N (s27_1 hR e w h)
abbrev m27 (R : VP) (g0 : Value) (w : World) : Prop := m27_0 R g0 w
theorem s27 (g0 : Value) {R : VP} {w : World} (h : m27 R g0 w) :
    Calls Try.prog 27 #[g0] w fun e w' => ∃ v, e = .returned v ∧ R v w' :=
  calls_of_cwp (st := (fun i => 0)) (c := k27_0) (by kernel_rfl) Try.func27 (by kernel_rfl) (Nat.le_of_ble_eq_true (by kernel_rfl)) (by kernel_rfl)
    (s27_0 (R := R) (Q := endE Try.prog Try.f27 R) (fun e w h => kcast (by kernel_rfl) h) (argsE #[g0]) w (kcast (by kernel_rfl) h))
def m29_2 (R : VP) (t6 : Value) (w : World) : Prop :=
  R t6 w
def m29_1 (R : VP) (start1 mark2 g3 : Value) (w : World) : Prop :=
  valP Try.prog (Instr.loadAt 23 g3) w fun t7 w =>
  callP Try.prog (fnV 27) #[t7] w fun t8 w =>
  condP t8
  (valP Try.prog (binS BinOp.geq 3 (tm 10) (ci 0) mark2 (vi 0)) w fun t11 w =>
  pickP t8 t11 (Value.bool false) fun t12 =>
  condP t12
  (valP Try.prog (Instr.fieldAt 23 g3 0) w fun t16 w =>
  valP Try.prog (Instr.loadAt 3 t16) w fun t17 w =>
  valP Try.prog (Instr.fieldAt 23 g3 2) w fun t18 w =>
  valP Try.prog (Instr.loadAt 3 t18) w fun t19 w =>
  valP Try.prog (binS BinOp.add 3 (tm 17) (tm 19) t17 t19) w fun t20 w =>
  valP Try.prog (binS BinOp.sub 3 (tm 15) (tm 20) mark2 t20) w fun t21 w =>
  valP Try.prog (binS BinOp.leq 3 (tm 14) (tm 21) start1 t21) w fun t22 w =>
  pickP t12 t22 (Value.bool false) fun t23 =>
  m29_2 R t23 w)
  (pickP t12 undef (Value.bool false) fun t23 =>
  m29_2 R t23 w))
  (pickP t8 undef (Value.bool false) fun t12 =>
  condP t12
  (valP Try.prog (Instr.fieldAt 23 g3 0) w fun t16 w =>
  valP Try.prog (Instr.loadAt 3 t16) w fun t17 w =>
  valP Try.prog (Instr.fieldAt 23 g3 2) w fun t18 w =>
  valP Try.prog (Instr.loadAt 3 t18) w fun t19 w =>
  valP Try.prog (binS BinOp.add 3 (tm 17) (tm 19) t17 t19) w fun t20 w =>
  valP Try.prog (binS BinOp.sub 3 (tm 15) (tm 20) mark2 t20) w fun t21 w =>
  valP Try.prog (binS BinOp.leq 3 (tm 14) (tm 21) start1 t21) w fun t22 w =>
  pickP t12 t22 (Value.bool false) fun t23 =>
  m29_2 R t23 w)
  (pickP t12 undef (Value.bool false) fun t23 =>
  m29_2 R t23 w))
def m29_0 (R : VP) (g0 start1 mark2 : Value) (w : World) : Prop :=
  valP Try.prog (Instr.box 23 g0) w fun g3 w =>
  m29_1 R start1 mark2 g3 w
abbrev W29 := cwp Try.prog (fun i => 0)
noncomputable def k29_0 := bodyOf Try.f29
noncomputable def k29_1 := c2 k29_0
noncomputable def k29_2 := c2 k29_1
abbrev hR29 (R : VP) (Q : EQ) : Prop := ∀ e w, (R (e 6) w) → Q .ret e w
theorem s29_2 (hR : hR29 R Q) (e : Env) (w : World) (h : m29_2 R (e 6) w) : W29 k29_2 Q e w := by
  exact reA (hR _ _ h)
theorem s29_1 (hR : hR29 R Q) (e : Env) (w : World) (h : m29_1 R (e 1) (e 2) (e 3) w) : W29 k29_1 Q e w := by
  refine seA ?_
  exact rgA 1 (fun e w => m29_2 R (e 6) w) h fun e w h => then_N (s29_2 hR e w h)
theorem s29_0 (hR : hR29 R Q) (e : Env) (w : World) (h : m29_0 R (e 0) (e 1) (e 2) w) : W29 k29_0 Q e w := by
  refine seA ?_
  exact rgA 0 (fun e w => m29_1 R (e 1) (e 2) (e 3) w) h fun e w h => then_N (s29_1 hR e w h)
abbrev m29 (R : VP) (g0 start1 mark2 : Value) (w : World) : Prop := m29_0 R g0 start1 mark2 w
theorem s29 (g0 start1 mark2 : Value) {R : VP} {w : World} (h : m29 R g0 start1 mark2 w) :
    Calls Try.prog 29 #[g0, start1, mark2] w fun e w' => ∃ v, e = .returned v ∧ R v w' :=
  calls_of_cwp (st := (fun i => 0)) (c := k29_0) (by kernel_rfl) Try.func29 (by kernel_rfl) (Nat.le_of_ble_eq_true (by kernel_rfl)) (by kernel_rfl)
    (s29_0 (R := R) (Q := endE Try.prog Try.f29 R) (fun e w h => kcast (by kernel_rfl) h) (argsE #[g0, start1, mark2]) w (kcast (by kernel_rfl) h))
def m45_19 (R : VP) (t4 t5 : Value) (w : World) : Prop :=
  R (Value.tuple #[t4, t5]) w
def m45_16 (R : VP) (K1 : (Value × Value) → World → Prop) (t1 g2 down6 s7 : Value) (w : World) : Prop :=
  valP Try.prog (Instr.fieldAt 23 g2 1) w fun t39 w =>
  valP Try.prog (Instr.loadAt 3 t39) w fun t40 w =>
  valP Try.prog (binS BinOp.sub 3 (tm 38) (tm 40) s7 t40) w fun t41 w =>
  K1 (down6, t41) w
def m45_15 (R : VP) (K1 : (Value × Value) → World → Prop) (t1 g2 down6 s7 : Value) (w : World) : Prop :=
  valP Try.prog (Instr.buildSlice 51 1 #[(0, s7)]) w fun t44 w =>
  builtinP Try.prog Builtin.append #[51, 51] 51 #[false, false] #[down6, t44] w fun t45 w =>
  m45_16 R K1 t1 g2 t45 s7 w
def m45_11 (R : VP) (K1 : (Value × Value) → World → Prop) (down6 out8 i9 : Value) (w : World) : Prop :=
  valP Try.prog (binS BinOp.sub 3 (tm 51) (ci 1) i9 (vi 1)) w fun t52 w =>
  K1 (out8, t52) w
def m45_10 (R : VP) (K1 : (Value × Value) → World → Prop) (down6 out8 i9 : Value) (w : World) : Prop :=
  valP Try.prog (Instr.indexAt 51 down6 i9) w fun t56 w =>
  valP Try.prog (Instr.loadAt 3 t56) w fun t57 w =>
  valP Try.prog (Instr.buildSlice 51 1 #[(0, t57)]) w fun t58 w =>
  builtinP Try.prog Builtin.append #[51, 51] 51 #[false, false] #[out8, t58] w fun t59 w =>
  m45_11 R K1 down6 t59 i9 w
def m45_7 (R : VP) (t4 t5 : Value) (w : World) : Prop :=
  R (Value.tuple #[t4, t5]) w
def m45_6 (R : VP) (out8 : Value) (w : World) : Prop :=
  m45_7 R out8 (vi 0) w
def m45_12 (R : VP) (K1 : (Value × Value) → World → Prop) (down6 out8 i9 t50 : Value) (w : World) : Prop :=
  condP t50
  (m45_10 R K1 down6 out8 i9 w)
  (m45_6 R out8 w)
def m45_9 (R : VP) (K1 : (Value × Value) → World → Prop) (down6 out8 i9 : Value) (w : World) : Prop :=
  valP Try.prog (binS BinOp.geq 3 (tm 49) (ci 0) i9 (vi 0)) w fun t50 w =>
  m45_12 R K1 down6 out8 i9 t50 w
def m45_8 (R : VP) (down6 out8 i9 : Value) (w : World) : Prop :=
  loopP (fun (K1 : (Value × Value) → World → Prop) (s : Value × Value) w => m45_9 R K1 down6 s.1 s.2 w) (out8, i9) w
def m45_5 (R : VP) (down6 out8 : Value) (w : World) : Prop :=
  builtinP Try.prog Builtin.len #[51] 3 #[false] #[down6] w fun t47 w =>
  valP Try.prog (binS BinOp.sub 3 (tm 47) (ci 1) t47 (vi 1)) w fun t48 w =>
  m45_8 R down6 out8 t48 w
def m45_4 (R : VP) (down6 : Value) (w : World) : Prop :=
  m45_5 R down6 (Value.slice none 0 0) w
def m45_17 (R : VP) (K1 : (Value × Value) → World → Prop) (t1 g2 down6 s7 t37 : Value) (w : World) : Prop :=
  condP t37
  (m45_15 R K1 t1 g2 down6 s7 w)
  (m45_4 R down6 w)
def m45_14 (R : VP) (K1 : (Value × Value) → World → Prop) (t1 g2 down6 s7 : Value) (w : World) : Prop :=
  valP Try.prog (binS BinOp.geq 3 (tm 28) (ci 0) s7 (vi 0)) w fun t29 w =>
  condP t29
  (valP Try.prog (Instr.fieldAt 23 g2 0) w fun t32 w =>
  valP Try.prog (Instr.loadAt 3 t32) w fun t33 w =>
  valP Try.prog (binS BinOp.add 3 (tm 31) (tm 33) s7 t33) w fun t34 w =>
  valP Try.prog (binS BinOp.gtr 3 (tm 34) (tm 35) t34 t1) w fun t36 w =>
  pickP t29 t36 (Value.bool false) fun t37 =>
  m45_17 R K1 t1 g2 down6 s7 t37 w)
  (pickP t29 undef (Value.bool false) fun t37 =>
  m45_17 R K1 t1 g2 down6 s7 t37 w)
def m45_13 (R : VP) (t1 g2 down6 s7 : Value) (w : World) : Prop :=
  loopP (fun (K1 : (Value × Value) → World → Prop) (s : Value × Value) w => m45_14 R K1 t1 g2 s.1 s.2 w) (down6, s7) w
def m45_3 (R : VP) (t1 g2 down6 : Value) (w : World) : Prop :=
  valQ Try.prog (Instr.fieldAt 23 g2 1) w fun t22 =>
  valQ Try.prog (Instr.loadAt 3 t22) w fun t23 =>
  valQ Try.prog (binS BinOp.quo 3 (tm 21) (tm 23) t1 t23) w fun t24 =>
  valQ Try.prog (Instr.fieldAt 23 g2 1) w fun t25 =>
  valQ Try.prog (Instr.loadAt 3 t25) w fun t26 =>
  valQ Try.prog (binS BinOp.mul 3 (tm 24) (tm 26) t24 t26) w fun t27 =>
  anyDraw w fun w =>
  m45_13 R t1 g2 down6 t27 w
def m45_2 (R : VP) (t1 g2 : Value) (w : World) : Prop :=
  m45_3 R t1 g2 (Value.slice none 0 0) w
def m45_18 (R : VP) (t1 g2 t20 : Value) (w : World) : Prop :=
  condP t20
  (m45_19 R (Value.slice none 0 0) (vi 1) w)
  (m45_2 R t1 g2 w)
def m45_1 (R : VP) (t1 g2 : Value) (w : World) : Prop :=
  valP Try.prog (Instr.loadAt 23 g2) w fun t10 w =>
  callP Try.prog (fnV 27) #[t10] w fun t11 w =>
  valP Try.prog (Op.unary UnOp.not t11) w fun t12 w =>
  condP t12
  (pickP t12 (Value.bool true) undef fun t16 =>
  condP t16
  (pickP t16 (Value.bool true) undef fun t20 =>
  m45_18 R t1 g2 t20 w)
  (valP Try.prog (binS BinOp.gtr 3 (tm 18) (ci 1099511627776) t1 (vi 1099511627776)) w fun t19 w =>
  pickP t16 (Value.bool true) t19 fun t20 =>
  m45_18 R t1 g2 t20 w))
  (valP Try.prog (binS BinOp.lss 3 (tm 14) (ci 0) t1 (vi 0)) w fun t15 w =>
  pickP t12 (Value.bool true) t15 fun t16 =>
  condP t16
  (pickP t16 (Value.bool true) undef fun t20 =>
  m45_18 R t1 g2 t20 w)
  (valP Try.prog (binS BinOp.gtr 3 (tm 18) (ci 1099511627776) t1 (vi 1099511627776)) w fun t19 w =>
  pickP t16 (Value.bool true) t19 fun t20 =>
  m45_18 R t1 g2 t20 w))
def m45_0 (R : VP) (g0 t1 : Value) (w : World) : Prop :=
  valP Try.prog (Instr.box 23 g0) w fun g2 w =>
  m45_1 R t1 g2 w
abbrev W45 := cwp Try.prog (fun i => cond (Nat.beq i 4) 1 (0))
noncomputable def k45_0 := bodyOf Try.f45
noncomputable def k45_1 := c2 k45_0
noncomputable def k45_2 := c2 k45_1
noncomputable def k45_3 := c2 k45_2
noncomputable def k45_4 := c2 k45_3
noncomputable def k45_5 := c2 k45_4
noncomputable def k45_6 := c2 k45_5
noncomputable def k45_7 := c2 k45_6
noncomputable def k45_8 := c2 (c1 k45_5)
noncomputable def k45_9 := c1 (c1 k45_8)
noncomputable def k45_10 := c2 k45_9
noncomputable def k45_11 := c2 k45_10
noncomputable def k45_12 := c2 (c1 k45_9)
noncomputable def k45_13 := c2 (c1 k45_3)
noncomputable def k45_14 := c1 (c1 k45_13)
noncomputable def k45_15 := c2 k45_14
noncomputable def k45_16 := c2 k45_15
noncomputable def k45_17 := c2 (c1 k45_14)
noncomputable def k45_18 := c2 (c1 k45_1)
noncomputable def k45_19 := c2 (c1 k45_18)
abbrev hR45 (R : VP) (Q : EQ) : Prop := ∀ e w, (R (Value.tuple #[(e 4), (e 5)]) w) → Q .ret e w
theorem s45_19 (hR : hR45 R Q) (e : Env) (w : World) (h : m45_19 R (e 4) (e 5) w) : W45 k45_19 Q e w := by
  exact reA (hR _ _ h)
theorem s45_16 {K1 : (Value × Value) → World → Prop} (hN : ∀ e w, (K1 ((e 6), (e 7)) w) → Q .normal e w) (e : Env) (w : World) (h : m45_16 R K1 (e 1) (e 2) (e 6) (e 7) w) : W45 k45_16 Q e w := by
  exact rgA 6 (fun e w => K1 ((e 6), (e 7)) w) h hN
theorem s45_15 {K1 : (Value × Value) → World → Prop} (hN : ∀ e w, (K1 ((e 6), (e 7)) w) → Q .normal e w) (e : Env) (w : World) (h : m45_15 R K1 (e 1) (e 2) (e 6) (e 7) w) : W45 k45_15 Q e w := by
  refine seA ?_
  have hN : ∀ e w, (m45_16 R K1 (e 1) (e 2) (e 6) (e 7) w) → (thenE (W45 k45_16 Q) Q) .normal e w := fun e w h => then_N (s45_16 hN e w h)
  refine block_ok 1 (by kernel_rfl) ?_
  exact rgA 7 (fun e w => m45_16 R K1 (e 1) (e 2) (e 6) (e 7) w) h fun e w h => block_N (hN e w h)
theorem s45_11 {K1 : (Value × Value) → World → Prop} (hN : ∀ e w, (K1 ((e 8), (e 9)) w) → Q .normal e w) (e : Env) (w : World) (h : m45_11 R K1 (e 6) (e 8) (e 9) w) : W45 k45_11 Q e w := by
  exact rgA 11 (fun e w => K1 ((e 8), (e 9)) w) h hN
theorem s45_10 {K1 : (Value × Value) → World → Prop} (hN : ∀ e w, (K1 ((e 8), (e 9)) w) → Q .normal e w) (e : Env) (w : World) (h : m45_10 R K1 (e 6) (e 8) (e 9) w) : W45 k45_10 Q e w := by
  refine seA ?_
  have hN : ∀ e w, (m45_11 R K1 (e 6) (e 8) (e 9) w) → (thenE (W45 k45_11 Q) Q) .normal e w := fun e w h => then_N (s45_11 hN e w h)
  refine block_ok 3 (by kernel_rfl) ?_
  exact rgA 12 (fun e w => m45_11 R K1 (e 6) (e 8) (e 9) w) h fun e w h => block_N (hN e w h)
theorem s45_7 (hR : hR45 R Q) (e : Env) (w : World) (h : m45_7 R (e 4) (e 5) w) : W45 k45_7 Q e w := by
  exact reA (hR _ _ h)
theorem s45_6 (hR : hR45 R Q) (e : Env) (w : World) (h : m45_6 R (e 8) w) : W45 k45_6 Q e w := by
  refine seA ?_
  exact rgA 13 (fun e w => m45_7 R (e 4) (e 5) w) h fun e w h => then_N (s45_7 hR e w h)
theorem s45_12 {K1 : (Value × Value) → World → Prop} (hN : ∀ e w, (m45_10 R K1 (e 6) (e 8) (e 9) w) → Q .normal e w) (hX2 : ∀ e w, (m45_6 R (e 8) w) → Q (.exit 2) e w) (e : Env) (w : World) (h : m45_12 R K1 (e 6) (e 8) (e 9) (e 50) w) : W45 k45_12 Q e w := by
  refine coA (Operand.tmp 50) h (fun h1 => ?_) (fun h1 => ?_)
  · exact skA (hN _ _ h1)
  · exact exA 2 (hX2 _ _ h1)
theorem s45_9 {K1 : (Value × Value) → World → Prop} (hN : ∀ e w, (K1 ((e 8), (e 9)) w) → Q .normal e w) (hX2 : ∀ e w, (m45_6 R (e 8) w) → Q (.exit 2) e w) (e : Env) (w : World) (h : m45_9 R K1 (e 6) (e 8) (e 9) w) : W45 k45_9 Q e w := by
  refine seA ?_
  have hN : ∀ e w, (m45_10 R K1 (e 6) (e 8) (e 9) w) → (thenE (W45 k45_10 Q) Q) .normal e w := fun e w h => then_N (s45_10 hN e w h)
  have hX2 : ∀ e w, (m45_6 R (e 8) w) → (thenE (W45 k45_10 Q) Q) (.exit 2) e w := fun e w h => then_X (hX2 e w h)
  refine seA ?_
  exact rgA 10 (fun e w => m45_12 R K1 (e 6) (e 8) (e 9) (e 50) w) h fun e w h => then_N (s45_12 hN hX2 e w h)
theorem s45_8 (hN : ∀ e w, (m45_6 R (e 8) w) → Q .normal e w) (e : Env) (w : World) (h : m45_8 R (e 6) (e 8) (e 9) w) : W45 k45_8 Q e w := by
  refine block_ok 2 (by kernel_rfl) ?_
  have hX2 : ∀ e w, (m45_6 R (e 8) w) → (inBlockE 2 Q) (.exit 2) e w := fun e w h => inBlock_same (Q := Q) 2 (hN e w h)
  refine loop_ok' (fun (e : Env) => (e 8, e 9)) [6] (by kernel_rfl) (by kernel_rfl) h (fun K e' w' hk h' => ?_)
  have r6 : e' 6 = e 6 := hk 6 (by decide)
  have hX2 : ∀ e w, (m45_6 R (e 8) w) → (thenE (fun (e : Env) w => K ((e 8), (e 9)) w) (inBlockE 2 Q)) (.exit 2) e w := fun e w h => then_X (hX2 e w h)
  exact s45_9 (K1 := K) (fun _ _ h => then_N h) hX2 e' w' (by rw [r6]; exact h')
theorem s45_5 (hR : hR45 R Q) (e : Env) (w : World) (h : m45_5 R (e 6) (e 8) w) : W45 k45_5 Q e w := by
  refine seA ?_
  have hN : ∀ e w, (m45_6 R (e 8) w) → (thenE (W45 k45_6 Q) Q) .normal e w := fun e w h => then_N (s45_6 hR e w h)
  refine seA ?_
  exact rgA 9 (fun e w => m45_8 R (e 6) (e 8) (e 9) w) h fun e w h => then_N (s45_8 hN e w h)
theorem s45_4 (hR : hR45 R Q) (e : Env) (w : World) (h : m45_4 R (e 6) w) : W45 k45_4 Q e w := by
  refine seA ?_
  exact rgA 8 (fun e w => m45_5 R (e 6) (e 8) w) h fun e w h => then_N (s45_5 hR e w h)
theorem s45_17 {K1 : (Value × Value) → World → Prop} (hN : ∀ e w, (m45_15 R K1 (e 1) (e 2) (e 6) (e 7) w) → Q .normal e w) (hX0 : ∀ e w, (m45_4 R (e 6) w) → Q (.exit 0) e w) (e : Env) (w : World) (h : m45_17 R K1 (e 1) (e 2) (e 6) (e 7) (e 37) w) : W45 k45_17 Q e w := by
  refine coA (Operand.tmp 37) h (fun h1 => ?_) (fun h1 => ?_)
  · exact skA (hN _ _ h1)
  · exact exA 0 (hX0 _ _ h1)
theorem s45_14 {K1 : (Value × Value) → World → Prop} (hN : ∀ e w, (K1 ((e 6), (e 7)) w) → Q .normal e w) (hX0 : ∀ e w, (m45_4 R (e 6) w) → Q (.exit 0) e w) (e : Env) (w : World) (h : m45_14 R K1 (e 1) (e 2) (e 6) (e 7) w) : W45 k45_14 Q e w := by
  refine seA ?_
  have hN : ∀ e w, (m45_15 R K1 (e 1) (e 2) (e 6) (e 7) w) → (thenE (W45 k45_15 Q) Q) .normal e w := fun e w h => then_N (s45_15 hN e w h)
  have hX0 : ∀ e w, (m45_4 R (e 6) w) → (thenE (W45 k45_15 Q) Q) (.exit 0) e w := fun e w h => then_X (hX0 e w h)
  refine seA ?_
  exact rgA 5 (fun e w => m45_17 R K1 (e 1) (e 2) (e 6) (e 7) (e 37) w) h fun e w h => then_N (s45_17 hN hX0 e w h)
theorem s45_13 (hN : ∀ e w, (m45_4 R (e 6) w) → Q .normal e w) (e : Env) (w : World) (h : m45_13 R (e 1) (e 2) (e 6) (e 7) w) : W45 k45_13 Q e w := by
  refine block_ok 0 (by kernel_rfl) ?_
  have hX0 : ∀ e w, (m45_4 R (e 6) w) → (inBlockE 0 Q) (.exit 0) e w := fun e w h => inBlock_same (Q := Q) 0 (hN e w h)
  refine loop_ok' (fun (e : Env) => (e 6, e 7)) [1, 2] (by kernel_rfl) (by kernel_rfl) h (fun K e' w' hk h' => ?_)
  have r1 : e' 1 = e 1 := hk 1 (by decide)
  have r2 : e' 2 = e 2 := hk 2 (by decide)
  have hX0 : ∀ e w, (m45_4 R (e 6) w) → (thenE (fun (e : Env) w => K ((e 6), (e 7)) w) (inBlockE 0 Q)) (.exit 0) e w := fun e w h => then_X (hX0 e w h)
  exact s45_14 (K1 := K) (fun _ _ h => then_N h) hX0 e' w' (by rw [r1, r2]; exact h')
theorem s45_3 (hR : hR45 R Q) (e : Env) (w : World) (h : m45_3 R (e 1) (e 2) (e 6) w) : W45 k45_3 Q e w := by
  refine seA ?_
  have hN : ∀ e w, (m45_4 R (e 6) w) → (thenE (W45 k45_4 Q) Q) .normal e w := fun e w h => then_N (s45_4 hR e w h)
  refine seA ?_
  have hN : ∀ e w, (m45_13 R (e 1) (e 2) (e 6) (e 7) w) → (thenE (W45 k45_13 (thenE (W45 k45_4 Q) Q)) (thenE (W45 k45_4 Q) Q)) .normal e w := fun e w h => then_N (s45_13 hN e w h)
  exact quA 4 (fun e w => m45_13 R (e 1) (e 2) (e 6) (e 7) w) h hN
theorem s45_2 (hR : hR45 R Q) (e : Env) (w : World) (h : m45_2 R (e 1) (e 2) w) : W45 k45_2 Q e w := by
  refine seA ?_
  exact rgA 3 (fun e w => m45_3 R (e 1) (e 2) (e 6) w) h fun e w h => then_N (s45_3 hR e w h)
theorem s45_18 (hN : ∀ e w, (m45_2 R (e 1) (e 2) w) → Q .normal e w) (hR : hR45 R Q) (e : Env) (w : World) (h : m45_18 R (e 1) (e 2) (e 20) w) : W45 k45_18 Q e w := by
  refine coA (Operand.tmp 20) h (fun h1 => ?_) (fun h1 => ?_)
  · refine seA ?_
    exact rgA 2 (fun e w => m45_19 R (e 4) (e 5) w) h1 fun e w h => then_N (s45_19 hR e w h)
  · exact skA (hN _ _ h1)
theorem s45_1 (hR : hR45 R Q) (e : Env) (w : World) (h : m45_1 R (e 1) (e 2) w) : W45 k45_1 Q e w := by
  refine seA ?_
  have hN : ∀ e w, (m45_2 R (e 1) (e 2) w) → (thenE (W45 k45_2 Q) Q) .normal e w := fun e w h => then_N (s45_2 hR e w h)
  have hR : hR45 R (thenE (W45 k45_2 Q) Q) := fun e w h => then_R (hR e w h)
  refine seA ?_
  exact rgA 1 (fun e w => m45_18 R (e 1) (e 2) (e 20) w) h fun e w h => then_N (s45_18 hN hR e w h)
theorem s45_0 (hR : hR45 R Q) (e : Env) (w : World) (h : m45_0 R (e 0) (e 1) w) : W45 k45_0 Q e w := by
  refine seA ?_
  exact rgA 0 (fun e w => m45_1 R (e 1) (e 2) w) h fun e w h => then_N (s45_1 hR e w h)
abbrev m45 (R : VP) (g0 t1 : Value) (w : World) : Prop := m45_0 R g0 t1 w
theorem s45 (g0 t1 : Value) {R : VP} {w : World} (h : m45 R g0 t1 w) :
    Calls Try.prog 45 #[g0, t1] w fun e w' => ∃ v, e = .returned v ∧ R v w' :=
  calls_of_cwp (st := (fun i => cond (Nat.beq i 4) 1 (0))) (c := k45_0) (by kernel_rfl) Try.func45 (by kernel_rfl) (Nat.le_of_ble_eq_true (by kernel_rfl)) (by kernel_rfl)
    (s45_0 (R := R) (Q := endE Try.prog Try.f45 R) (fun e w h => kcast (by kernel_rfl) h) (argsE #[g0, t1]) w (kcast (by kernel_rfl) h))
end Go.Proofs.Ytnhgdngbdoifnaa.M
namespace Go.Proofs.Ytnhgdngbdoifnaa.M
open Go.Proofs.Ytnhgdngbdoifnaa.F Go.RowKit
set_option linter.unusedVariables false
set_option linter.unusedSimpArgs false
set_option maxRecDepth 100000
set_option maxHeartbeats 2000000
attribute [local irreducible] Res.cells Res.row Res.map Res.any World.cell? World.frozen? Instr.fieldAt Instr.loadAt Instr.storeAt Instr.indexAt Instr.lookup Instr.mapUpdate Instr.box Instr.build Instr.buildSlice Instr.extract Instr.alloc Instr.field Instr.index Instr.sliceAt Instr.makeSlice Instr.makeMap Instr.makeFunc binS Op.unary Sem.run
structure Gr where
  size : Int
  hop : Int
  late : Int
abbrev encGr (g : Gr) : List Value := [.int .i64 g.size, .int .i64 g.hop, .int .i64 g.late]
abbrev grv (g : Gr) : Value := .agg #[.int .i64 g.size, .int .i64 g.hop, .int .i64 g.late]
def MayG (g : Gr) : Prop := (1 ≤ g.size ∧ g.size ≤ 1048576 ∧ 1 ≤ g.hop ∧ g.hop ≤ g.size ∧ 0 ≤ g.late ∧ g.late ≤ 1048576) ∧ ∃ k : Int, 1 ≤ k ∧ k ≤ 8 ∧ k * g.hop = g.size
def ClosedG (g : Gr) (start mark : Int) : Prop := MayG g ∧ 0 ≤ mark ∧ start ≤ mark - (g.size + g.late)
abbrev iEnc (x : Int) : List Value := [.int .i64 x]
abbrev iRow (A : Option Addr) (c : Nat) (l : List Int) : Res := Res.row 3 1 (.slice A l.length c) l.length (l.flatMap iEnc)
theorem iFlat (l : List Int) : l.flatMap iEnc = l.map (Value.int .i64) := by
  induction l with
  | nil => rfl
  | cons a l ih => rw [List.flatMap_cons, ih]; rfl
theorem iEnc_len : ∀ x, (iEnc x).length = 1 := fun _ => rfl
theorem iEnc_one : ∀ x, ∀ u ∈ iEnc x, u.oneCell' = true := fun x u hu => by
  obtain rfl := List.mem_singleton.1 hu
  rfl
section
variable {w0 w : World} {F : List Nat} {L : List Res} {g : Gr}
theorem gmay_ret (hS : St w0 F w L) : Ret Try.prog 27 #[grv g] w fun v w' => (∃ t, v = .bool t ∧ (t = true ↔ MayG g)) ∧ St w0 F w' L := by
  refine s27 _ ?_
  unfold m27
  unfold m27_0
  refine new_ok (bx23 _ _ _ _) hS ?_
  intro b1 w hS
  have leaf : ∀ t : Bool, (t = true ↔ ¬ (1 ≤ g.size ∧ g.size ≤ 1048576 ∧ 1 ≤ g.hop ∧ g.hop ≤ g.size ∧ 0 ≤ g.late ∧ g.late ≤ 1048576)) → m27_12 (fun v w' => (∃ t, v = .bool t ∧ (t = true ↔ MayG g)) ∧ St w0 F w' L) (.pointer (some ⟨b1, 0, none⟩)) (.bool t) w := fun t ht => by
    unfold m27_12
    cases t with
    | true =>
      refine cond_t rfl ?_
      unfold m27_13
      exact ⟨⟨_, rfl, ⟨fun h => (by cases h), fun h => absurd h.1 (ht.1 rfl)⟩⟩, hS.tail⟩
    | false =>
      have h : 1 ≤ g.size ∧ g.size ≤ 1048576 ∧ 1 ≤ g.hop ∧ g.hop ≤ g.size ∧ 0 ≤ g.late ∧ g.late ≤ 1048576 := Classical.byContradiction fun h => by have := ht.2 h; cases this
      refine cond_f rfl ?_
      unfold m27_2 m27_5
      refine loop_in (fun u w' => ∃ k : Nat, u = .int .i64 (k : Int) ∧ 1 ≤ k ∧ k ≤ 9 ∧ (∀ j : Int, 1 ≤ j → j < k → ¬ j * g.hop = g.size) ∧ St w0 F w' (Res.cells b1 23 (encGr g) :: L)) (fun u _ => 9 - (intOf u).toNat) ⟨1, rfl, by omega, by omega, fun j h1 h2 => by omega, hS⟩ ?_
      clear hS
      rintro u w ⟨k, rfl, hk1, hk9, hno, hS⟩
      unfold m27_6
      refine valP_ok (leq_ok _ _ _ _ _ _ _) ?_
      unfold m27_11
      refine cond_split (fun h1 => ?_) (fun h1 => ?_)
      · have hm1 : 0 ≤ (k : Int) * g.hop := Int.mul_nonneg (by omega) (by omega)
        have hm2 : (k : Int) * g.hop ≤ 9 * 1048576 := Int.mul_le_mul (by omega) (by omega) (by omega) (by omega)
        unfold m27_7
        first | refine valP_ok (fa23_1 _ _) ?_ | refine valP_ok (fao23_1 _ _ _) ?_
        first | refine valP_ok (ld3 (hS.cell 0 rfl rfl)) ?_ | refine valP_ok (ld3 (hS.cell 1 rfl rfl)) ?_ | refine valP_ok (ld3 (hS.cell 2 rfl rfl)) ?_ | refine valP_ok (ld3 (hS.cell 3 rfl rfl)) ?_ | refine valP_ok (ld3 (hS.cell 4 rfl rfl)) ?_ | refine valP_ok (ld3 (hS.cell 5 rfl rfl)) ?_ | refine valP_ok (ld3 (hS.cell 6 rfl rfl)) ?_ | refine valP_ok (ld3 (hS.cell 7 rfl rfl)) ?_ | refine valP_ok (ld3 (by assumption)) ?_
        refine valP_ok (mul_ok _ _ _ (by omega) (by omega) _) ?_
        first | refine valP_ok (fa23_0 _ _) ?_ | refine valP_ok (fao23_0 _ _ _) ?_
        first | refine valP_ok (ld3 (hS.cell 0 rfl rfl)) ?_ | refine valP_ok (ld3 (hS.cell 1 rfl rfl)) ?_ | refine valP_ok (ld3 (hS.cell 2 rfl rfl)) ?_ | refine valP_ok (ld3 (hS.cell 3 rfl rfl)) ?_ | refine valP_ok (ld3 (hS.cell 4 rfl rfl)) ?_ | refine valP_ok (ld3 (hS.cell 5 rfl rfl)) ?_ | refine valP_ok (ld3 (hS.cell 6 rfl rfl)) ?_ | refine valP_ok (ld3 (hS.cell 7 rfl rfl)) ?_ | refine valP_ok (ld3 (by assumption)) ?_
        refine valP_ok (eq3 _ _ _ _ _) ?_
        unfold m27_9
        refine cond_split (fun h2 => ?_) (fun h2 => ?_)
        · unfold m27_10
          exact ⟨⟨_, rfl, ⟨fun _ => ⟨h, k, by omega, by omega, h2⟩, fun _ => rfl⟩⟩, hS.tail⟩
        · unfold m27_8
          refine valP_ok (add_ok _ _ _ (by omega) (by omega) _) ?_
          refine ⟨⟨k + 1, rfl, by omega, by omega, fun j h3 h4 => ?_, hS⟩, by simp [intOf]; omega⟩
          rcases Int.lt_or_le j k with g1 | g1
          · exact hno j h3 g1
          · obtain rfl : j = k := by omega
            exact h2
      · unfold m27_3 m27_4
        refine ⟨⟨_, rfl, ⟨fun h => (by cases h), fun ⟨_, j, h3, h4, h5⟩ => absurd h5 (hno j h3 (by omega))⟩⟩, hS.tail⟩
  unfold m27_1
  first | refine valP_ok (fa23_0 _ _) ?_ | refine valP_ok (fao23_0 _ _ _) ?_
  first | refine valP_ok (ld3 (hS.cell 0 rfl rfl)) ?_ | refine valP_ok (ld3 (hS.cell 1 rfl rfl)) ?_ | refine valP_ok (ld3 (hS.cell 2 rfl rfl)) ?_ | refine valP_ok (ld3 (hS.cell 3 rfl rfl)) ?_ | refine valP_ok (ld3 (hS.cell 4 rfl rfl)) ?_ | refine valP_ok (ld3 (hS.cell 5 rfl rfl)) ?_ | refine valP_ok (ld3 (hS.cell 6 rfl rfl)) ?_ | refine valP_ok (ld3 (hS.cell 7 rfl rfl)) ?_ | refine valP_ok (ld3 (by assumption)) ?_
  refine valP_ok (lss_ok _ _ _ _ _ _ _) ?_
  first | refine cond_split (fun hc0 => ?_) (fun hc0 => ?_) | refine cond_bsplit (fun hc0 => ?_) (fun hc0 => ?_)
  · first | refine pick_dt (by first | assumption | omega) ?_ | refine pick_df (by first | assumption | omega) ?_ | refine pick_t (by first | rfl | assumption) ?_ | refine pick_f (by first | rfl | assumption) ?_ | refine pick_dt rfl ?_ | refine pick_df (not_not_intro rfl) ?_
    first | refine pick_dt (by first | assumption | omega) ?_ | refine pick_df (by first | assumption | omega) ?_ | refine pick_t (by first | rfl | assumption) ?_ | refine pick_f (by first | rfl | assumption) ?_ | refine pick_dt rfl ?_ | refine pick_df (not_not_intro rfl) ?_
    first | refine pick_dt (by first | assumption | omega) ?_ | refine pick_df (by first | assumption | omega) ?_ | refine pick_t (by first | rfl | assumption) ?_ | refine pick_f (by first | rfl | assumption) ?_ | refine pick_dt rfl ?_ | refine pick_df (not_not_intro rfl) ?_
    first | refine pick_dt (by first | assumption | omega) ?_ | refine pick_df (by first | assumption | omega) ?_ | refine pick_t (by first | rfl | assumption) ?_ | refine pick_f (by first | rfl | assumption) ?_ | refine pick_dt rfl ?_ | refine pick_df (not_not_intro rfl) ?_
    first | refine pick_dt (by first | assumption | omega) ?_ | refine pick_df (by first | assumption | omega) ?_ | refine pick_t (by first | rfl | assumption) ?_ | refine pick_f (by first | rfl | assumption) ?_ | refine pick_dt rfl ?_ | refine pick_df (not_not_intro rfl) ?_
    exact leaf _ (by simp only [decide_eq_true_eq, Bool.false_eq_true, false_iff, true_iff] <;> first | contradiction | omega)
  · first | refine valP_ok (fa23_0 _ _) ?_ | refine valP_ok (fao23_0 _ _ _) ?_
    first | refine valP_ok (ld3 (hS.cell 0 rfl rfl)) ?_ | refine valP_ok (ld3 (hS.cell 1 rfl rfl)) ?_ | refine valP_ok (ld3 (hS.cell 2 rfl rfl)) ?_ | refine valP_ok (ld3 (hS.cell 3 rfl rfl)) ?_ | refine valP_ok (ld3 (hS.cell 4 rfl rfl)) ?_ | refine valP_ok (ld3 (hS.cell 5 rfl rfl)) ?_ | refine valP_ok (ld3 (hS.cell 6 rfl rfl)) ?_ | refine valP_ok (ld3 (hS.cell 7 rfl rfl)) ?_ | refine valP_ok (ld3 (by assumption)) ?_
    refine valP_ok (gtr_ok _ _ _ _ _ _ _) ?_
    first | refine pick_dt (by first | assumption | omega) ?_ | refine pick_df (by first | assumption | omega) ?_ | refine pick_t (by first | rfl | assumption) ?_ | refine pick_f (by first | rfl | assumption) ?_ | refine pick_dt rfl ?_ | refine pick_df (not_not_intro rfl) ?_
    first | refine cond_split (fun hc1 => ?_) (fun hc1 => ?_) | refine cond_bsplit (fun hc1 => ?_) (fun hc1 => ?_)
    · first | refine pick_dt (by first | assumption | omega) ?_ | refine pick_df (by first | assumption | omega) ?_ | refine pick_t (by first | rfl | assumption) ?_ | refine pick_f (by first | rfl | assumption) ?_ | refine pick_dt rfl ?_ | refine pick_df (not_not_intro rfl) ?_
      first | refine pick_dt (by first | assumption | omega) ?_ | refine pick_df (by first | assumption | omega) ?_ | refine pick_t (by first | rfl | assumption) ?_ | refine pick_f (by first | rfl | assumption) ?_ | refine pick_dt rfl ?_ | refine pick_df (not_not_intro rfl) ?_
      first | refine pick_dt (by first | assumption | omega) ?_ | refine pick_df (by first | assumption | omega) ?_ | refine pick_t (by first | rfl | assumption) ?_ | refine pick_f (by first | rfl | assumption) ?_ | refine pick_dt rfl ?_ | refine pick_df (not_not_intro rfl) ?_
      first | refine pick_dt (by first | assumption | omega) ?_ | refine pick_df (by first | assumption | omega) ?_ | refine pick_t (by first | rfl | assumption) ?_ | refine pick_f (by first | rfl | assumption) ?_ | refine pick_dt rfl ?_ | refine pick_df (not_not_intro rfl) ?_
      exact leaf _ (by simp only [decide_eq_true_eq, Bool.false_eq_true, false_iff, true_iff] <;> first | contradiction | omega)
    · first | refine valP_ok (fa23_1 _ _) ?_ | refine valP_ok (fao23_1 _ _ _) ?_
      first | refine valP_ok (ld3 (hS.cell 0 rfl rfl)) ?_ | refine valP_ok (ld3 (hS.cell 1 rfl rfl)) ?_ | refine valP_ok (ld3 (hS.cell 2 rfl rfl)) ?_ | refine valP_ok (ld3 (hS.cell 3 rfl rfl)) ?_ | refine valP_ok (ld3 (hS.cell 4 rfl rfl)) ?_ | refine valP_ok (ld3 (hS.cell 5 rfl rfl)) ?_ | refine valP_ok (ld3 (hS.cell 6 rfl rfl)) ?_ | refine valP_ok (ld3 (hS.cell 7 rfl rfl)) ?_ | refine valP_ok (ld3 (by assumption)) ?_
      refine valP_ok (lss_ok _ _ _ _ _ _ _) ?_
      first | refine pick_dt (by first | assumption | omega) ?_ | refine pick_df (by first | assumption | omega) ?_ | refine pick_t (by first | rfl | assumption) ?_ | refine pick_f (by first | rfl | assumption) ?_ | refine pick_dt rfl ?_ | refine pick_df (not_not_intro rfl) ?_
      first | refine cond_split (fun hc2 => ?_) (fun hc2 => ?_) | refine cond_bsplit (fun hc2 => ?_) (fun hc2 => ?_)
      · first | refine pick_dt (by first | assumption | omega) ?_ | refine pick_df (by first | assumption | omega) ?_ | refine pick_t (by first | rfl | assumption) ?_ | refine pick_f (by first | rfl | assumption) ?_ | refine pick_dt rfl ?_ | refine pick_df (not_not_intro rfl) ?_
        first | refine pick_dt (by first | assumption | omega) ?_ | refine pick_df (by first | assumption | omega) ?_ | refine pick_t (by first | rfl | assumption) ?_ | refine pick_f (by first | rfl | assumption) ?_ | refine pick_dt rfl ?_ | refine pick_df (not_not_intro rfl) ?_
        first | refine pick_dt (by first | assumption | omega) ?_ | refine pick_df (by first | assumption | omega) ?_ | refine pick_t (by first | rfl | assumption) ?_ | refine pick_f (by first | rfl | assumption) ?_ | refine pick_dt rfl ?_ | refine pick_df (not_not_intro rfl) ?_
        exact leaf _ (by simp only [decide_eq_true_eq, Bool.false_eq_true, false_iff, true_iff] <;> first | contradiction | omega)
      · first | refine valP_ok (fa23_1 _ _) ?_ | refine valP_ok (fao23_1 _ _ _) ?_
        first | refine valP_ok (ld3 (hS.cell 0 rfl rfl)) ?_ | refine valP_ok (ld3 (hS.cell 1 rfl rfl)) ?_ | refine valP_ok (ld3 (hS.cell 2 rfl rfl)) ?_ | refine valP_ok (ld3 (hS.cell 3 rfl rfl)) ?_ | refine valP_ok (ld3 (hS.cell 4 rfl rfl)) ?_ | refine valP_ok (ld3 (hS.cell 5 rfl rfl)) ?_ | refine valP_ok (ld3 (hS.cell 6 rfl rfl)) ?_ | refine valP_ok (ld3 (hS.cell 7 rfl rfl)) ?_ | refine valP_ok (ld3 (by assumption)) ?_
        first | refine valP_ok (fa23_0 _ _) ?_ | refine valP_ok (fao23_0 _ _ _) ?_
        first | refine valP_ok (ld3 (hS.cell 0 rfl rfl)) ?_ | refine valP_ok (ld3 (hS.cell 1 rfl rfl)) ?_ | refine valP_ok (ld3 (hS.cell 2 rfl rfl)) ?_ | refine valP_ok (ld3 (hS.cell 3 rfl rfl)) ?_ | refine valP_ok (ld3 (hS.cell 4 rfl rfl)) ?_ | refine valP_ok (ld3 (hS.cell 5 rfl rfl)) ?_ | refine valP_ok (ld3 (hS.cell 6 rfl rfl)) ?_ | refine valP_ok (ld3 (hS.cell 7 rfl rfl)) ?_ | refine valP_ok (ld3 (by assumption)) ?_
        refine valP_ok (gtr_ok _ _ _ _ _ _ _) ?_
        first | refine pick_dt (by first | assumption | omega) ?_ | refine pick_df (by first | assumption | omega) ?_ | refine pick_t (by first | rfl | assumption) ?_ | refine pick_f (by first | rfl | assumption) ?_ | refine pick_dt rfl ?_ | refine pick_df (not_not_intro rfl) ?_
        first | refine cond_split (fun hc3 => ?_) (fun hc3 => ?_) | refine cond_bsplit (fun hc3 => ?_) (fun hc3 => ?_)
        · first | refine pick_dt (by first | assumption | omega) ?_ | refine pick_df (by first | assumption | omega) ?_ | refine pick_t (by first | rfl | assumption) ?_ | refine pick_f (by first | rfl | assumption) ?_ | refine pick_dt rfl ?_ | refine pick_df (not_not_intro rfl) ?_
          first | refine pick_dt (by first | assumption | omega) ?_ | refine pick_df (by first | assumption | omega) ?_ | refine pick_t (by first | rfl | assumption) ?_ | refine pick_f (by first | rfl | assumption) ?_ | refine pick_dt rfl ?_ | refine pick_df (not_not_intro rfl) ?_
          exact leaf _ (by simp only [decide_eq_true_eq, Bool.false_eq_true, false_iff, true_iff] <;> first | contradiction | omega)
        · first | refine valP_ok (fa23_2 _ _) ?_ | refine valP_ok (fao23_2 _ _ _) ?_
          first | refine valP_ok (ld3 (hS.cell 0 rfl rfl)) ?_ | refine valP_ok (ld3 (hS.cell 1 rfl rfl)) ?_ | refine valP_ok (ld3 (hS.cell 2 rfl rfl)) ?_ | refine valP_ok (ld3 (hS.cell 3 rfl rfl)) ?_ | refine valP_ok (ld3 (hS.cell 4 rfl rfl)) ?_ | refine valP_ok (ld3 (hS.cell 5 rfl rfl)) ?_ | refine valP_ok (ld3 (hS.cell 6 rfl rfl)) ?_ | refine valP_ok (ld3 (hS.cell 7 rfl rfl)) ?_ | refine valP_ok (ld3 (by assumption)) ?_
          refine valP_ok (lss_ok _ _ _ _ _ _ _) ?_
          first | refine pick_dt (by first | assumption | omega) ?_ | refine pick_df (by first | assumption | omega) ?_ | refine pick_t (by first | rfl | assumption) ?_ | refine pick_f (by first | rfl | assumption) ?_ | refine pick_dt rfl ?_ | refine pick_df (not_not_intro rfl) ?_
          first | refine cond_split (fun hc4 => ?_) (fun hc4 => ?_) | refine cond_bsplit (fun hc4 => ?_) (fun hc4 => ?_)
          · first | refine pick_dt (by first | assumption | omega) ?_ | refine pick_df (by first | assumption | omega) ?_ | refine pick_t (by first | rfl | assumption) ?_ | refine pick_f (by first | rfl | assumption) ?_ | refine pick_dt rfl ?_ | refine pick_df (not_not_intro rfl) ?_
            exact leaf _ (by simp only [decide_eq_true_eq, Bool.false_eq_true, false_iff, true_iff] <;> first | contradiction | omega)
          · first | refine valP_ok (fa23_2 _ _) ?_ | refine valP_ok (fao23_2 _ _ _) ?_
            first | refine valP_ok (ld3 (hS.cell 0 rfl rfl)) ?_ | refine valP_ok (ld3 (hS.cell 1 rfl rfl)) ?_ | refine valP_ok (ld3 (hS.cell 2 rfl rfl)) ?_ | refine valP_ok (ld3 (hS.cell 3 rfl rfl)) ?_ | refine valP_ok (ld3 (hS.cell 4 rfl rfl)) ?_ | refine valP_ok (ld3 (hS.cell 5 rfl rfl)) ?_ | refine valP_ok (ld3 (hS.cell 6 rfl rfl)) ?_ | refine valP_ok (ld3 (hS.cell 7 rfl rfl)) ?_ | refine valP_ok (ld3 (by assumption)) ?_
            refine valP_ok (gtr_ok _ _ _ _ _ _ _) ?_
            first | refine pick_dt (by first | assumption | omega) ?_ | refine pick_df (by first | assumption | omega) ?_ | refine pick_t (by first | rfl | assumption) ?_ | refine pick_f (by first | rfl | assumption) ?_ | refine pick_dt rfl ?_ | refine pick_df (not_not_intro rfl) ?_
            exact leaf _ (by simp only [decide_eq_true_eq, Bool.false_eq_true, false_iff, true_iff] <;> first | contradiction | omega)
theorem closed_ret {start mark : Int} (hm : I64 mark) (hS : St w0 F w L) : Ret Try.prog 29 #[grv g, .int .i64 start, .int .i64 mark] w fun v w' => (∃ t, v = .bool t ∧ (t = true ↔ ClosedG g start mark)) ∧ St w0 F w' L := by
  refine s29 _ _ _ ?_
  unfold m29
  unfold m29_0
  refine new_ok (bx23 _ _ _ _) hS ?_
  intro b3 w hS
  unfold m29_1
  first | refine ls23 0 hS rfl ?_ | refine ls23 1 hS rfl ?_ | refine ls23 2 hS rfl ?_ | refine ls23 3 hS rfl ?_ | refine ls23 4 hS rfl ?_ | refine ls23 5 hS rfl ?_ | refine ls23 6 hS rfl ?_ | refine ls23 7 hS rfl ?_ | refine valP_ok (ld23 (by assumption) (by assumption) (by assumption)) ?_
  refine callR (by kernel_rfl) (gmay_ret hS) ?_
  rintro _ w ⟨⟨t, rfl, ht⟩, hS⟩
  cases t with
  | true =>
    have hg := ht.1 rfl
    have hg1 := hg.1
    refine cond_t rfl ?_
    refine valP_ok (geq_ok _ _ _ _ _ _ _) ?_
    first | refine pick_dt (by first | assumption | omega) ?_ | refine pick_df (by first | assumption | omega) ?_ | refine pick_t (by first | rfl | assumption) ?_ | refine pick_f (by first | rfl | assumption) ?_ | refine pick_dt rfl ?_ | refine pick_df (not_not_intro rfl) ?_
    refine cond_split (fun h => ?_) (fun h => ?_)
    · first | refine valP_ok (fa23_0 _ _) ?_ | refine valP_ok (fao23_0 _ _ _) ?_
      first | refine valP_ok (ld3 (hS.cell 0 rfl rfl)) ?_ | refine valP_ok (ld3 (hS.cell 1 rfl rfl)) ?_ | refine valP_ok (ld3 (hS.cell 2 rfl rfl)) ?_ | refine valP_ok (ld3 (hS.cell 3 rfl rfl)) ?_ | refine valP_ok (ld3 (hS.cell 4 rfl rfl)) ?_ | refine valP_ok (ld3 (hS.cell 5 rfl rfl)) ?_ | refine valP_ok (ld3 (hS.cell 6 rfl rfl)) ?_ | refine valP_ok (ld3 (hS.cell 7 rfl rfl)) ?_ | refine valP_ok (ld3 (by assumption)) ?_
      first | refine valP_ok (fa23_2 _ _) ?_ | refine valP_ok (fao23_2 _ _ _) ?_
      first | refine valP_ok (ld3 (hS.cell 0 rfl rfl)) ?_ | refine valP_ok (ld3 (hS.cell 1 rfl rfl)) ?_ | refine valP_ok (ld3 (hS.cell 2 rfl rfl)) ?_ | refine valP_ok (ld3 (hS.cell 3 rfl rfl)) ?_ | refine valP_ok (ld3 (hS.cell 4 rfl rfl)) ?_ | refine valP_ok (ld3 (hS.cell 5 rfl rfl)) ?_ | refine valP_ok (ld3 (hS.cell 6 rfl rfl)) ?_ | refine valP_ok (ld3 (hS.cell 7 rfl rfl)) ?_ | refine valP_ok (ld3 (by assumption)) ?_
      refine valP_ok (add_ok _ _ _ (by omega) (by omega) _) ?_
      refine valP_ok (sub_ok _ _ _ (by omega) (by omega) _) ?_
      refine valP_ok (leq_ok _ _ _ _ _ _ _) ?_
      first | refine pick_dt (by first | assumption | omega) ?_ | refine pick_df (by first | assumption | omega) ?_ | refine pick_t (by first | rfl | assumption) ?_ | refine pick_f (by first | rfl | assumption) ?_ | refine pick_dt rfl ?_ | refine pick_df (not_not_intro rfl) ?_
      unfold m29_2
      exact ⟨⟨_, rfl, by rw [decide_eq_true_eq]; exact ⟨fun h1 => ⟨hg, h, h1⟩, fun h1 => h1.2.2⟩⟩, hS.tail⟩
    · first | refine pick_dt (by first | assumption | omega) ?_ | refine pick_df (by first | assumption | omega) ?_ | refine pick_t (by first | rfl | assumption) ?_ | refine pick_f (by first | rfl | assumption) ?_ | refine pick_dt rfl ?_ | refine pick_df (not_not_intro rfl) ?_
      unfold m29_2
      exact ⟨⟨_, rfl, ⟨fun h1 => (by cases h1), fun h1 => absurd h1.2.1 h⟩⟩, hS.tail⟩
  | false =>
    refine cond_f rfl ?_
    first | refine pick_dt (by first | assumption | omega) ?_ | refine pick_df (by first | assumption | omega) ?_ | refine pick_t (by first | rfl | assumption) ?_ | refine pick_f (by first | rfl | assumption) ?_ | refine pick_dt rfl ?_ | refine pick_df (not_not_intro rfl) ?_
    refine cond_f rfl ?_
    first | refine pick_dt (by first | assumption | omega) ?_ | refine pick_df (by first | assumption | omega) ?_ | refine pick_t (by first | rfl | assumption) ?_ | refine pick_f (by first | rfl | assumption) ?_ | refine pick_dt rfl ?_ | refine pick_df (not_not_intro rfl) ?_
    unfold m29_2
    exact ⟨⟨_, rfl, ⟨fun h1 => (by cases h1), fun h1 => (by have := ht.2 h1.1; cases this)⟩⟩, hS.tail⟩
def StartsR (w0 : World) (F : List Nat) (L : List Res) (v : Value) (w : World) : Prop := ∃ A c e, ∃ xs : List Int, v = .tuple #[.slice A xs.length c, .int .i64 e] ∧ xs.length ≤ 1048577 ∧ (∀ x ∈ xs, I64 x) ∧ St w0 F w (iRow A c xs :: L)
theorem starts_ret {t : Int} (hS : St w0 F w L) : Ret Try.prog 45 #[grv g, .int .i64 t] w (StartsR w0 F L) := by
  refine s45 _ _ ?_
  unfold m45
  unfold m45_0
  refine new_ok (bx23 _ _ _ _) hS ?_
  intro b2 w hS
  unfold m45_1
  first | refine ls23 0 hS rfl ?_ | refine ls23 1 hS rfl ?_ | refine ls23 2 hS rfl ?_ | refine ls23 3 hS rfl ?_ | refine ls23 4 hS rfl ?_ | refine ls23 5 hS rfl ?_ | refine ls23 6 hS rfl ?_ | refine ls23 7 hS rfl ?_ | refine valP_ok (ld23 (by assumption) (by assumption) (by assumption)) ?_
  refine callR (by kernel_rfl) (gmay_ret hS) ?_
  rintro _ w ⟨⟨b, rfl, hb⟩, hS⟩
  have leaf : ∀ (q : Bool) w, St w0 F w (Res.cells b2 23 (encGr g) :: L) → (q = false → MayG g ∧ 0 ≤ t ∧ t ≤ 1099511627776) → m45_18 (StartsR w0 F L) (.int .i64 t) (.pointer (some ⟨b2, 0, none⟩)) (.bool q) w := fun q w hS hq => by
    clear hb
    unfold m45_18
    cases q with
    | true =>
      refine cond_t rfl ?_
      unfold m45_19
      exact ⟨none, 0, 1, [], rfl, by simp, fun x h => (by cases h), hS.tail.row_nil 3 1⟩
    | false =>
      obtain ⟨hg, ht0, ht1⟩ := hq rfl
      have hg1 := hg.1
      refine cond_f rfl ?_
      unfold m45_2
      have q1 : 0 ≤ t / g.hop * g.hop := Int.mul_nonneg (Int.ediv_nonneg ht0 (by omega)) (by omega)
      have q2 : t / g.hop * g.hop ≤ t := Int.ediv_mul_le t (by omega)
      unfold m45_3
      first | refine valQ_ok (fa23_1 _) ?_ | refine valQ_ok (fao23_1 _ _) ?_
      first | refine valQ_load ld3 (hS.cell 0 rfl rfl) ?_ | refine valQ_load ld3 (hS.cell 1 rfl rfl) ?_ | refine valQ_load ld3 (hS.cell 2 rfl rfl) ?_ | refine valQ_load ld3 (hS.cell 3 rfl rfl) ?_ | refine valQ_load ld3 (hS.cell 4 rfl rfl) ?_ | refine valQ_load ld3 (hS.cell 5 rfl rfl) ?_ | refine valQ_load ld3 (hS.cell 6 rfl rfl) ?_ | refine valQ_load ld3 (hS.cell 7 rfl rfl) ?_ | refine valQ_load ld3 (by assumption) ?_
      refine valQ_ok (quo_ok _ _ _ (by omega) (by omega) (by omega)) ?_
      first | refine valQ_ok (fa23_1 _) ?_ | refine valQ_ok (fao23_1 _ _) ?_
      first | refine valQ_load ld3 (hS.cell 0 rfl rfl) ?_ | refine valQ_load ld3 (hS.cell 1 rfl rfl) ?_ | refine valQ_load ld3 (hS.cell 2 rfl rfl) ?_ | refine valQ_load ld3 (hS.cell 3 rfl rfl) ?_ | refine valQ_load ld3 (hS.cell 4 rfl rfl) ?_ | refine valQ_load ld3 (hS.cell 5 rfl rfl) ?_ | refine valQ_load ld3 (hS.cell 6 rfl rfl) ?_ | refine valQ_load ld3 (hS.cell 7 rfl rfl) ?_ | refine valQ_load ld3 (by assumption) ?_
      refine valQ_ok (mul_ok _ _ _ (by omega) (by omega)) ?_
      refine drawn_ok hS ?_
      intro w hS
      generalize t / g.hop * g.hop = s0 at q1 q2
      unfold m45_13
      refine loop_in (fun u w' => ∃ (A : Option Addr) (c : Nat) (xs : List Int) (s : Int), u = (.slice A xs.length c, .int .i64 s) ∧ -1048577 ≤ s ∧ (xs.length : Int) + s ≤ t ∧ xs.length ≤ 1048576 ∧ (∀ x ∈ xs, I64 x) ∧ St w0 F w' (iRow A c xs :: Res.cells b2 23 (encGr g) :: L)) (fun u _ => (intOf u.2 + 1048577).toNat) ⟨none, 0, [], s0, rfl, by omega, by simp; omega, by simp, fun x h => (by cases h), hS.row_nil 3 1⟩ ?_
      clear hS q1 q2
      rintro u w ⟨A, c, xs, s, rfl, hs0, hs1, hxl, hx, hS⟩
      simp only
      have exit : ∀ w, St w0 F w (iRow A c xs :: Res.cells b2 23 (encGr g) :: L) → m45_4 (StartsR w0 F L) (.slice A xs.length c) w := fun w hS => by
        unfold m45_4
        unfold m45_5
        refine builtin_ok (len51 _) ?_
        refine valP_ok (sub_ok _ _ _ (by omega) (by omega) _) ?_
        unfold m45_8
        refine loop_in (fun u w' => ∃ (A2 : Option Addr) (c2 : Nat) (ys : List Int) (i : Nat), u = (.slice A2 ys.length c2, .int .i64 ((i : Int) - 1)) ∧ i ≤ xs.length ∧ ys.length + i = xs.length ∧ (∀ x ∈ ys, I64 x) ∧ St w0 F w' (iRow A2 c2 ys :: iRow A c xs :: Res.cells b2 23 (encGr g) :: L)) (fun u _ => (intOf u.2 + 1).toNat) ⟨none, 0, [], xs.length, rfl, by omega, by simp, fun x h => (by cases h), hS.row_nil 3 1⟩ ?_
        clear hS
        rintro u w ⟨A2, c2, ys, i, rfl, hi, hyl, hy, hS⟩
        simp only
        unfold m45_9
        refine valP_ok (geq_ok _ _ _ _ _ _ _) ?_
        unfold m45_12
        refine cond_split (fun h => ?_) (fun h => ?_)
        · obtain ⟨j, rfl⟩ : ∃ j, i = j + 1 := ⟨i - 1, by omega⟩
          have hjl : j < xs.length := by omega
          rw [show ((j + 1 : Nat) : Int) - 1 = (j : Int) by omega]
          obtain ⟨gb, rfl⟩ := hS.row_ptr 1 rfl (by omega)
          unfold m45_10
          refine valP_ok (ixz51 hjl _) ?_
          refine valP_ok (ld3 (hS.row_cell 1 rfl (u := .int .i64 xs[j]) (by rw [iFlat]; simp [hjl]))) ?_
          refine newslice_ok (bs51_1 rfl _) hS ?_
          intro b58 w hS
          refine append_one1 (enc := iEnc) 0 xs[j] sl51 iEnc_len iEnc_one (by unfold maxLen; omega) (by omega) hS rfl ?_
          intro A3 c3 w hS
          simp only [List.set_cons_zero, List.set_cons_succ] at hS
          unfold m45_11
          refine valP_ok (sub_ok _ _ _ (by omega) (by omega) _) ?_
          refine ⟨⟨A3, c3, ys ++ [xs[j]], j, rfl, by omega, by rw [List.length_append]; simp; omega, fun x hx' => ?_, hS⟩, by simp [intOf]⟩
          rcases List.mem_append.1 hx' with h1 | h1
          · exact hy x h1
          · obtain rfl := List.mem_singleton.1 h1
            exact hx _ (List.getElem_mem hjl)
        · unfold m45_6 m45_7
          exact ⟨A2, c2, 0, ys, rfl, by omega, hy, St.mid (A := [_]) (B := [_, _]) hS⟩
      unfold m45_14
      refine valP_ok (geq_ok _ _ _ _ _ _ _) ?_
      refine cond_split (fun h => ?_) (fun h => ?_)
      · first | refine valP_ok (fa23_0 _ _) ?_ | refine valP_ok (fao23_0 _ _ _) ?_
        first | refine valP_ok (ld3 (hS.cell 0 rfl rfl)) ?_ | refine valP_ok (ld3 (hS.cell 1 rfl rfl)) ?_ | refine valP_ok (ld3 (hS.cell 2 rfl rfl)) ?_ | refine valP_ok (ld3 (hS.cell 3 rfl rfl)) ?_ | refine valP_ok (ld3 (hS.cell 4 rfl rfl)) ?_ | refine valP_ok (ld3 (hS.cell 5 rfl rfl)) ?_ | refine valP_ok (ld3 (hS.cell 6 rfl rfl)) ?_ | refine valP_ok (ld3 (hS.cell 7 rfl rfl)) ?_ | refine valP_ok (ld3 (by assumption)) ?_
        refine valP_ok (add_ok _ _ _ (by omega) (by omega) _) ?_
        refine valP_ok (gtr_ok _ _ _ _ _ _ _) ?_
        first | refine pick_dt (by first | assumption | omega) ?_ | refine pick_df (by first | assumption | omega) ?_ | refine pick_t (by first | rfl | assumption) ?_ | refine pick_f (by first | rfl | assumption) ?_ | refine pick_dt rfl ?_ | refine pick_df (not_not_intro rfl) ?_
        unfold m45_17
        refine cond_split (fun h1 => ?_) (fun h1 => ?_)
        · unfold m45_15
          refine newslice_ok (bs51_1 rfl _) hS ?_
          intro b44 w hS
          refine append_one1 (enc := iEnc) 0 s sl51 iEnc_len iEnc_one (by unfold maxLen; omega) (by omega) hS rfl ?_
          intro A3 c3 w hS
          simp only [List.set_cons_zero, List.set_cons_succ] at hS
          unfold m45_16
          first | refine valP_ok (fa23_1 _ _) ?_ | refine valP_ok (fao23_1 _ _ _) ?_
          first | refine valP_ok (ld3 (hS.cell 0 rfl rfl)) ?_ | refine valP_ok (ld3 (hS.cell 1 rfl rfl)) ?_ | refine valP_ok (ld3 (hS.cell 2 rfl rfl)) ?_ | refine valP_ok (ld3 (hS.cell 3 rfl rfl)) ?_ | refine valP_ok (ld3 (hS.cell 4 rfl rfl)) ?_ | refine valP_ok (ld3 (hS.cell 5 rfl rfl)) ?_ | refine valP_ok (ld3 (hS.cell 6 rfl rfl)) ?_ | refine valP_ok (ld3 (hS.cell 7 rfl rfl)) ?_ | refine valP_ok (ld3 (by assumption)) ?_
          refine valP_ok (sub_ok _ _ _ (by omega) (by omega) _) ?_
          refine ⟨⟨A3, c3, xs ++ [s], s - g.hop, rfl, by omega, by rw [List.length_append]; simp; omega, by rw [List.length_append]; simp; omega, fun x hx' => ?_, hS⟩, by simp [intOf]; omega⟩
          rcases List.mem_append.1 hx' with h2 | h2
          · exact hx x h2
          · obtain rfl := List.mem_singleton.1 h2
            exact ⟨by omega, by omega⟩
        · exact exit w hS
      · first | refine pick_dt (by first | assumption | omega) ?_ | refine pick_df (by first | assumption | omega) ?_ | refine pick_t (by first | rfl | assumption) ?_ | refine pick_f (by first | rfl | assumption) ?_ | refine pick_dt rfl ?_ | refine pick_df (not_not_intro rfl) ?_
        unfold m45_17
        refine cond_f rfl ?_
        exact exit w hS
  cases b with
  | true =>
    have hg := hb.1 rfl
    first | refine valP_ok (not_ok _ _) ?_ | refine valP_ok (notb_ok _ _) ?_
    refine cond_f rfl ?_
    refine valP_ok (lss_ok _ _ _ _ _ _ _) ?_
    first | refine pick_dt (by first | assumption | omega) ?_ | refine pick_df (by first | assumption | omega) ?_ | refine pick_t (by first | rfl | assumption) ?_ | refine pick_f (by first | rfl | assumption) ?_ | refine pick_dt rfl ?_ | refine pick_df (not_not_intro rfl) ?_
    refine cond_split (fun h => ?_) (fun h => ?_)
    · first | refine pick_dt (by first | assumption | omega) ?_ | refine pick_df (by first | assumption | omega) ?_ | refine pick_t (by first | rfl | assumption) ?_ | refine pick_f (by first | rfl | assumption) ?_ | refine pick_dt rfl ?_ | refine pick_df (not_not_intro rfl) ?_
      exact leaf _ w hS (fun h => (by cases h))
    · refine valP_ok (gtr_ok _ _ _ _ _ _ _) ?_
      first | refine pick_dt (by first | assumption | omega) ?_ | refine pick_df (by first | assumption | omega) ?_ | refine pick_t (by first | rfl | assumption) ?_ | refine pick_f (by first | rfl | assumption) ?_ | refine pick_dt rfl ?_ | refine pick_df (not_not_intro rfl) ?_
      exact leaf _ w hS (fun h1 => ⟨hg, by omega, by have := of_decide_eq_false h1; omega⟩)
  | false =>
    first | refine valP_ok (not_ok _ _) ?_ | refine valP_ok (notb_ok _ _) ?_
    refine cond_t rfl ?_
    first | refine pick_dt (by first | assumption | omega) ?_ | refine pick_df (by first | assumption | omega) ?_ | refine pick_t (by first | rfl | assumption) ?_ | refine pick_f (by first | rfl | assumption) ?_ | refine pick_dt rfl ?_ | refine pick_df (not_not_intro rfl) ?_
    refine cond_t rfl ?_
    first | refine pick_dt (by first | assumption | omega) ?_ | refine pick_df (by first | assumption | omega) ?_ | refine pick_t (by first | rfl | assumption) ?_ | refine pick_f (by first | rfl | assumption) ?_ | refine pick_dt rfl ?_ | refine pick_df (not_not_intro rfl) ?_
    exact leaf _ w hS (fun h => (by cases h))
end
end Go.Proofs.Ytnhgdngbdoifnaa.M
