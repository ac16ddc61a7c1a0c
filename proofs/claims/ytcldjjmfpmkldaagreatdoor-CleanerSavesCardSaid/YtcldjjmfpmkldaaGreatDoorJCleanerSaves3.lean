/- Parts of a proof, in one text: what it needs of V6, V7, Mmid0, V8, V9, V10, V11, V12, Mcrc0, V16, V17. -/
import Derived.Test.YtcldjjmfpmkldaaGreatDoorJCleanerSaves2
import Derived.Test.YtcldjjmfpmkldaaGreatDoorProg
import Derived.DeepKeys4
import Derived.WalkArith
import Derived.Maps.Views
namespace Go.Proofs.YtcldjjmfpmkldaaGreatDoor.M
open Go.Proofs.YtcldjjmfpmkldaaGreatDoor.F Go.RowKit
set_option linter.unusedVariables false
set_option linter.unusedSimpArgs false
set_option maxRecDepth 100000
set_option maxHeartbeats 2000000
attribute [local irreducible] Res.cells Res.row Res.map Res.any World.cell? World.frozen? Instr.fieldAt Instr.loadAt Instr.storeAt Instr.indexAt Instr.lookup Instr.mapUpdate Instr.box Instr.build Instr.buildSlice Instr.extract Instr.alloc Instr.field Instr.index Instr.sliceAt Instr.makeSlice Instr.makeMap Instr.makeFunc binS Op.unary Sem.run
structure Rc where
  key : Int
  time : Int
  text : ByteArray
abbrev encR (r : Rc) : List Value := [.int .i64 r.key, .int .i64 r.time, .string r.text]
abbrev rv (r : Rc) : Value := .agg #[.int .i64 r.key, .int .i64 r.time, .string r.text]
def kindS (s : ByteArray) : Int := match takeS s with
  | none => -1
  | some (n, _) => if 0 ≤ n ∧ n ≤ 2 then n else -1
abbrev countsS : ByteArray := ⟨#[99, 111, 117, 110, 116, 115]⟩
def aboutR (r : Rc) : Option Rc := if kindS r.text < 0 then none else if kindS r.text = 0 then some ⟨0, 0, countsS⟩ else some ⟨r.key, r.time, ⟨#[]⟩⟩
def SameR (a b : Rc) : Prop := 0 ≤ kindS a.text ∧ 0 ≤ kindS b.text ∧ (if kindS a.text = 0 ∨ kindS b.text = 0 then kindS a.text = kindS b.text else a.key = b.key ∧ a.time = b.time)
theorem counts_ne (k t : Int) : (⟨0, 0, countsS⟩ : Rc) ≠ ⟨k, t, ⟨#[]⟩⟩ := fun h => by
  have h1 := congrArg (fun r : Rc => r.text.size) h
  have h2 : (6 : Nat) = 0 := h1
  omega
theorem same_about (a b : Rc) : SameR a b ↔ ∃ x, aboutR a = some x ∧ aboutR b = some x := by
  unfold SameR aboutR
  generalize kindS a.text = p
  generalize kindS b.text = q
  constructor
  · rintro ⟨h1, h2, h3⟩
    rw [if_neg (show ¬ p < 0 by omega), if_neg (show ¬ q < 0 by omega)]
    by_cases hp : p = 0
    · rw [if_pos (.inl hp)] at h3
      rw [if_pos hp, if_pos (show q = 0 by omega)]
      exact ⟨_, rfl, rfl⟩
    · by_cases hq : q = 0
      · rw [if_pos (.inr hq)] at h3
        omega
      · rw [if_neg (by omega)] at h3
        rw [if_neg hp, if_neg hq, h3.1, h3.2]
        exact ⟨_, rfl, rfl⟩
  · rintro ⟨x, h1, h2⟩
    by_cases ha : p < 0
    · rw [if_pos ha] at h1; cases h1
    · by_cases hb : q < 0
      · rw [if_pos hb] at h2; cases h2
      · rw [if_neg ha] at h1
        rw [if_neg hb] at h2
        refine ⟨by omega, by omega, ?_⟩
        have h3 := h1.trans h2.symm
        by_cases ha0 : p = 0
        · rw [if_pos (.inl ha0)]
          by_cases hb0 : q = 0
          · rw [ha0, hb0]
          · rw [if_pos ha0, if_neg hb0] at h3
            exact absurd (Option.some.inj h3) (counts_ne _ _)
        · by_cases hb0 : q = 0
          · rw [if_neg ha0, if_pos hb0] at h3
            exact absurd (Option.some.inj h3).symm (counts_ne _ _)
          · rw [if_neg (by omega)]
            rw [if_neg ha0, if_neg hb0] at h3
            have h4 := Rc.mk.inj (Option.some.inj h3)
            exact ⟨h4.1, h4.2.1⟩
section
variable {w0 w : World} {F : List Nat} {L : List Res}
theorem about_ret {r : Rc} (hS : St w0 F w L) : Ret Tryz.prog 76 #[rv r] w fun v w' => v = .tuple #[rv ((aboutR r).getD ⟨0, 0, ⟨#[]⟩⟩), .bool (aboutR r).isSome] ∧ St w0 F w' L := by
  have bad : ∀ n : Int, ∀ w b1 b2, aboutR r = none → St w0 F w (Res.cells b2 56 (encR ⟨0, 0, ⟨#[]⟩⟩) :: Res.cells b1 56 (encR r) :: L) → m76_5 (fun v w' => v = .tuple #[rv ((aboutR r).getD ⟨0, 0, ⟨#[]⟩⟩), .bool (aboutR r).isSome] ∧ St w0 F w' L) (.pointer (some ⟨b1, 0, none⟩)) (.pointer (some ⟨b2, 0, none⟩)) (.int .i64 n) (.bool true) w := fun n w b1 b2 hn hS => by
    unfold m76_5
    refine cond_t rfl ?_
    refine valP_ok (bd56 _) ?_
    refine ss56 0 hS rfl rfl rfl rfl ?_
    intro w hS
    simp only [List.set_cons_zero, List.set_cons_succ] at hS
    unfold m76_6
    refine valS_ok (lc56 (hS.cell 0 rfl rfl) (hS.cell 0 rfl rfl) (hS.cell 0 rfl rfl)) ?_
    rw [hn]
    exact ⟨rfl, hS.tail.tail⟩
  refine s76 _ ?_
  unfold m76
  unfold m76_0
  refine new_ok (bx56 _ _ _ _) hS ?_
  intro b1 w hS
  refine new_ok (al56 _) hS ?_
  intro b2 w hS
  unfold m76_1
  refine valP_ok (fa56_2 _ _) ?_
  refine valP_ok (ld9 (hS.cell 1 rfl rfl)) ?_
  refine callR (by kernel_rfl) (take_ret hS) ?_
  rintro _ w ⟨rfl, hS⟩
  unfold tkV
  cases htk : takeS r.text with
  | none =>
    have hn : aboutR r = none := by unfold aboutR kindS; rw [htk]; rfl
    simp only
    refine valP_ok (extract_ok _ 0 rfl _) ?_
    refine valP_ok (extract_ok _ 1 rfl _) ?_
    refine valP_ok (extract_ok _ 2 rfl _) ?_
    unfold m76_2
    refine valP_ok (ne26 _ _ _ _ _) ?_
    refine cond_dt (by omega) ?_
    refine pick_dt (by first | assumption | omega) ?_
    refine cond_t rfl ?_
    refine pick_t (by first | rfl | assumption) ?_
    exact bad _ _ _ _ hn hS
  | some p =>
    obtain ⟨n, x⟩ := p
    simp only
    refine valP_ok (extract_ok _ 0 rfl _) ?_
    refine valP_ok (extract_ok _ 1 rfl _) ?_
    refine valP_ok (extract_ok _ 2 rfl _) ?_
    have hk : kindS r.text = if 0 ≤ n ∧ n ≤ 2 then n else -1 := by unfold kindS; rw [htk]
    have leaf : ∀ t : Bool, (t = true ↔ ¬ (0 ≤ n ∧ n ≤ 2)) → m76_5 (fun v w' => v = .tuple #[rv ((aboutR r).getD ⟨0, 0, ⟨#[]⟩⟩), .bool (aboutR r).isSome] ∧ St w0 F w' L) (.pointer (some ⟨b1, 0, none⟩)) (.pointer (some ⟨b2, 0, none⟩)) (.int .i64 n) (.bool t) w := fun t ht => by
      cases t with
      | true =>
        have h := ht.1 rfl
        rw [if_neg h] at hk
        exact bad _ _ _ _ (by unfold aboutR; rw [hk]; rfl) hS
      | false =>
        have h : 0 ≤ n ∧ n ≤ 2 := Classical.byContradiction fun h => by have := ht.2 h; cases this
        rw [if_pos h] at hk
        unfold m76_5
        refine cond_f rfl ?_
        refine valP_ok (eq3 _ _ _ _ _) ?_
        unfold m76_7
        refine cond_split (fun h0 => ?_) (fun h0 => ?_)
        · have ha : aboutR r = some ⟨0, 0, countsS⟩ := by unfold aboutR; rw [hk, if_neg (by omega), if_pos h0]
          refine valP_ok (bd56_2 rfl _) ?_
          refine ss56 0 hS rfl rfl rfl rfl ?_
          intro w hS
          simp only [List.set_cons_zero, List.set_cons_succ] at hS
          unfold m76_8
          refine valS_ok (lc56 (hS.cell 0 rfl rfl) (hS.cell 0 rfl rfl) (hS.cell 0 rfl rfl)) ?_
          rw [ha]
          exact ⟨rfl, hS.tail.tail⟩
        · have ha : aboutR r = some ⟨r.key, r.time, ⟨#[]⟩⟩ := by unfold aboutR; rw [hk, if_neg (by omega), if_neg h0]
          unfold m76_3
          refine valP_ok (fa56_0 _ _) ?_
          refine valP_ok (ld3 (hS.cell 1 rfl rfl)) ?_
          refine valP_ok (fa56_1 _ _) ?_
          refine valP_ok (ld3 (hS.cell 1 rfl rfl)) ?_
          refine valP_ok (bd56_0_1 rfl rfl _) ?_
          refine ss56 0 hS rfl rfl rfl rfl ?_
          intro w hS
          simp only [List.set_cons_zero, List.set_cons_succ] at hS
          unfold m76_4
          refine valS_ok (lc56 (hS.cell 0 rfl rfl) (hS.cell 0 rfl rfl) (hS.cell 0 rfl rfl)) ?_
          rw [ha]
          exact ⟨rfl, hS.tail.tail⟩
    unfold m76_2
    refine valP_ok (ne26 _ _ _ _ _) ?_
    refine cond_split (fun hc0 => ?_) (fun hc0 => ?_)
    · refine pick_dt (by first | assumption | omega) ?_
      refine cond_bsplit (fun hc1 => ?_) (fun hc1 => ?_)
      · refine pick_dt (by first | assumption | omega) ?_
        exact leaf _ (by simp only [decide_eq_true_eq, Bool.false_eq_true, false_iff, true_iff] <;> first | contradiction | omega)
      · refine valP_ok (gtr_ok _ _ _ _ _ _ _) ?_
        refine pick_df (by first | assumption | omega) ?_
        exact leaf _ (by simp only [decide_eq_true_eq, Bool.false_eq_true, false_iff, true_iff] <;> first | contradiction | omega)
    · refine valP_ok (lss_ok _ _ _ _ _ _ _) ?_
      refine pick_df (by first | assumption | omega) ?_
      refine cond_split (fun hc1 => ?_) (fun hc1 => ?_)
      · refine pick_dt (by first | assumption | omega) ?_
        exact leaf _ (by simp only [decide_eq_true_eq, Bool.false_eq_true, false_iff, true_iff] <;> first | contradiction | omega)
      · refine valP_ok (gtr_ok _ _ _ _ _ _ _) ?_
        refine pick_df (by first | assumption | omega) ?_
        exact leaf _ (by simp only [decide_eq_true_eq, Bool.false_eq_true, false_iff, true_iff] <;> first | contradiction | omega)
theorem gone_ret {r : Rc} (hS : St w0 F w L) : Ret Tryz.prog 77 #[rv r] w fun v w' => v = .bool (decide (r.text = putS 2)) ∧ St w0 F w' L := by
  refine s77 _ ?_
  unfold m77
  unfold m77_0
  refine new_ok (bx56 _ _ _ _) hS ?_
  intro b1 w hS
  unfold m77_1
  refine drawn_ok hS ?_
  intro w hS
  refine held_Hs hS ?_
  refine valJ_ok (fa56_2 _) ?_
  refine valJ_load ld9 (Hs.cell 0 rfl rfl) ?_
  refine callR (by kernel_rfl) (put_ret (by omega) hS) ?_
  rintro _ w ⟨rfl, hS⟩
  refine stay_Hs hS (by first | exact fun _ h => h | exact fun _ h => .tail _ h | exact fun _ h => .tail _ (.tail _ h) | simp) ?_
  refine valJ_ok (eq9 _ _ _ _) ?_
  unfold m77_2
  exact ⟨rfl, hS.tail⟩
end
structure Gt where
  off : Int
  r : Rc
abbrev encG (g : Gt) : List Value := [.int .i64 g.off, .int .i64 g.r.key, .int .i64 g.r.time, .string g.r.text]
abbrev BG (w0 : World) (F : List Nat) (L : List Res) (A : Option Addr) (l : List Gt) : Prop := Bes w0 F L 4 A l.length (l.flatMap encG)
abbrev grow (A : Option Addr) (c : Nat) (l : List Gt) : Res := Res.row 58 4 (.slice A l.length c) l.length (l.flatMap encG)
theorem encG_len : ∀ g, (encG g).length = 4 := fun _ => rfl
theorem encG_one : ∀ x, ∀ u ∈ encG x, u.oneCell' = true := fun x u hu => by
  simp only [List.mem_cons, List.not_mem_nil, or_false] at hu
  rcases hu with rfl | rfl | rfl | rfl <;> rfl
def Needless (l : List Gt) (i : Nat) (upto : Int) : Prop := ∃ h : i < l.length, l[i].off < upto ∧ (l[i].r.text = putS 2 ∨ ∃ (k : Nat) (hk : k < l.length), i < k ∧ l[k].off < upto ∧ SameR l[i].r l[k].r)
section
variable {w0 w : World} {F : List Nat} {L : List Res} {l : List Gt} {A : Option Addr} {c : Nat}
theorem g_at {o b i : Nat} (hr : Rd w 4 (some ⟨b, o, none⟩) l.length (l.flatMap encG)) (hi : i < l.length) : w.cell? ⟨b, o + i * 4, none⟩ = some (.int .i64 l[i].off) ∧ w.cell? ⟨b, o + i * 4 + 1, none⟩ = some (.int .i64 l[i].r.key) ∧ w.cell? ⟨b, o + i * 4 + 2, none⟩ = some (.int .i64 l[i].r.time) ∧ w.cell? ⟨b, o + i * 4 + 3, none⟩ = some (.string l[i].r.text) :=
  ⟨hr.struct encG_len hi (j := 0) (by omega) rfl, hr.struct encG_len hi (j := 1) (by omega) rfl, hr.struct encG_len hi (j := 2) (by omega) rfl, hr.struct encG_len hi (j := 3) (by omega) rfl⟩
end
end Go.Proofs.YtcldjjmfpmkldaaGreatDoor.M
namespace Go.Proofs.YtcldjjmfpmkldaaGreatDoor.M
open Go.Proofs.YtcldjjmfpmkldaaGreatDoor.F
set_option linter.unusedVariables false
set_option maxRecDepth 100000
variable {R : VP} {Q : EQ}
def m5_9 (R : VP) (K1 : (Value × Value) → World → Prop) (l0 out3 i4 : Value) (w : World) : Prop :=
  valP Tryz.prog (binS BinOp.add 3 (tm 15) (ci 1) i4 (vi 1)) w fun t16 w =>
  K1 (out3, t16) w
def m5_11 (R : VP) (K1 : (Value × Value) → World → Prop) (l0 out3 i4 g5 : Value) (w : World) : Prop :=
  valP Tryz.prog (Instr.loadAt 58 g5) w fun t33 w =>
  valP Tryz.prog (Instr.buildSlice 22 1 #[(0, t33)]) w fun t34 w =>
  builtinP Tryz.prog Builtin.append #[22, 22] 22 #[false, false] #[out3, t34] w fun t35 w =>
  m5_9 R K1 l0 t35 i4 w
def m5_12 (R : VP) (K1 : (Value × Value) → World → Prop) (l0 out3 i4 g5 t25 : Value) (w : World) : Prop :=
  condP t25
  (valP Tryz.prog (Instr.fieldAt 58 g5 1) w fun t26 w =>
  valP Tryz.prog (Instr.fieldAt 56 t26 2) w fun t27 w =>
  valP Tryz.prog (Instr.loadAt 9 t27) w fun t28 w =>
  valP Tryz.prog (Instr.sliceAt 9 t28 none (some (vi 600)) none) w fun t29 w =>
  valP Tryz.prog (Instr.fieldAt 58 g5 1) w fun t30 w =>
  valP Tryz.prog (Instr.fieldAt 56 t30 2) w fun t31 w =>
  unitP Tryz.prog (Instr.storeAt 9 t31 t29) w fun _ w =>
  m5_11 R K1 l0 out3 i4 g5 w)
  (m5_11 R K1 l0 out3 i4 g5 w)
def m5_10 (R : VP) (K1 : (Value × Value) → World → Prop) (l0 out3 i4 g5 : Value) (w : World) : Prop :=
  valP Tryz.prog (Instr.fieldAt 58 g5 1) w fun t21 w =>
  valP Tryz.prog (Instr.fieldAt 56 t21 2) w fun t22 w =>
  valP Tryz.prog (Instr.loadAt 9 t22) w fun t23 w =>
  builtinP Tryz.prog Builtin.len #[9] 3 #[false] #[t23] w fun t24 w =>
  valP Tryz.prog (binS BinOp.gtr 3 (tm 24) (ci 600) t24 (vi 600)) w fun t25 w =>
  m5_12 R K1 l0 out3 i4 g5 t25 w
def m5_8 (R : VP) (K1 : (Value × Value) → World → Prop) (l0 out3 i4 : Value) (w : World) : Prop :=
  valP Tryz.prog (Instr.indexAt 22 l0 i4) w fun t19 w =>
  valP Tryz.prog (Instr.loadAt 58 t19) w fun t20 w =>
  valP Tryz.prog (Instr.alloc 58 true (.tuple #[])) w fun g5 w =>
  unitP Tryz.prog (Instr.storeAt 58 g5 t20) w fun _ w =>
  m5_10 R K1 l0 out3 i4 g5 w
def m5_5 (R : VP) (t2 : Value) (w : World) : Prop :=
  R t2 w
def m5_4 (R : VP) (out3 : Value) (w : World) : Prop :=
  m5_5 R out3 w
def m5_13 (R : VP) (K1 : (Value × Value) → World → Prop) (l0 out3 i4 t14 : Value) (w : World) : Prop :=
  condP t14
  (m5_8 R K1 l0 out3 i4 w)
  (m5_4 R out3 w)
def m5_7 (R : VP) (K1 : (Value × Value) → World → Prop) (l0 out3 i4 : Value) (w : World) : Prop :=
  builtinP Tryz.prog Builtin.len #[22] 3 #[false] #[l0] w fun t13 w =>
  valP Tryz.prog (binS BinOp.lss 3 (tm 11) (tm 13) i4 t13) w fun t14 w =>
  m5_13 R K1 l0 out3 i4 t14 w
def m5_6 (R : VP) (l0 out3 i4 : Value) (w : World) : Prop :=
  loopP (fun (K1 : (Value × Value) → World → Prop) (s : Value × Value) w => m5_7 R K1 l0 s.1 s.2 w) (out3, i4) w
def m5_3 (R : VP) (l0 out3 : Value) (w : World) : Prop :=
  m5_6 R l0 out3 (vi 0) w
def m5_2 (R : VP) (l0 : Value) (w : World) : Prop :=
  m5_3 R l0 (Value.slice none 0 0) w
def m5_14 (R : VP) (l0 t8 : Value) (w : World) : Prop :=
  condP t8
  (valP Tryz.prog (Instr.sliceAt 22 l0 none (some (vi 150)) none) w fun t10 w =>
  m5_2 R t10 w)
  (m5_2 R l0 w)
def m5_1 (R : VP) (l0 : Value) (w : World) : Prop :=
  builtinP Tryz.prog Builtin.len #[22] 3 #[false] #[l0] w fun t7 w =>
  valP Tryz.prog (binS BinOp.gtr 3 (tm 7) (ci 150) t7 (vi 150)) w fun t8 w =>
  m5_14 R l0 t8 w
def m5_0 (R : VP) (l0 : Value) (w : World) : Prop :=
  m5_1 R l0 w
abbrev W5 := cwp Tryz.prog (fun i => 0)
noncomputable def k5_0 := bodyOf Tryz.f5
noncomputable def k5_1 := c2 k5_0
noncomputable def k5_2 := c2 k5_1
noncomputable def k5_3 := c2 k5_2
noncomputable def k5_4 := c2 k5_3
noncomputable def k5_5 := c2 k5_4
noncomputable def k5_6 := c2 (c1 k5_3)
noncomputable def k5_7 := c1 (c1 k5_6)
noncomputable def k5_8 := c2 k5_7
noncomputable def k5_9 := c2 k5_8
noncomputable def k5_10 := c2 (c1 (c1 k5_8))
noncomputable def k5_11 := c2 k5_10
noncomputable def k5_12 := c2 (c1 k5_10)
noncomputable def k5_13 := c2 (c1 k5_7)
noncomputable def k5_14 := c2 (c1 k5_1)
theorem s5_9 {K1 : (Value × Value) → World → Prop} (hN : ∀ e w, (K1 ((e 3), (e 4)) w) → Q .normal e w) (e : Env) (w : World) (h : m5_9 R K1 (e 0) (e 3) (e 4) w) : W5 k5_9 Q e w := by
  exact rgA 6 (fun e w => K1 ((e 3), (e 4)) w) h hN
theorem s5_11 {K1 : (Value × Value) → World → Prop} (hN : ∀ e w, (m5_9 R K1 (e 0) (e 3) (e 4) w) → Q .normal e w) (e : Env) (w : World) (h : m5_11 R K1 (e 0) (e 3) (e 4) (e 5) w) : W5 k5_11 Q e w := by
  exact rgA 10 (fun e w => m5_9 R K1 (e 0) (e 3) (e 4) w) h hN
theorem s5_12 {K1 : (Value × Value) → World → Prop} (hN : ∀ e w, (m5_11 R K1 (e 0) (e 3) (e 4) (e 5) w) → Q .normal e w) (e : Env) (w : World) (h : m5_12 R K1 (e 0) (e 3) (e 4) (e 5) (e 25) w) : W5 k5_12 Q e w := by
  refine coA (Operand.tmp 25) h (fun h1 => ?_) (fun h1 => ?_)
  · exact rgA 9 (fun e w => m5_11 R K1 (e 0) (e 3) (e 4) (e 5) w) h1 hN
  · exact skA (hN _ _ h1)
theorem s5_10 {K1 : (Value × Value) → World → Prop} (hN : ∀ e w, (m5_9 R K1 (e 0) (e 3) (e 4) w) → Q .normal e w) (e : Env) (w : World) (h : m5_10 R K1 (e 0) (e 3) (e 4) (e 5) w) : W5 k5_10 Q e w := by
  refine seA ?_
  have hN : ∀ e w, (m5_11 R K1 (e 0) (e 3) (e 4) (e 5) w) → (thenE (W5 k5_11 Q) Q) .normal e w := fun e w h => then_N (s5_11 hN e w h)
  refine seA ?_
  exact rgA 8 (fun e w => m5_12 R K1 (e 0) (e 3) (e 4) (e 5) (e 25) w) h fun e w h => then_N (s5_12 hN e w h)
theorem s5_8 {K1 : (Value × Value) → World → Prop} (hN : ∀ e w, (K1 ((e 3), (e 4)) w) → Q .normal e w) (e : Env) (w : World) (h : m5_8 R K1 (e 0) (e 3) (e 4) w) : W5 k5_8 Q e w := by
  refine seA ?_
  have hN : ∀ e w, (m5_9 R K1 (e 0) (e 3) (e 4) w) → (thenE (W5 k5_9 Q) Q) .normal e w := fun e w h => then_N (s5_9 hN e w h)
  refine block_ok 1 (by kernel_rfl) ?_
  have hN : ∀ e w, (m5_9 R K1 (e 0) (e 3) (e 4) w) → (inBlockE 1 (thenE (W5 k5_9 Q) Q)) .normal e w := fun e w h => block_N (hN e w h)
  refine seA ?_
  exact rgA 7 (fun e w => m5_10 R K1 (e 0) (e 3) (e 4) (e 5) w) h fun e w h => then_N (s5_10 (R := R) (Q := (inBlockE 1 (thenE (W5 k5_9 Q) Q))) hN e w h)
abbrev hR5 (R : VP) (Q : EQ) : Prop := ∀ e w, (R (e 2) w) → Q .ret e w
theorem s5_5 (hR : hR5 R Q) (e : Env) (w : World) (h : m5_5 R (e 2) w) : W5 k5_5 Q e w := by
  exact reA (hR _ _ h)
theorem s5_4 (hR : hR5 R Q) (e : Env) (w : World) (h : m5_4 R (e 3) w) : W5 k5_4 Q e w := by
  refine seA ?_
  exact rgA 11 (fun e w => m5_5 R (e 2) w) h fun e w h => then_N (s5_5 hR e w h)
theorem s5_13 {K1 : (Value × Value) → World → Prop} (hN : ∀ e w, (m5_8 R K1 (e 0) (e 3) (e 4) w) → Q .normal e w) (hX0 : ∀ e w, (m5_4 R (e 3) w) → Q (.exit 0) e w) (e : Env) (w : World) (h : m5_13 R K1 (e 0) (e 3) (e 4) (e 14) w) : W5 k5_13 Q e w := by
  refine coA (Operand.tmp 14) h (fun h1 => ?_) (fun h1 => ?_)
  · exact skA (hN _ _ h1)
  · exact exA 0 (hX0 _ _ h1)
theorem s5_7 {K1 : (Value × Value) → World → Prop} (hN : ∀ e w, (K1 ((e 3), (e 4)) w) → Q .normal e w) (hX0 : ∀ e w, (m5_4 R (e 3) w) → Q (.exit 0) e w) (e : Env) (w : World) (h : m5_7 R K1 (e 0) (e 3) (e 4) w) : W5 k5_7 Q e w := by
  refine seA ?_
  have hN : ∀ e w, (m5_8 R K1 (e 0) (e 3) (e 4) w) → (thenE (W5 k5_8 Q) Q) .normal e w := fun e w h => then_N (s5_8 hN e w h)
  have hX0 : ∀ e w, (m5_4 R (e 3) w) → (thenE (W5 k5_8 Q) Q) (.exit 0) e w := fun e w h => then_X (hX0 e w h)
  refine seA ?_
  exact rgA 5 (fun e w => m5_13 R K1 (e 0) (e 3) (e 4) (e 14) w) h fun e w h => then_N (s5_13 hN hX0 e w h)
theorem s5_6 (hN : ∀ e w, (m5_4 R (e 3) w) → Q .normal e w) (e : Env) (w : World) (h : m5_6 R (e 0) (e 3) (e 4) w) : W5 k5_6 Q e w := by
  refine block_ok 0 (by kernel_rfl) ?_
  have hX0 : ∀ e w, (m5_4 R (e 3) w) → (inBlockE 0 Q) (.exit 0) e w := fun e w h => inBlock_same (Q := Q) 0 (hN e w h)
  refine loop_ok' (fun (e : Env) => (e 3, e 4)) [0] (by kernel_rfl) (by kernel_rfl) h (fun K e' w' hk h' => ?_)
  have r0 : e' 0 = e 0 := hk 0 (by decide)
  have hX0 : ∀ e w, (m5_4 R (e 3) w) → (thenE (fun (e : Env) w => K ((e 3), (e 4)) w) (inBlockE 0 Q)) (.exit 0) e w := fun e w h => then_X (hX0 e w h)
  exact s5_7 (K1 := K) (fun _ _ h => then_N h) hX0 e' w' (by rw [r0]; exact h')
theorem s5_3 (hR : hR5 R Q) (e : Env) (w : World) (h : m5_3 R (e 0) (e 3) w) : W5 k5_3 Q e w := by
  refine seA ?_
  have hN : ∀ e w, (m5_4 R (e 3) w) → (thenE (W5 k5_4 Q) Q) .normal e w := fun e w h => then_N (s5_4 hR e w h)
  refine seA ?_
  exact rgA 4 (fun e w => m5_6 R (e 0) (e 3) (e 4) w) h fun e w h => then_N (s5_6 hN e w h)
theorem s5_2 (hR : hR5 R Q) (e : Env) (w : World) (h : m5_2 R (e 0) w) : W5 k5_2 Q e w := by
  refine seA ?_
  exact rgA 3 (fun e w => m5_3 R (e 0) (e 3) w) h fun e w h => then_N (s5_3 hR e w h)
theorem s5_14 (hN : ∀ e w, (m5_2 R (e 0) w) → Q .normal e w) (e : Env) (w : World) (h : m5_14 R (e 0) (e 8) w) : W5 k5_14 Q e w := by
  refine coA (Operand.tmp 8) h (fun h1 => ?_) (fun h1 => ?_)
  · exact rgA 2 (fun e w => m5_2 R (e 0) w) h1 hN
  · exact skA (hN _ _ h1)
theorem s5_1 (hR : hR5 R Q) (e : Env) (w : World) (h : m5_1 R (e 0) w) : W5 k5_1 Q e w := by
  refine seA ?_
  have hN : ∀ e w, (m5_2 R (e 0) w) → (thenE (W5 k5_2 Q) Q) .normal e w := fun e w h => then_N (s5_2 hR e w h)
  refine seA ?_
  exact rgA 1 (fun e w => m5_14 R (e 0) (e 8) w) h fun e w h => then_N (s5_14 hN e w h)
theorem s5_0 (hR : hR5 R Q) (e : Env) (w : World) (h : m5_0 R (e 0) w) : W5 k5_0 Q e w := by
  refine seA ?_
  exact rgA 0 (fun e w => m5_1 R (e 0) w) h fun e w h => then_N (s5_1 hR e w h)
abbrev m5 (R : VP) (l0 : Value) (w : World) : Prop := m5_0 R l0 w
theorem s5 (l0 : Value) {R : VP} {w : World} (h : m5 R l0 w) :
    Calls Tryz.prog 5 #[l0] w fun e w' => ∃ v, e = .returned v ∧ R v w' :=
  calls_of_cwp (st := (fun i => 0)) (c := k5_0) (by kernel_rfl) Tryz.func5 (by kernel_rfl) (Nat.le_of_ble_eq_true (by kernel_rfl)) (by kernel_rfl)
    (s5_0 (R := R) (Q := endE Tryz.prog Tryz.f5 R) (fun e w h => kcast (by kernel_rfl) h) (argsE #[l0]) w (kcast (by kernel_rfl) h))
def m13_13 (R : VP) (t4 : Value) (w : World) : Prop :=
  R t4 w
def m13_10 (R : VP) (K1 : VP) (t4 : Value) (w : World) : Prop :=
  R t4 w
def m13_8 (R : VP) (K1 : VP) (a0 b1 i5 : Value) (w : World) : Prop :=
  valP Tryz.prog (binS BinOp.add 3 (tm 15) (ci 1) i5 (vi 1)) w fun t16 w =>
  K1 t16 w
def m13_9 (R : VP) (K1 : VP) (a0 b1 i5 t25 : Value) (w : World) : Prop :=
  condP t25
  (m13_10 R K1 (Value.bool false) w)
  (m13_8 R K1 a0 b1 i5 w)
def m13_7 (R : VP) (K1 : VP) (a0 b1 i5 : Value) (w : World) : Prop :=
  valQ Tryz.prog (Instr.indexAt 22 a0 i5) w fun t19 =>
  valQ Tryz.prog (Instr.loadAt 58 t19) w fun t20 =>
  valQ Tryz.prog (Instr.indexAt 22 b1 i5) w fun t23 =>
  valQ Tryz.prog (Instr.loadAt 58 t23) w fun t24 =>
  valQ Tryz.prog (binS BinOp.neq 58 (tm 20) (tm 24) t20 t24) w fun t25 =>
  anyDraw w fun w =>
  m13_9 R K1 a0 b1 i5 t25 w
def m13_4 (R : VP) (t4 : Value) (w : World) : Prop :=
  R t4 w
def m13_3 (R : VP) (w : World) : Prop :=
  m13_4 R (Value.bool true) w
def m13_11 (R : VP) (K1 : VP) (a0 b1 i5 t14 : Value) (w : World) : Prop :=
  condP t14
  (m13_7 R K1 a0 b1 i5 w)
  (m13_3 R w)
def m13_6 (R : VP) (K1 : VP) (a0 b1 i5 : Value) (w : World) : Prop :=
  builtinP Tryz.prog Builtin.len #[22] 3 #[false] #[a0] w fun t13 w =>
  valP Tryz.prog (binS BinOp.lss 3 (tm 11) (tm 13) i5 t13) w fun t14 w =>
  m13_11 R K1 a0 b1 i5 t14 w
def m13_5 (R : VP) (a0 b1 i5 : Value) (w : World) : Prop :=
  loopP (fun (K1 : VP) (s : Value) w => m13_6 R K1 a0 b1 s w) i5 w
def m13_2 (R : VP) (a0 b1 : Value) (w : World) : Prop :=
  m13_5 R a0 b1 (vi 0) w
def m13_12 (R : VP) (a0 b1 t10 : Value) (w : World) : Prop :=
  condP t10
  (m13_13 R (Value.bool false) w)
  (m13_2 R a0 b1 w)
def m13_1 (R : VP) (a0 b1 : Value) (w : World) : Prop :=
  builtinP Tryz.prog Builtin.len #[22] 3 #[false] #[a0] w fun t7 w =>
  builtinP Tryz.prog Builtin.len #[22] 3 #[false] #[b1] w fun t9 w =>
  valP Tryz.prog (binS BinOp.neq 3 (tm 7) (tm 9) t7 t9) w fun t10 w =>
  m13_12 R a0 b1 t10 w
def m13_0 (R : VP) (a0 b1 : Value) (w : World) : Prop :=
  m13_1 R a0 b1 w
abbrev W13 := cwp Tryz.prog (fun i => cond (Nat.beq i 6) 1 (0))
noncomputable def k13_0 := bodyOf Tryz.f13
noncomputable def k13_1 := c2 k13_0
noncomputable def k13_2 := c2 k13_1
noncomputable def k13_3 := c2 k13_2
noncomputable def k13_4 := c2 k13_3
noncomputable def k13_5 := c2 (c1 k13_2)
noncomputable def k13_6 := c1 (c1 k13_5)
noncomputable def k13_7 := c2 k13_6
noncomputable def k13_8 := c2 k13_7
noncomputable def k13_9 := c2 (c1 (c1 k13_7))
noncomputable def k13_10 := c2 (c1 k13_9)
noncomputable def k13_11 := c2 (c1 k13_6)
noncomputable def k13_12 := c2 (c1 k13_1)
noncomputable def k13_13 := c2 (c1 k13_12)
abbrev hR13 (R : VP) (Q : EQ) : Prop := ∀ e w, (R (e 4) w) → Q .ret e w
theorem s13_13 (hR : hR13 R Q) (e : Env) (w : World) (h : m13_13 R (e 4) w) : W13 k13_13 Q e w := by
  exact reA (hR _ _ h)
theorem s13_10 {K1 : VP} (hR : hR13 R Q) (e : Env) (w : World) (h : m13_10 R K1 (e 4) w) : W13 k13_10 Q e w := by
  exact reA (hR _ _ h)
theorem s13_8 {K1 : VP} (hN : ∀ e w, (K1 (e 5) w) → Q .normal e w) (e : Env) (w : World) (h : m13_8 R K1 (e 0) (e 1) (e 5) w) : W13 k13_8 Q e w := by
  exact rgA 5 (fun e w => K1 (e 5) w) h hN
theorem s13_9 {K1 : VP} (hN : ∀ e w, (m13_8 R K1 (e 0) (e 1) (e 5) w) → Q .normal e w) (hR : hR13 R Q) (e : Env) (w : World) (h : m13_9 R K1 (e 0) (e 1) (e 5) (e 25) w) : W13 k13_9 Q e w := by
  refine coA (Operand.tmp 25) h (fun h1 => ?_) (fun h1 => ?_)
  · refine seA ?_
    exact rgA 7 (fun e w => m13_10 R K1 (e 4) w) h1 fun e w h => then_N (s13_10 hR e w h)
  · exact skA (hN _ _ h1)
theorem s13_7 {K1 : VP} (hN : ∀ e w, (K1 (e 5) w) → Q .normal e w) (hR : hR13 R Q) (e : Env) (w : World) (h : m13_7 R K1 (e 0) (e 1) (e 5) w) : W13 k13_7 Q e w := by
  refine seA ?_
  have hN : ∀ e w, (m13_8 R K1 (e 0) (e 1) (e 5) w) → (thenE (W13 k13_8 Q) Q) .normal e w := fun e w h => then_N (s13_8 hN e w h)
  have hR : hR13 R (thenE (W13 k13_8 Q) Q) := fun e w h => then_R (hR e w h)
  refine block_ok 1 (by kernel_rfl) ?_
  have hN : ∀ e w, (m13_8 R K1 (e 0) (e 1) (e 5) w) → (inBlockE 1 (thenE (W13 k13_8 Q) Q)) .normal e w := fun e w h => block_N (hN e w h)
  have hR : hR13 R (inBlockE 1 (thenE (W13 k13_8 Q) Q)) := fun e w h => block_R (hR e w h)
  refine seA ?_
  have hN : ∀ e w, (m13_9 R K1 (e 0) (e 1) (e 5) (e 25) w) → (thenE (W13 k13_9 (inBlockE 1 (thenE (W13 k13_8 Q) Q))) (inBlockE 1 (thenE (W13 k13_8 Q) Q))) .normal e w := fun e w h => then_N (s13_9 (R := R) (Q := (inBlockE 1 (thenE (W13 k13_8 Q) Q))) hN hR e w h)
  exact quA 6 (fun e w => m13_9 R K1 (e 0) (e 1) (e 5) (e 25) w) h hN
theorem s13_4 (hR : hR13 R Q) (e : Env) (w : World) (h : m13_4 R (e 4) w) : W13 k13_4 Q e w := by
  exact reA (hR _ _ h)
theorem s13_3 (hR : hR13 R Q) (e : Env) (w : World) (h : m13_3 R w) : W13 k13_3 Q e w := by
  refine seA ?_
  exact rgA 8 (fun e w => m13_4 R (e 4) w) h fun e w h => then_N (s13_4 hR e w h)
theorem s13_11 {K1 : VP} (hN : ∀ e w, (m13_7 R K1 (e 0) (e 1) (e 5) w) → Q .normal e w) (hX0 : ∀ e w, (m13_3 R w) → Q (.exit 0) e w) (e : Env) (w : World) (h : m13_11 R K1 (e 0) (e 1) (e 5) (e 14) w) : W13 k13_11 Q e w := by
  refine coA (Operand.tmp 14) h (fun h1 => ?_) (fun h1 => ?_)
  · exact skA (hN _ _ h1)
  · exact exA 0 (hX0 _ _ h1)
theorem s13_6 {K1 : VP} (hN : ∀ e w, (K1 (e 5) w) → Q .normal e w) (hR : hR13 R Q) (hX0 : ∀ e w, (m13_3 R w) → Q (.exit 0) e w) (e : Env) (w : World) (h : m13_6 R K1 (e 0) (e 1) (e 5) w) : W13 k13_6 Q e w := by
  refine seA ?_
  have hN : ∀ e w, (m13_7 R K1 (e 0) (e 1) (e 5) w) → (thenE (W13 k13_7 Q) Q) .normal e w := fun e w h => then_N (s13_7 hN hR e w h)
  have hX0 : ∀ e w, (m13_3 R w) → (thenE (W13 k13_7 Q) Q) (.exit 0) e w := fun e w h => then_X (hX0 e w h)
  refine seA ?_
  exact rgA 4 (fun e w => m13_11 R K1 (e 0) (e 1) (e 5) (e 14) w) h fun e w h => then_N (s13_11 hN hX0 e w h)
theorem s13_5 (hN : ∀ e w, (m13_3 R w) → Q .normal e w) (hR : hR13 R Q) (e : Env) (w : World) (h : m13_5 R (e 0) (e 1) (e 5) w) : W13 k13_5 Q e w := by
  refine block_ok 0 (by kernel_rfl) ?_
  have hX0 : ∀ e w, (m13_3 R w) → (inBlockE 0 Q) (.exit 0) e w := fun e w h => inBlock_same (Q := Q) 0 (hN e w h)
  have hR : hR13 R (inBlockE 0 Q) := fun e w h => block_R (hR e w h)
  refine loop_ok' (fun (e : Env) => e 5) [0, 1] (by kernel_rfl) (by kernel_rfl) h (fun K e' w' hk h' => ?_)
  have r0 : e' 0 = e 0 := hk 0 (by decide)
  have r1 : e' 1 = e 1 := hk 1 (by decide)
  have hR : hR13 R (thenE (fun (e : Env) w => K (e 5) w) (inBlockE 0 Q)) := fun e w h => then_R (hR e w h)
  have hX0 : ∀ e w, (m13_3 R w) → (thenE (fun (e : Env) w => K (e 5) w) (inBlockE 0 Q)) (.exit 0) e w := fun e w h => then_X (hX0 e w h)
  exact s13_6 (K1 := K) (fun _ _ h => then_N h) hR hX0 e' w' (by rw [r0, r1]; exact h')
theorem s13_2 (hR : hR13 R Q) (e : Env) (w : World) (h : m13_2 R (e 0) (e 1) w) : W13 k13_2 Q e w := by
  refine seA ?_
  have hN : ∀ e w, (m13_3 R w) → (thenE (W13 k13_3 Q) Q) .normal e w := fun e w h => then_N (s13_3 hR e w h)
  have hR : hR13 R (thenE (W13 k13_3 Q) Q) := fun e w h => then_R (hR e w h)
  refine seA ?_
  exact rgA 3 (fun e w => m13_5 R (e 0) (e 1) (e 5) w) h fun e w h => then_N (s13_5 hN hR e w h)
theorem s13_12 (hN : ∀ e w, (m13_2 R (e 0) (e 1) w) → Q .normal e w) (hR : hR13 R Q) (e : Env) (w : World) (h : m13_12 R (e 0) (e 1) (e 10) w) : W13 k13_12 Q e w := by
  refine coA (Operand.tmp 10) h (fun h1 => ?_) (fun h1 => ?_)
  · refine seA ?_
    exact rgA 2 (fun e w => m13_13 R (e 4) w) h1 fun e w h => then_N (s13_13 hR e w h)
  · exact skA (hN _ _ h1)
theorem s13_1 (hR : hR13 R Q) (e : Env) (w : World) (h : m13_1 R (e 0) (e 1) w) : W13 k13_1 Q e w := by
  refine seA ?_
  have hN : ∀ e w, (m13_2 R (e 0) (e 1) w) → (thenE (W13 k13_2 Q) Q) .normal e w := fun e w h => then_N (s13_2 hR e w h)
  have hR : hR13 R (thenE (W13 k13_2 Q) Q) := fun e w h => then_R (hR e w h)
  refine seA ?_
  exact rgA 1 (fun e w => m13_12 R (e 0) (e 1) (e 10) w) h fun e w h => then_N (s13_12 hN hR e w h)
theorem s13_0 (hR : hR13 R Q) (e : Env) (w : World) (h : m13_0 R (e 0) (e 1) w) : W13 k13_0 Q e w := by
  refine seA ?_
  exact rgA 0 (fun e w => m13_1 R (e 0) (e 1) w) h fun e w h => then_N (s13_1 hR e w h)
abbrev m13 (R : VP) (a0 b1 : Value) (w : World) : Prop := m13_0 R a0 b1 w
theorem s13 (a0 b1 : Value) {R : VP} {w : World} (h : m13 R a0 b1 w) :
    Calls Tryz.prog 13 #[a0, b1] w fun e w' => ∃ v, e = .returned v ∧ R v w' :=
  calls_of_cwp (st := (fun i => cond (Nat.beq i 6) 1 (0))) (c := k13_0) (by kernel_rfl) Tryz.func13 (by kernel_rfl) (Nat.le_of_ble_eq_true (by kernel_rfl)) (by kernel_rfl)
    (s13_0 (R := R) (Q := endE Tryz.prog Tryz.f13 R) (fun e w h => kcast (by kernel_rfl) h) (argsE #[a0, b1]) w (kcast (by kernel_rfl) h))
def m38_20 (R : VP) (K1 : VP) (l0 upto1 last5 t16 t17 t18 : Value) (w : World) : Prop :=
  valP Tryz.prog (binS BinOp.add 3 (tm 18) (ci 1) t18 (vi 1)) w fun t39 w =>
  K1 t39 w
def m38_23 (R : VP) (K1 : VP) (l0 upto1 last5 i6 a8 t16 t17 t18 t35 : Value) (w : World) : Prop :=
  condP t35
  (valP Tryz.prog (Instr.loadAt 56 a8) w fun t37 w =>
  unitP Tryz.prog (Instr.mapUpdate 118 last5 t37 i6) w fun _ w =>
  m38_20 R K1 l0 upto1 last5 t16 t17 t18 w)
  (m38_20 R K1 l0 upto1 last5 t16 t17 t18 w)
def m38_22 (R : VP) (K1 : VP) (l0 upto1 last5 i6 g7 a8 ok9 t16 t17 t18 : Value) (w : World) : Prop :=
  condP ok9
  (valP Tryz.prog (Instr.fieldAt 58 g7 0) w fun t31 w =>
  valP Tryz.prog (Instr.loadAt 3 t31) w fun t32 w =>
  valP Tryz.prog (binS BinOp.lss 3 (tm 32) (tm 33) t32 upto1) w fun t34 w =>
  pickP ok9 t34 (Value.bool false) fun t35 =>
  m38_23 R K1 l0 upto1 last5 i6 a8 t16 t17 t18 t35 w)
  (pickP ok9 undef (Value.bool false) fun t35 =>
  m38_23 R K1 l0 upto1 last5 i6 a8 t16 t17 t18 t35 w)
def m38_21 (R : VP) (K1 : VP) (l0 upto1 last5 i6 g7 t16 t17 t18 : Value) (w : World) : Prop :=
  valP Tryz.prog (Instr.fieldAt 58 g7 1) w fun t24 w =>
  valP Tryz.prog (Instr.loadAt 56 t24) w fun t25 w =>
  callP Tryz.prog (fnV 76) #[t25] w fun t26 w =>
  valP Tryz.prog (Instr.extract t26 0) w fun t27 w =>
  valP Tryz.prog (Instr.extract t26 1) w fun t28 w =>
  valP Tryz.prog (Instr.alloc 56 true (.tuple #[])) w fun a8 w =>
  unitP Tryz.prog (Instr.storeAt 56 a8 t27) w fun _ w =>
  m38_22 R K1 l0 upto1 last5 i6 g7 a8 t28 t16 t17 t18 w
def m38_19 (R : VP) (K1 : VP) (l0 upto1 last5 t16 t17 t18 : Value) (w : World) : Prop :=
  valP Tryz.prog (Instr.indexAt 22 t16 t18) w fun t21 w =>
  valP Tryz.prog (Instr.loadAt 58 t21) w fun t22 w =>
  valP Tryz.prog (Instr.alloc 58 true (.tuple #[])) w fun g7 w =>
  unitP Tryz.prog (Instr.storeAt 58 g7 t22) w fun _ w =>
  m38_21 R K1 l0 upto1 last5 t18 g7 t16 t17 t18 w
def m38_11 (R : VP) (K1 : (Value × Value) → World → Prop) (upto1 last5 out10 t40 t41 t42 : Value) (w : World) : Prop :=
  valP Tryz.prog (binS BinOp.add 3 (tm 42) (ci 1) t42 (vi 1)) w fun t76 w =>
  K1 (out10, t76) w
def m38_14 (R : VP) (K1 : (Value × Value) → World → Prop) (upto1 last5 out10 g12 t40 t41 t42 : Value) (w : World) : Prop :=
  valP Tryz.prog (Instr.loadAt 58 g12) w fun t73 w =>
  valP Tryz.prog (Instr.buildSlice 22 1 #[(0, t73)]) w fun t74 w =>
  builtinP Tryz.prog Builtin.append #[22, 22] 22 #[false, false] #[out10, t74] w fun t75 w =>
  m38_11 R K1 upto1 last5 t75 t40 t41 t42 w
def m38_15 (R : VP) (K1 : (Value × Value) → World → Prop) (upto1 last5 out10 g12 t40 t41 t42 t71 : Value) (w : World) : Prop :=
  condP t71
  (m38_11 R K1 upto1 last5 out10 t40 t41 t42 w)
  (m38_14 R K1 upto1 last5 out10 g12 t40 t41 t42 w)
def m38_13 (R : VP) (K1 : (Value × Value) → World → Prop) (upto1 last5 out10 i11 g12 a13 ok14 t40 t41 t42 : Value) (w : World) : Prop :=
  valP Tryz.prog (Instr.fieldAt 58 g12 0) w fun t53 w =>
  valP Tryz.prog (Instr.loadAt 3 t53) w fun t54 w =>
  valP Tryz.prog (binS BinOp.lss 3 (tm 54) (tm 55) t54 upto1) w fun t56 w =>
  condP t56
  (pickP t56 ok14 (Value.bool false) fun t59 =>
  condP t59
  (valP Tryz.prog (Instr.loadAt 56 a13) w fun t62 w =>
  valP Tryz.prog (Instr.lookup 118 last5 t62 false) w fun t63 w =>
  valP Tryz.prog (binS BinOp.neq 3 (tm 63) (tm 64) t63 i11) w fun t65 w =>
  condP t65
  (pickP t65 (Value.bool true) undef fun t70 =>
  pickP t59 t70 (Value.bool false) fun t71 =>
  m38_15 R K1 upto1 last5 out10 g12 t40 t41 t42 t71 w)
  (valP Tryz.prog (Instr.fieldAt 58 g12 1) w fun t67 w =>
  valP Tryz.prog (Instr.loadAt 56 t67) w fun t68 w =>
  callP Tryz.prog (fnV 77) #[t68] w fun t69 w =>
  pickP t65 (Value.bool true) t69 fun t70 =>
  pickP t59 t70 (Value.bool false) fun t71 =>
  m38_15 R K1 upto1 last5 out10 g12 t40 t41 t42 t71 w))
  (pickP t59 undef (Value.bool false) fun t71 =>
  m38_15 R K1 upto1 last5 out10 g12 t40 t41 t42 t71 w))
  (pickP t56 undef (Value.bool false) fun t59 =>
  condP t59
  (valP Tryz.prog (Instr.loadAt 56 a13) w fun t62 w =>
  valP Tryz.prog (Instr.lookup 118 last5 t62 false) w fun t63 w =>
  valP Tryz.prog (binS BinOp.neq 3 (tm 63) (tm 64) t63 i11) w fun t65 w =>
  condP t65
  (pickP t65 (Value.bool true) undef fun t70 =>
  pickP t59 t70 (Value.bool false) fun t71 =>
  m38_15 R K1 upto1 last5 out10 g12 t40 t41 t42 t71 w)
  (valP Tryz.prog (Instr.fieldAt 58 g12 1) w fun t67 w =>
  valP Tryz.prog (Instr.loadAt 56 t67) w fun t68 w =>
  callP Tryz.prog (fnV 77) #[t68] w fun t69 w =>
  pickP t65 (Value.bool true) t69 fun t70 =>
  pickP t59 t70 (Value.bool false) fun t71 =>
  m38_15 R K1 upto1 last5 out10 g12 t40 t41 t42 t71 w))
  (pickP t59 undef (Value.bool false) fun t71 =>
  m38_15 R K1 upto1 last5 out10 g12 t40 t41 t42 t71 w))
def m38_12 (R : VP) (K1 : (Value × Value) → World → Prop) (upto1 last5 out10 i11 g12 t40 t41 t42 : Value) (w : World) : Prop :=
  valP Tryz.prog (Instr.fieldAt 58 g12 1) w fun t48 w =>
  valP Tryz.prog (Instr.loadAt 56 t48) w fun t49 w =>
  callP Tryz.prog (fnV 76) #[t49] w fun t50 w =>
  valP Tryz.prog (Instr.extract t50 0) w fun t51 w =>
  valP Tryz.prog (Instr.extract t50 1) w fun t52 w =>
  valP Tryz.prog (Instr.alloc 56 true (.tuple #[])) w fun a13 w =>
  unitP Tryz.prog (Instr.storeAt 56 a13 t51) w fun _ w =>
  m38_13 R K1 upto1 last5 out10 i11 g12 a13 t52 t40 t41 t42 w
def m38_10 (R : VP) (K1 : (Value × Value) → World → Prop) (upto1 last5 out10 t40 t41 t42 : Value) (w : World) : Prop :=
  valP Tryz.prog (Instr.indexAt 22 t40 t42) w fun t45 w =>
  valP Tryz.prog (Instr.loadAt 58 t45) w fun t46 w =>
  valP Tryz.prog (Instr.alloc 58 true (.tuple #[])) w fun g12 w =>
  unitP Tryz.prog (Instr.storeAt 58 g12 t46) w fun _ w =>
  m38_12 R K1 upto1 last5 out10 t42 g12 t40 t41 t42 w
def m38_6 (R : VP) (t4 : Value) (w : World) : Prop :=
  R t4 w
def m38_5 (R : VP) (out10 : Value) (w : World) : Prop :=
  m38_6 R out10 w
def m38_9 (R : VP) (K1 : (Value × Value) → World → Prop) (upto1 last5 out10 t40 t41 t42 t43 : Value) (w : World) : Prop :=
  condP t43
  (m38_10 R K1 upto1 last5 out10 t40 t41 t42 w)
  (m38_5 R out10 w)
def m38_8 (R : VP) (K1 : (Value × Value) → World → Prop) (upto1 last5 out10 t40 t41 t42 : Value) (w : World) : Prop :=
  valP Tryz.prog (binS BinOp.lss 3 (tm 42) (tm 41) t42 t41) w fun t43 w =>
  m38_9 R K1 upto1 last5 out10 t40 t41 t42 t43 w
def m38_7 (R : VP) (upto1 last5 out10 t40 t41 t42 : Value) (w : World) : Prop :=
  loopP (fun (K1 : (Value × Value) → World → Prop) (s : Value × Value) w => m38_8 R K1 upto1 last5 s.1 t40 t41 s.2 w) (out10, t42) w
def m38_4 (R : VP) (l0 upto1 last5 out10 : Value) (w : World) : Prop :=
  builtinP Tryz.prog Builtin.len #[22] 3 #[false] #[l0] w fun t41 w =>
  m38_7 R upto1 last5 out10 l0 t41 (vi 0) w
def m38_3 (R : VP) (l0 upto1 last5 : Value) (w : World) : Prop :=
  m38_4 R l0 upto1 last5 (Value.slice none 0 0) w
def m38_18 (R : VP) (K1 : VP) (l0 upto1 last5 t16 t17 t18 t19 : Value) (w : World) : Prop :=
  condP t19
  (m38_19 R K1 l0 upto1 last5 t16 t17 t18 w)
  (m38_3 R l0 upto1 last5 w)
def m38_17 (R : VP) (K1 : VP) (l0 upto1 last5 t16 t17 t18 : Value) (w : World) : Prop :=
  valP Tryz.prog (binS BinOp.lss 3 (tm 18) (tm 17) t18 t17) w fun t19 w =>
  m38_18 R K1 l0 upto1 last5 t16 t17 t18 t19 w
def m38_16 (R : VP) (l0 upto1 last5 t16 t17 t18 : Value) (w : World) : Prop :=
  loopP (fun (K1 : VP) (s : Value) w => m38_17 R K1 l0 upto1 last5 t16 t17 s w) t18 w
def m38_2 (R : VP) (l0 upto1 last5 : Value) (w : World) : Prop :=
  builtinP Tryz.prog Builtin.len #[22] 3 #[false] #[l0] w fun t17 w =>
  m38_16 R l0 upto1 last5 l0 t17 (vi 0) w
def m38_1 (R : VP) (l0 upto1 : Value) (w : World) : Prop :=
  valP Tryz.prog (Instr.makeMap 118 none) w fun t15 w =>
  m38_2 R l0 upto1 t15 w
def m38_0 (R : VP) (l0 upto1 : Value) (w : World) : Prop :=
  m38_1 R l0 upto1 w
abbrev W38 := cwp Tryz.prog (fun i => 0)
noncomputable def k38_0 := bodyOf Tryz.f38
noncomputable def k38_1 := c2 k38_0
noncomputable def k38_2 := c2 k38_1
noncomputable def k38_3 := c2 k38_2
noncomputable def k38_4 := c2 k38_3
noncomputable def k38_5 := c2 k38_4
noncomputable def k38_6 := c2 k38_5
noncomputable def k38_7 := c2 (c1 k38_4)
noncomputable def k38_8 := c1 (c1 k38_7)
noncomputable def k38_9 := c2 k38_8
noncomputable def k38_10 := c2 k38_9
noncomputable def k38_11 := c2 k38_10
noncomputable def k38_12 := c2 (c1 (c1 k38_10))
noncomputable def k38_13 := c2 k38_12
noncomputable def k38_14 := c2 k38_13
noncomputable def k38_15 := c2 (c1 k38_13)
noncomputable def k38_16 := c2 (c1 k38_2)
noncomputable def k38_17 := c1 (c1 k38_16)
noncomputable def k38_18 := c2 k38_17
noncomputable def k38_19 := c2 k38_18
noncomputable def k38_20 := c2 k38_19
noncomputable def k38_21 := c2 (c1 (c1 k38_19))
noncomputable def k38_22 := c2 k38_21
noncomputable def k38_23 := c2 k38_22
theorem s38_20 {K1 : VP} (hN : ∀ e w, (K1 (e 18) w) → Q .normal e w) (e : Env) (w : World) (h : m38_20 R K1 (e 0) (e 1) (e 5) (e 16) (e 17) (e 18) w) : W38 k38_20 Q e w := by
  exact rgA 8 (fun e w => K1 (e 18) w) h hN
theorem s38_23 {K1 : VP} (hN : ∀ e w, (m38_20 R K1 (e 0) (e 1) (e 5) (e 16) (e 17) (e 18) w) → Q .normal e w) (e : Env) (w : World) (h : m38_23 R K1 (e 0) (e 1) (e 5) (e 6) (e 8) (e 16) (e 17) (e 18) (e 35) w) : W38 k38_23 Q e w := by
  refine coA (Operand.tmp 35) h (fun h1 => ?_) (fun h1 => ?_)
  · exact rgA 7 (fun e w => m38_20 R K1 (e 0) (e 1) (e 5) (e 16) (e 17) (e 18) w) h1 hN
  · exact skA (hN _ _ h1)
theorem s38_22 {K1 : VP} (hN : ∀ e w, (m38_20 R K1 (e 0) (e 1) (e 5) (e 16) (e 17) (e 18) w) → Q .normal e w) (e : Env) (w : World) (h : m38_22 R K1 (e 0) (e 1) (e 5) (e 6) (e 7) (e 8) (e 9) (e 16) (e 17) (e 18) w) : W38 k38_22 Q e w := by
  refine seA ?_
  exact rgA 6 (fun e w => m38_23 R K1 (e 0) (e 1) (e 5) (e 6) (e 8) (e 16) (e 17) (e 18) (e 35) w) h fun e w h => then_N (s38_23 hN e w h)
theorem s38_21 {K1 : VP} (hN : ∀ e w, (m38_20 R K1 (e 0) (e 1) (e 5) (e 16) (e 17) (e 18) w) → Q .normal e w) (e : Env) (w : World) (h : m38_21 R K1 (e 0) (e 1) (e 5) (e 6) (e 7) (e 16) (e 17) (e 18) w) : W38 k38_21 Q e w := by
  refine seA ?_
  exact rgA 5 (fun e w => m38_22 R K1 (e 0) (e 1) (e 5) (e 6) (e 7) (e 8) (e 9) (e 16) (e 17) (e 18) w) h fun e w h => then_N (s38_22 hN e w h)
theorem s38_19 {K1 : VP} (hN : ∀ e w, (K1 (e 18) w) → Q .normal e w) (e : Env) (w : World) (h : m38_19 R K1 (e 0) (e 1) (e 5) (e 16) (e 17) (e 18) w) : W38 k38_19 Q e w := by
  refine seA ?_
  have hN : ∀ e w, (m38_20 R K1 (e 0) (e 1) (e 5) (e 16) (e 17) (e 18) w) → (thenE (W38 k38_20 Q) Q) .normal e w := fun e w h => then_N (s38_20 hN e w h)
  refine block_ok 1 (by kernel_rfl) ?_
  have hN : ∀ e w, (m38_20 R K1 (e 0) (e 1) (e 5) (e 16) (e 17) (e 18) w) → (inBlockE 1 (thenE (W38 k38_20 Q) Q)) .normal e w := fun e w h => block_N (hN e w h)
  refine seA ?_
  exact rgA 4 (fun e w => m38_21 R K1 (e 0) (e 1) (e 5) (e 6) (e 7) (e 16) (e 17) (e 18) w) h fun e w h => then_N (s38_21 (R := R) (Q := (inBlockE 1 (thenE (W38 k38_20 Q) Q))) hN e w h)
theorem s38_11 {K1 : (Value × Value) → World → Prop} (hN : ∀ e w, (K1 ((e 10), (e 42)) w) → Q .normal e w) (e : Env) (w : World) (h : m38_11 R K1 (e 1) (e 5) (e 10) (e 40) (e 41) (e 42) w) : W38 k38_11 Q e w := by
  exact rgA 16 (fun e w => K1 ((e 10), (e 42)) w) h hN
theorem s38_14 {K1 : (Value × Value) → World → Prop} (hN : ∀ e w, (m38_11 R K1 (e 1) (e 5) (e 10) (e 40) (e 41) (e 42) w) → Q .normal e w) (e : Env) (w : World) (h : m38_14 R K1 (e 1) (e 5) (e 10) (e 12) (e 40) (e 41) (e 42) w) : W38 k38_14 Q e w := by
  exact rgA 15 (fun e w => m38_11 R K1 (e 1) (e 5) (e 10) (e 40) (e 41) (e 42) w) h hN
theorem s38_15 {K1 : (Value × Value) → World → Prop} (hN : ∀ e w, (m38_14 R K1 (e 1) (e 5) (e 10) (e 12) (e 40) (e 41) (e 42) w) → Q .normal e w) (hX3 : ∀ e w, (m38_11 R K1 (e 1) (e 5) (e 10) (e 40) (e 41) (e 42) w) → Q (.exit 3) e w) (e : Env) (w : World) (h : m38_15 R K1 (e 1) (e 5) (e 10) (e 12) (e 40) (e 41) (e 42) (e 71) w) : W38 k38_15 Q e w := by
  refine coA (Operand.tmp 71) h (fun h1 => ?_) (fun h1 => ?_)
  · exact exA 3 (hX3 _ _ h1)
  · exact skA (hN _ _ h1)
theorem s38_13 {K1 : (Value × Value) → World → Prop} (hN : ∀ e w, (m38_11 R K1 (e 1) (e 5) (e 10) (e 40) (e 41) (e 42) w) → Q .normal e w) (hX3 : ∀ e w, (m38_11 R K1 (e 1) (e 5) (e 10) (e 40) (e 41) (e 42) w) → Q (.exit 3) e w) (e : Env) (w : World) (h : m38_13 R K1 (e 1) (e 5) (e 10) (e 11) (e 12) (e 13) (e 14) (e 40) (e 41) (e 42) w) : W38 k38_13 Q e w := by
  refine seA ?_
  have hN : ∀ e w, (m38_14 R K1 (e 1) (e 5) (e 10) (e 12) (e 40) (e 41) (e 42) w) → (thenE (W38 k38_14 Q) Q) .normal e w := fun e w h => then_N (s38_14 hN e w h)
  have hX3 : ∀ e w, (m38_11 R K1 (e 1) (e 5) (e 10) (e 40) (e 41) (e 42) w) → (thenE (W38 k38_14 Q) Q) (.exit 3) e w := fun e w h => then_X (hX3 e w h)
  refine seA ?_
  exact rgA 14 (fun e w => m38_15 R K1 (e 1) (e 5) (e 10) (e 12) (e 40) (e 41) (e 42) (e 71) w) h fun e w h => then_N (s38_15 hN hX3 e w h)
theorem s38_12 {K1 : (Value × Value) → World → Prop} (hN : ∀ e w, (m38_11 R K1 (e 1) (e 5) (e 10) (e 40) (e 41) (e 42) w) → Q .normal e w) (hX3 : ∀ e w, (m38_11 R K1 (e 1) (e 5) (e 10) (e 40) (e 41) (e 42) w) → Q (.exit 3) e w) (e : Env) (w : World) (h : m38_12 R K1 (e 1) (e 5) (e 10) (e 11) (e 12) (e 40) (e 41) (e 42) w) : W38 k38_12 Q e w := by
  refine seA ?_
  exact rgA 13 (fun e w => m38_13 R K1 (e 1) (e 5) (e 10) (e 11) (e 12) (e 13) (e 14) (e 40) (e 41) (e 42) w) h fun e w h => then_N (s38_13 hN hX3 e w h)
theorem s38_10 {K1 : (Value × Value) → World → Prop} (hN : ∀ e w, (K1 ((e 10), (e 42)) w) → Q .normal e w) (e : Env) (w : World) (h : m38_10 R K1 (e 1) (e 5) (e 10) (e 40) (e 41) (e 42) w) : W38 k38_10 Q e w := by
  refine seA ?_
  have hN : ∀ e w, (m38_11 R K1 (e 1) (e 5) (e 10) (e 40) (e 41) (e 42) w) → (thenE (W38 k38_11 Q) Q) .normal e w := fun e w h => then_N (s38_11 hN e w h)
  refine block_ok 3 (by kernel_rfl) ?_
  have hX3 : ∀ e w, (m38_11 R K1 (e 1) (e 5) (e 10) (e 40) (e 41) (e 42) w) → (inBlockE 3 (thenE (W38 k38_11 Q) Q)) (.exit 3) e w := fun e w h => inBlock_same (Q := (thenE (W38 k38_11 Q) Q)) 3 (hN e w h)
  have hN : ∀ e w, (m38_11 R K1 (e 1) (e 5) (e 10) (e 40) (e 41) (e 42) w) → (inBlockE 3 (thenE (W38 k38_11 Q) Q)) .normal e w := fun e w h => block_N (hN e w h)
  refine seA ?_
  exact rgA 12 (fun e w => m38_12 R K1 (e 1) (e 5) (e 10) (e 11) (e 12) (e 40) (e 41) (e 42) w) h fun e w h => then_N (s38_12 (R := R) (Q := (inBlockE 3 (thenE (W38 k38_11 Q) Q))) hN hX3 e w h)
abbrev hR38 (R : VP) (Q : EQ) : Prop := ∀ e w, (R (e 4) w) → Q .ret e w
theorem s38_6 (hR : hR38 R Q) (e : Env) (w : World) (h : m38_6 R (e 4) w) : W38 k38_6 Q e w := by
  exact reA (hR _ _ h)
theorem s38_5 (hR : hR38 R Q) (e : Env) (w : World) (h : m38_5 R (e 10) w) : W38 k38_5 Q e w := by
  refine seA ?_
  exact rgA 17 (fun e w => m38_6 R (e 4) w) h fun e w h => then_N (s38_6 hR e w h)
theorem s38_9 {K1 : (Value × Value) → World → Prop} (hN : ∀ e w, (K1 ((e 10), (e 42)) w) → Q .normal e w) (hX2 : ∀ e w, (m38_5 R (e 10) w) → Q (.exit 2) e w) (e : Env) (w : World) (h : m38_9 R K1 (e 1) (e 5) (e 10) (e 40) (e 41) (e 42) (e 43) w) : W38 k38_9 Q e w := by
  refine seA ?_
  have hN : ∀ e w, (m38_10 R K1 (e 1) (e 5) (e 10) (e 40) (e 41) (e 42) w) → (thenE (W38 k38_10 Q) Q) .normal e w := fun e w h => then_N (s38_10 hN e w h)
  have hX2 : ∀ e w, (m38_5 R (e 10) w) → (thenE (W38 k38_10 Q) Q) (.exit 2) e w := fun e w h => then_X (hX2 e w h)
  refine coA (Operand.tmp 43) h (fun h1 => ?_) (fun h1 => ?_)
  · exact skA (hN _ _ h1)
  · exact exA 2 (hX2 _ _ h1)
theorem s38_8 {K1 : (Value × Value) → World → Prop} (hN : ∀ e w, (K1 ((e 10), (e 42)) w) → Q .normal e w) (hX2 : ∀ e w, (m38_5 R (e 10) w) → Q (.exit 2) e w) (e : Env) (w : World) (h : m38_8 R K1 (e 1) (e 5) (e 10) (e 40) (e 41) (e 42) w) : W38 k38_8 Q e w := by
  refine seA ?_
  exact rgA 11 (fun e w => m38_9 R K1 (e 1) (e 5) (e 10) (e 40) (e 41) (e 42) (e 43) w) h fun e w h => then_N (s38_9 hN hX2 e w h)
theorem s38_7 (hN : ∀ e w, (m38_5 R (e 10) w) → Q .normal e w) (e : Env) (w : World) (h : m38_7 R (e 1) (e 5) (e 10) (e 40) (e 41) (e 42) w) : W38 k38_7 Q e w := by
  refine block_ok 2 (by kernel_rfl) ?_
  have hX2 : ∀ e w, (m38_5 R (e 10) w) → (inBlockE 2 Q) (.exit 2) e w := fun e w h => inBlock_same (Q := Q) 2 (hN e w h)
  refine loop_ok' (fun (e : Env) => (e 10, e 42)) [1, 5, 40, 41] (by kernel_rfl) (by kernel_rfl) h (fun K e' w' hk h' => ?_)
  have r1 : e' 1 = e 1 := hk 1 (by decide)
  have r5 : e' 5 = e 5 := hk 5 (by decide)
  have r40 : e' 40 = e 40 := hk 40 (by decide)
  have r41 : e' 41 = e 41 := hk 41 (by decide)
  have hX2 : ∀ e w, (m38_5 R (e 10) w) → (thenE (fun (e : Env) w => K ((e 10), (e 42)) w) (inBlockE 2 Q)) (.exit 2) e w := fun e w h => then_X (hX2 e w h)
  exact s38_8 (K1 := K) (fun _ _ h => then_N h) hX2 e' w' (by rw [r1, r5, r40, r41]; exact h')
theorem s38_4 (hR : hR38 R Q) (e : Env) (w : World) (h : m38_4 R (e 0) (e 1) (e 5) (e 10) w) : W38 k38_4 Q e w := by
  refine seA ?_
  have hN : ∀ e w, (m38_5 R (e 10) w) → (thenE (W38 k38_5 Q) Q) .normal e w := fun e w h => then_N (s38_5 hR e w h)
  refine seA ?_
  exact rgA 10 (fun e w => m38_7 R (e 1) (e 5) (e 10) (e 40) (e 41) (e 42) w) h fun e w h => then_N (s38_7 hN e w h)
theorem s38_3 (hR : hR38 R Q) (e : Env) (w : World) (h : m38_3 R (e 0) (e 1) (e 5) w) : W38 k38_3 Q e w := by
  refine seA ?_
  exact rgA 9 (fun e w => m38_4 R (e 0) (e 1) (e 5) (e 10) w) h fun e w h => then_N (s38_4 hR e w h)
theorem s38_18 {K1 : VP} (hN : ∀ e w, (K1 (e 18) w) → Q .normal e w) (hX0 : ∀ e w, (m38_3 R (e 0) (e 1) (e 5) w) → Q (.exit 0) e w) (e : Env) (w : World) (h : m38_18 R K1 (e 0) (e 1) (e 5) (e 16) (e 17) (e 18) (e 19) w) : W38 k38_18 Q e w := by
  refine seA ?_
  have hN : ∀ e w, (m38_19 R K1 (e 0) (e 1) (e 5) (e 16) (e 17) (e 18) w) → (thenE (W38 k38_19 Q) Q) .normal e w := fun e w h => then_N (s38_19 hN e w h)
  have hX0 : ∀ e w, (m38_3 R (e 0) (e 1) (e 5) w) → (thenE (W38 k38_19 Q) Q) (.exit 0) e w := fun e w h => then_X (hX0 e w h)
  refine coA (Operand.tmp 19) h (fun h1 => ?_) (fun h1 => ?_)
  · exact skA (hN _ _ h1)
  · exact exA 0 (hX0 _ _ h1)
theorem s38_17 {K1 : VP} (hN : ∀ e w, (K1 (e 18) w) → Q .normal e w) (hX0 : ∀ e w, (m38_3 R (e 0) (e 1) (e 5) w) → Q (.exit 0) e w) (e : Env) (w : World) (h : m38_17 R K1 (e 0) (e 1) (e 5) (e 16) (e 17) (e 18) w) : W38 k38_17 Q e w := by
  refine seA ?_
  exact rgA 3 (fun e w => m38_18 R K1 (e 0) (e 1) (e 5) (e 16) (e 17) (e 18) (e 19) w) h fun e w h => then_N (s38_18 hN hX0 e w h)
theorem s38_16 (hN : ∀ e w, (m38_3 R (e 0) (e 1) (e 5) w) → Q .normal e w) (e : Env) (w : World) (h : m38_16 R (e 0) (e 1) (e 5) (e 16) (e 17) (e 18) w) : W38 k38_16 Q e w := by
  refine block_ok 0 (by kernel_rfl) ?_
  have hX0 : ∀ e w, (m38_3 R (e 0) (e 1) (e 5) w) → (inBlockE 0 Q) (.exit 0) e w := fun e w h => inBlock_same (Q := Q) 0 (hN e w h)
  refine loop_ok' (fun (e : Env) => e 18) [0, 1, 5, 16, 17] (by kernel_rfl) (by kernel_rfl) h (fun K e' w' hk h' => ?_)
  have r0 : e' 0 = e 0 := hk 0 (by decide)
  have r1 : e' 1 = e 1 := hk 1 (by decide)
  have r5 : e' 5 = e 5 := hk 5 (by decide)
  have r16 : e' 16 = e 16 := hk 16 (by decide)
  have r17 : e' 17 = e 17 := hk 17 (by decide)
  have hX0 : ∀ e w, (m38_3 R (e 0) (e 1) (e 5) w) → (thenE (fun (e : Env) w => K (e 18) w) (inBlockE 0 Q)) (.exit 0) e w := fun e w h => then_X (hX0 e w h)
  exact s38_17 (K1 := K) (fun _ _ h => then_N h) hX0 e' w' (by rw [r0, r1, r5, r16, r17]; exact h')
theorem s38_2 (hR : hR38 R Q) (e : Env) (w : World) (h : m38_2 R (e 0) (e 1) (e 5) w) : W38 k38_2 Q e w := by
  refine seA ?_
  have hN : ∀ e w, (m38_3 R (e 0) (e 1) (e 5) w) → (thenE (W38 k38_3 Q) Q) .normal e w := fun e w h => then_N (s38_3 hR e w h)
  refine seA ?_
  exact rgA 2 (fun e w => m38_16 R (e 0) (e 1) (e 5) (e 16) (e 17) (e 18) w) h fun e w h => then_N (s38_16 hN e w h)
theorem s38_1 (hR : hR38 R Q) (e : Env) (w : World) (h : m38_1 R (e 0) (e 1) w) : W38 k38_1 Q e w := by
  refine seA ?_
  exact rgA 1 (fun e w => m38_2 R (e 0) (e 1) (e 5) w) h fun e w h => then_N (s38_2 hR e w h)
theorem s38_0 (hR : hR38 R Q) (e : Env) (w : World) (h : m38_0 R (e 0) (e 1) w) : W38 k38_0 Q e w := by
  refine seA ?_
  exact rgA 0 (fun e w => m38_1 R (e 0) (e 1) w) h fun e w h => then_N (s38_1 hR e w h)
abbrev m38 (R : VP) (l0 upto1 : Value) (w : World) : Prop := m38_0 R l0 upto1 w
theorem s38 (l0 upto1 : Value) {R : VP} {w : World} (h : m38 R l0 upto1 w) :
    Calls Tryz.prog 38 #[l0, upto1] w fun e w' => ∃ v, e = .returned v ∧ R v w' :=
  calls_of_cwp (st := (fun i => 0)) (c := k38_0) (by kernel_rfl) Tryz.func38 (by kernel_rfl) (Nat.le_of_ble_eq_true (by kernel_rfl)) (by kernel_rfl)
    (s38_0 (R := R) (Q := endE Tryz.prog Tryz.f38 R) (fun e w h => kcast (by kernel_rfl) h) (argsE #[l0, upto1]) w (kcast (by kernel_rfl) h))
def m12_4 (R : VP) (t0 : Value) (w : World) : Prop :=
  R t0 w
def m12_3 (R : VP) (l3 : Value) (w : World) : Prop :=
  anyDraw w fun w =>
  pureP Tryz.prog (Instr.sliceAt 22 l3 (some (vi 2)) none none) fun t23 =>
  callP Tryz.prog (fnV 38) #[l3, (vi 4)] w fun t21 w =>
  callP Tryz.prog (fnV 13) #[t21, t23] w fun t24 w =>
  condP t24
  (pureP Tryz.prog (Instr.sliceAt 22 l3 (some (vi 1)) none none) fun t29 =>
  callP Tryz.prog (fnV 38) #[l3, (vi 3)] w fun t27 w =>
  callP Tryz.prog (fnV 13) #[t27, t29] w fun t30 w =>
  pickP t24 t30 (Value.bool false) fun t31 =>
  m12_4 R t31 w)
  (pickP t24 undef (Value.bool false) fun t31 =>
  m12_4 R t31 w)
def m12_2 (R : VP) (counts1 window2 : Value) (w : World) : Prop :=
  valP Tryz.prog (Instr.build 56 #[(2, counts1)]) w fun t8 w =>
  valP Tryz.prog (Instr.build 58 #[(1, t8)]) w fun t9 w =>
  valP Tryz.prog (Instr.build 56 #[(0, (vi 7)), (2, window2)]) w fun t11 w =>
  valP Tryz.prog (Instr.build 58 #[(0, (vi 1)), (1, t11)]) w fun t12 w =>
  valP Tryz.prog (Instr.build 56 #[(2, counts1)]) w fun t14 w =>
  valP Tryz.prog (Instr.build 58 #[(0, (vi 2)), (1, t14)]) w fun t15 w =>
  valP Tryz.prog (Instr.build 56 #[(0, (vi 7)), (2, window2)]) w fun t17 w =>
  valP Tryz.prog (Instr.build 58 #[(0, (vi 3)), (1, t17)]) w fun t18 w =>
  valP Tryz.prog (Instr.buildSlice 22 4 #[(0, t9), (1, t12), (2, t15), (3, t18)]) w fun t19 w =>
  m12_3 R t19 w
def m12_1 (R : VP) (w : World) : Prop :=
  valP Tryz.prog (Instr.buildSlice 23 5 #[(0, (vi 0)), (1, (vi 1)), (2, (vi 0)), (3, (vi 0)), (4, (vi 1))]) w fun t4 w =>
  callP Tryz.prog (fnV 36) #[t4] w fun t5 w =>
  callP Tryz.prog (fnV 37) #[(vi 1)] w fun t6 w =>
  m12_2 R t5 t6 w
def m12_0 (R : VP) (w : World) : Prop :=
  m12_1 R w
abbrev W12 := cwp Tryz.prog (fun i => 0)
noncomputable def k12_0 := bodyOf Tryz.f12
noncomputable def k12_1 := c2 k12_0
noncomputable def k12_2 := c2 k12_1
noncomputable def k12_3 := c2 k12_2
noncomputable def k12_4 := c2 k12_3
abbrev hR12 (R : VP) (Q : EQ) : Prop := ∀ e w, (R (e 0) w) → Q .ret e w
theorem s12_4 (hR : hR12 R Q) (e : Env) (w : World) (h : m12_4 R (e 0) w) : W12 k12_4 Q e w := by
  exact reA (hR _ _ h)
theorem s12_3 (hR : hR12 R Q) (e : Env) (w : World) (h : m12_3 R (e 3) w) : W12 k12_3 Q e w := by
  refine seA ?_
  have hN : ∀ e w, (m12_4 R (e 0) w) → (thenE (W12 k12_4 Q) Q) .normal e w := fun e w h => then_N (s12_4 hR e w h)
  exact tree_ok 3 13 (bt 13 0) (.take 0 (bt 13 1) (.take 2 (bt 13 5) (.take 3 (bt 13 13) (.alt 1 (bt 13 15) (.alt 4 (bt 13 31) (.take 5 (bt 13 63) (.take 6 (bt 13 127) (.take 8 (bt 13 383) (.take 9 (bt 13 895) (.alt 7 (bt 13 1023) (.alt 10 (bt 13 2047) (.take 11 (bt 13 4095) (.take 12 (bt 13 8191) .done)) .stop) .stop))))) .stop) .stop)))) (fun e w => m12_4 R (e 0) w) (by kernel_rfl) (by kernel_rfl) (by kernel_rfl) (by kernel_rfl) (by kernel_rfl) (by kernel_rfl) (kcast (by kernel_rfl) h) hN (by kernel_rfl)
theorem s12_2 (hR : hR12 R Q) (e : Env) (w : World) (h : m12_2 R (e 1) (e 2) w) : W12 k12_2 Q e w := by
  refine seA ?_
  exact rgA 2 (fun e w => m12_3 R (e 3) w) h fun e w h => then_N (s12_3 hR e w h)
theorem s12_1 (hR : hR12 R Q) (e : Env) (w : World) (h : m12_1 R w) : W12 k12_1 Q e w := by
  refine seA ?_
  exact rgA 1 (fun e w => m12_2 R (e 1) (e 2) w) h fun e w h => then_N (s12_2 hR e w h)
theorem s12_0 (hR : hR12 R Q) (e : Env) (w : World) (h : m12_0 R w) : W12 k12_0 Q e w := by
  refine seA ?_
  exact rgA 0 (fun e w => m12_1 R w) h fun e w h => then_N (s12_1 hR e w h)
abbrev m12 (R : VP) (w : World) : Prop := m12_0 R w
theorem s12  {R : VP} {w : World} (h : m12 R  w) :
    Calls Tryz.prog 12 #[] w fun e w' => ∃ v, e = .returned v ∧ R v w' :=
  calls_of_cwp (st := (fun i => 0)) (c := k12_0) (by kernel_rfl) Tryz.func12 (by kernel_rfl) (Nat.le_of_ble_eq_true (by kernel_rfl)) (by kernel_rfl)
    (s12_0 (R := R) (Q := endE Tryz.prog Tryz.f12 R) (fun e w h => kcast (by kernel_rfl) h) (argsE #[]) w (kcast (by kernel_rfl) h))
def m36_8 (R : VP) (K1 : (Value × Value) → World → Prop) (l0 s3 i4 : Value) (w : World) : Prop :=
  valP Tryz.prog (binS BinOp.add 3 (tm 9) (ci 1) i4 (vi 1)) w fun t10 w =>
  K1 (s3, t10) w
def m36_7 (R : VP) (K1 : (Value × Value) → World → Prop) (l0 s3 i4 : Value) (w : World) : Prop :=
  valP Tryz.prog (Instr.indexAt 23 l0 i4) w fun t14 w =>
  valP Tryz.prog (Instr.loadAt 3 t14) w fun t15 w =>
  callP Tryz.prog (fnV 37) #[t15] w fun t16 w =>
  valP Tryz.prog (binS BinOp.add 9 (tm 11) (tm 16) s3 t16) w fun t17 w =>
  m36_8 R K1 l0 t17 i4 w
def m36_4 (R : VP) (t2 : Value) (w : World) : Prop :=
  R t2 w
def m36_3 (R : VP) (s3 : Value) (w : World) : Prop :=
  m36_4 R s3 w
def m36_9 (R : VP) (K1 : (Value × Value) → World → Prop) (l0 s3 i4 t8 : Value) (w : World) : Prop :=
  condP t8
  (m36_7 R K1 l0 s3 i4 w)
  (m36_3 R s3 w)
def m36_6 (R : VP) (K1 : (Value × Value) → World → Prop) (l0 s3 i4 : Value) (w : World) : Prop :=
  builtinP Tryz.prog Builtin.len #[23] 3 #[false] #[l0] w fun t7 w =>
  valP Tryz.prog (binS BinOp.lss 3 (tm 5) (tm 7) i4 t7) w fun t8 w =>
  m36_9 R K1 l0 s3 i4 t8 w
def m36_5 (R : VP) (l0 s3 i4 : Value) (w : World) : Prop :=
  loopP (fun (K1 : (Value × Value) → World → Prop) (s : Value × Value) w => m36_6 R K1 l0 s.1 s.2 w) (s3, i4) w
def m36_2 (R : VP) (l0 s3 : Value) (w : World) : Prop :=
  m36_5 R l0 s3 (vi 0) w
def m36_1 (R : VP) (l0 : Value) (w : World) : Prop :=
  m36_2 R l0 (Value.string ⟨#[]⟩) w
def m36_0 (R : VP) (l0 : Value) (w : World) : Prop :=
  m36_1 R l0 w
abbrev W36 := cwp Tryz.prog (fun i => 0)
noncomputable def k36_0 := bodyOf Tryz.f36
noncomputable def k36_1 := c2 k36_0
noncomputable def k36_2 := c2 k36_1
noncomputable def k36_3 := c2 k36_2
noncomputable def k36_4 := c2 k36_3
noncomputable def k36_5 := c2 (c1 k36_2)
noncomputable def k36_6 := c1 (c1 k36_5)
noncomputable def k36_7 := c2 k36_6
noncomputable def k36_8 := c2 k36_7
noncomputable def k36_9 := c2 (c1 k36_6)
theorem s36_8 {K1 : (Value × Value) → World → Prop} (hN : ∀ e w, (K1 ((e 3), (e 4)) w) → Q .normal e w) (e : Env) (w : World) (h : m36_8 R K1 (e 0) (e 3) (e 4) w) : W36 k36_8 Q e w := by
  exact rgA 4 (fun e w => K1 ((e 3), (e 4)) w) h hN
theorem s36_7 {K1 : (Value × Value) → World → Prop} (hN : ∀ e w, (K1 ((e 3), (e 4)) w) → Q .normal e w) (e : Env) (w : World) (h : m36_7 R K1 (e 0) (e 3) (e 4) w) : W36 k36_7 Q e w := by
  refine seA ?_
  have hN : ∀ e w, (m36_8 R K1 (e 0) (e 3) (e 4) w) → (thenE (W36 k36_8 Q) Q) .normal e w := fun e w h => then_N (s36_8 hN e w h)
  refine block_ok 1 (by kernel_rfl) ?_
  exact rgA 5 (fun e w => m36_8 R K1 (e 0) (e 3) (e 4) w) h fun e w h => block_N (hN e w h)
abbrev hR36 (R : VP) (Q : EQ) : Prop := ∀ e w, (R (e 2) w) → Q .ret e w
theorem s36_4 (hR : hR36 R Q) (e : Env) (w : World) (h : m36_4 R (e 2) w) : W36 k36_4 Q e w := by
  exact reA (hR _ _ h)
theorem s36_3 (hR : hR36 R Q) (e : Env) (w : World) (h : m36_3 R (e 3) w) : W36 k36_3 Q e w := by
  refine seA ?_
  exact rgA 6 (fun e w => m36_4 R (e 2) w) h fun e w h => then_N (s36_4 hR e w h)
theorem s36_9 {K1 : (Value × Value) → World → Prop} (hN : ∀ e w, (m36_7 R K1 (e 0) (e 3) (e 4) w) → Q .normal e w) (hX0 : ∀ e w, (m36_3 R (e 3) w) → Q (.exit 0) e w) (e : Env) (w : World) (h : m36_9 R K1 (e 0) (e 3) (e 4) (e 8) w) : W36 k36_9 Q e w := by
  refine coA (Operand.tmp 8) h (fun h1 => ?_) (fun h1 => ?_)
  · exact skA (hN _ _ h1)
  · exact exA 0 (hX0 _ _ h1)
theorem s36_6 {K1 : (Value × Value) → World → Prop} (hN : ∀ e w, (K1 ((e 3), (e 4)) w) → Q .normal e w) (hX0 : ∀ e w, (m36_3 R (e 3) w) → Q (.exit 0) e w) (e : Env) (w : World) (h : m36_6 R K1 (e 0) (e 3) (e 4) w) : W36 k36_6 Q e w := by
  refine seA ?_
  have hN : ∀ e w, (m36_7 R K1 (e 0) (e 3) (e 4) w) → (thenE (W36 k36_7 Q) Q) .normal e w := fun e w h => then_N (s36_7 hN e w h)
  have hX0 : ∀ e w, (m36_3 R (e 3) w) → (thenE (W36 k36_7 Q) Q) (.exit 0) e w := fun e w h => then_X (hX0 e w h)
  refine seA ?_
  exact rgA 3 (fun e w => m36_9 R K1 (e 0) (e 3) (e 4) (e 8) w) h fun e w h => then_N (s36_9 hN hX0 e w h)
theorem s36_5 (hN : ∀ e w, (m36_3 R (e 3) w) → Q .normal e w) (e : Env) (w : World) (h : m36_5 R (e 0) (e 3) (e 4) w) : W36 k36_5 Q e w := by
  refine block_ok 0 (by kernel_rfl) ?_
  have hX0 : ∀ e w, (m36_3 R (e 3) w) → (inBlockE 0 Q) (.exit 0) e w := fun e w h => inBlock_same (Q := Q) 0 (hN e w h)
  refine loop_ok' (fun (e : Env) => (e 3, e 4)) [0] (by kernel_rfl) (by kernel_rfl) h (fun K e' w' hk h' => ?_)
  have r0 : e' 0 = e 0 := hk 0 (by decide)
  have hX0 : ∀ e w, (m36_3 R (e 3) w) → (thenE (fun (e : Env) w => K ((e 3), (e 4)) w) (inBlockE 0 Q)) (.exit 0) e w := fun e w h => then_X (hX0 e w h)
  exact s36_6 (K1 := K) (fun _ _ h => then_N h) hX0 e' w' (by rw [r0]; exact h')
theorem s36_2 (hR : hR36 R Q) (e : Env) (w : World) (h : m36_2 R (e 0) (e 3) w) : W36 k36_2 Q e w := by
  refine seA ?_
  have hN : ∀ e w, (m36_3 R (e 3) w) → (thenE (W36 k36_3 Q) Q) .normal e w := fun e w h => then_N (s36_3 hR e w h)
  refine seA ?_
  exact rgA 2 (fun e w => m36_5 R (e 0) (e 3) (e 4) w) h fun e w h => then_N (s36_5 hN e w h)
theorem s36_1 (hR : hR36 R Q) (e : Env) (w : World) (h : m36_1 R (e 0) w) : W36 k36_1 Q e w := by
  refine seA ?_
  exact rgA 1 (fun e w => m36_2 R (e 0) (e 3) w) h fun e w h => then_N (s36_2 hR e w h)
theorem s36_0 (hR : hR36 R Q) (e : Env) (w : World) (h : m36_0 R (e 0) w) : W36 k36_0 Q e w := by
  refine seA ?_
  exact rgA 0 (fun e w => m36_1 R (e 0) w) h fun e w h => then_N (s36_1 hR e w h)
abbrev m36 (R : VP) (l0 : Value) (w : World) : Prop := m36_0 R l0 w
theorem s36 (l0 : Value) {R : VP} {w : World} (h : m36 R l0 w) :
    Calls Tryz.prog 36 #[l0] w fun e w' => ∃ v, e = .returned v ∧ R v w' :=
  calls_of_cwp (st := (fun i => 0)) (c := k36_0) (by kernel_rfl) Tryz.func36 (by kernel_rfl) (Nat.le_of_ble_eq_true (by kernel_rfl)) (by kernel_rfl)
    (s36_0 (R := R) (Q := endE Tryz.prog Tryz.f36 R) (fun e w h => kcast (by kernel_rfl) h) (argsE #[l0]) w (kcast (by kernel_rfl) h))
end Go.Proofs.YtcldjjmfpmkldaaGreatDoor.M
namespace Go.Proofs.YtcldjjmfpmkldaaGreatDoor.M
open Go.Proofs.YtcldjjmfpmkldaaGreatDoor.F Go.RowKit
set_option linter.unusedVariables false
set_option linter.unusedSimpArgs false
set_option maxRecDepth 100000
set_option maxHeartbeats 2000000
attribute [local irreducible] Res.cells Res.row Res.map Res.any World.cell? World.frozen? Instr.fieldAt Instr.loadAt Instr.storeAt Instr.indexAt Instr.lookup Instr.mapUpdate Instr.box Instr.build Instr.buildSlice Instr.extract Instr.alloc Instr.field Instr.index Instr.sliceAt Instr.makeSlice Instr.makeMap Instr.makeFunc binS Op.unary Sem.run
open Classical in
/-- those of the first n that are not needless. -/
noncomputable def cleanN (l : List Gt) (upto : Int) : Nat → List Gt
  | 0 => []
  | n + 1 => if h : n < l.length then (if Needless l n upto then cleanN l upto n else cleanN l upto n ++ [l[n]]) else cleanN l upto n
theorem cleanN_len (l : List Gt) (upto : Int) : ∀ n, (cleanN l upto n).length ≤ n
  | 0 => Nat.le_refl _
  | n + 1 => by
    have := cleanN_len l upto n
    unfold cleanN
    split
    · split
      · omega
      · rw [List.length_append]; simp; omega
    · omega
theorem cleanN_skip {l : List Gt} {upto : Int} {n : Nat} (h : Needless l n upto) : cleanN l upto (n + 1) = cleanN l upto n := by
  rw [cleanN, dif_pos h.1, if_pos h]
theorem cleanN_take {l : List Gt} {upto : Int} {n : Nat} (hn : n < l.length) (h : ¬ Needless l n upto) : cleanN l upto (n + 1) = cleanN l upto n ++ [l[n]] := by
  rw [cleanN, dif_pos hn, if_neg h]
section
variable {w0 w : World} {F : List Nat} {L : List Res} {l l2 : List Gt} {A A2 : Option Addr} {c c2 : Nat} {upto : Int}
theorem gt_ext {a b : Gt} : a = b ↔ a.off = b.off ∧ a.r.key = b.r.key ∧ a.r.time = b.r.time ∧ a.r.text = b.r.text := by
  obtain ⟨o, k, t, s⟩ := a
  obtain ⟨o2, k2, t2, s2⟩ := b
  simp
theorem samegot_ret (hm : l.length ≤ 1000000) (hm2 : l2.length ≤ 1000000) (hE : BG w0 F L A l) (hE2 : BG w0 F L A2 l2) (hS : St w0 F w L) : Ret Tryz.prog 13 #[.slice A l.length c, .slice A2 l2.length c2] w fun v w' => (∃ t, v = .bool t ∧ (t = true ↔ l = l2)) ∧ St w0 F w' L := by
  refine s13 _ _ ?_
  unfold m13 m13_0
  unfold m13_1
  refine builtin_ok (len22 _) ?_
  refine builtin_ok (len22 _) ?_
  refine valP_ok (ne3 _ _ _ _ _) ?_
  unfold m13_12
  refine cond_split (fun h => ?_) (fun h => ?_)
  · unfold m13_13
    exact ⟨⟨_, rfl, ⟨fun h => (by cases h), fun h1 => absurd (congrArg (fun l : List Gt => (l.length : Int)) h1) h⟩⟩, hS⟩
  · have hl : l.length = l2.length := by omega
    unfold m13_2 m13_5
    refine loop_in (fun u w' => ∃ i : Nat, u = .int .i64 (i : Int) ∧ i ≤ l.length ∧ (∀ j (h1 : j < l.length) (h2 : j < l2.length), j < i → l[j] = l2[j]) ∧ St w0 F w' L) (fun u _ => l.length - (intOf u).toNat) ⟨0, rfl, by omega, fun j _ _ h => by omega, hS⟩ ?_
    clear hS
    rintro u w ⟨i, rfl, hi, hno, hS⟩
    unfold m13_6
    refine builtin_ok (len22 _) ?_
    refine valP_ok (lss_ok _ _ _ _ _ _ _) ?_
    unfold m13_11
    refine cond_split (fun h1 => ?_) (fun h1 => ?_)
    · have hil : i < l.length := by omega
      have hil2 : i < l2.length := by omega
      obtain ⟨b, o, rfl⟩ := (hE.rd hS).some_ (by omega) (by omega)
      obtain ⟨b2, o2, rfl⟩ := (hE2.rd hS).some_ (by omega) (by omega)
      have p := g_at (hE.rd hS) hil
      have p2 := g_at (hE2.rd hS) hil2
      unfold m13_7
      refine valQ_ok (ix22 hil) ?_
      refine valQ_at (fun n => ld58 (cellD p.1 n) (cellD p.2.1 n) (cellD p.2.2.1 n) (cellD p.2.2.2 n)) ?_
      refine valQ_ok (ix22 hil2) ?_
      refine valQ_at (fun n => ld58 (cellD p2.1 n) (cellD p2.2.1 n) (cellD p2.2.2.1 n) (cellD p2.2.2.2 n)) ?_
      refine valQ_ok (ne58 _ _ _ _ _ _ _ _ _ _) ?_
      refine drawn_ok hS ?_
      intro w hS
      unfold m13_9
      refine cond_split (fun h2 => ?_) (fun h2 => ?_)
      · unfold m13_10
        refine ⟨⟨_, rfl, ⟨fun h => (by cases h), fun h3 => ?_⟩⟩, hS⟩
        subst h3
        exact absurd ⟨rfl, rfl, rfl, rfl⟩ h2
      · unfold m13_8
        refine valP_ok (add_ok _ _ _ (by omega) (by omega) _) ?_
        refine ⟨⟨i + 1, rfl, by omega, fun j h3 h4 h5 => ?_, hS⟩, by simp [intOf]; omega⟩
        rcases Nat.lt_or_ge j i with g | g
        · exact hno j h3 h4 g
        · obtain rfl : j = i := by omega
          exact gt_ext.2 (Classical.not_not.1 h2)
    · unfold m13_3 m13_4
      exact ⟨⟨_, rfl, ⟨fun _ => List.ext_getElem hl fun j h2 h3 => hno j h2 h3 (by omega), fun _ => rfl⟩⟩, hS⟩
end
end Go.Proofs.YtcldjjmfpmkldaaGreatDoor.M
namespace Go.Proofs.YtcldjjmfpmkldaaGreatDoor.M
open Go.Proofs.YtcldjjmfpmkldaaGreatDoor.F Go.RowKit
set_option linter.unusedVariables false
set_option linter.unusedSimpArgs false
set_option maxRecDepth 100000
set_option maxHeartbeats 2000000
attribute [local irreducible] Res.cells Res.row Res.map Res.any World.cell? World.frozen? Instr.fieldAt Instr.loadAt Instr.storeAt Instr.indexAt Instr.lookup Instr.mapUpdate Instr.box Instr.build Instr.buildSlice Instr.extract Instr.alloc Instr.field Instr.index Instr.sliceAt Instr.makeSlice Instr.makeMap Instr.makeFunc binS Op.unary Sem.run
theorem laidOutP : laidOutB Tryz.prog = true := by kernel_rfl
theorem wideR : (match Tryz.prog.underlying 56 with | some (.array _ _) | some (.struct _) => true | _ => false) = true := by rw [Tryz.underlying56]
theorem lawR : Go.Maps.Keyed Tryz.prog 56 := Go.Maps.Keyed.of_law (deep_law_laid laidOutP (m := 2) (by omega) (of_decide_eq_true (by kernel_rfl)) (by kernel_rfl) wideR)
theorem cells38 : Tryz.prog.cellsOf 56 = 3 := by kernel_rfl
theorem cells3 : Tryz.prog.cellsOf 3 = 1 := by kernel_rfl
theorem cells9 : Tryz.prog.cellsOf 9 = 1 := by kernel_rfl
theorem keyRB : Tryz.prog.keyType 56 = true := by kernel_rfl
theorem sizeTypes : ∃ m, Tryz.prog.types.size = m + 1 := by
  refine ⟨Tryz.prog.types.size - 1, ?_⟩
  have : decide (1 ≤ Tryz.prog.types.size) = true := by kernel_rfl
  have := of_decide_eq_true this
  omega
def RcOk (r : Rc) : Prop := (-9223372036854775808 ≤ r.key ∧ r.key ≤ 9223372036854775807) ∧ (-9223372036854775808 ≤ r.time ∧ r.time ≤ 9223372036854775807) ∧ r.text.size ≤ maxLen
theorem wfI {x : Int} (h : -9223372036854775808 ≤ x ∧ x ≤ 9223372036854775807) : (Lit.int .i64 x).wf = true := by
  simp only [Lit.wf, Bool.and_eq_true, decide_eq_true_eq]
  exact h
theorem keyRc {r : Rc} (h : RcOk r) : ∃ l, keyOf Tryz.prog 56 (rv r) = some l := by
  obtain ⟨m, hm⟩ := sizeTypes
  refine ⟨.string (keyBytes [.int .i64 r.key, .int .i64 r.time, .string r.text.data.toList]), ?_⟩
  unfold keyOf
  rw [Tryz.underlying56]
  simp only [keyRB, Bool.true_and]
  rw [if_pos (by simp [Value.formed, Tryz.underlying56, cells38]), hm]
  simp only [Program.keyLits, Tryz.underlying56, Value.cells, cells38, cells3, cells9, Tryz.underlying3, Tryz.underlying9]
  simp [wfI h.1, wfI h.2.1, h.2.2, cells3, cells9]
def Qual (l : List Gt) (upto : Int) (x : Rc) (j : Nat) : Prop := ∃ h : j < l.length, l[j].off < upto ∧ aboutR l[j].r = some x
open Classical in
noncomputable def lastI (l : List Gt) (upto : Int) (x : Rc) : Nat → Option Nat
  | 0 => none
  | i + 1 => if Qual l upto x i then some i else lastI l upto x i
theorem lastI_some {l : List Gt} {upto : Int} {x : Rc} : ∀ {n j}, lastI l upto x n = some j → j < n ∧ Qual l upto x j ∧ ∀ k, j < k → k < n → ¬ Qual l upto x k
  | 0, j, h => by cases h
  | n + 1, j, h => by
    unfold lastI at h
    split at h
    · obtain rfl := Option.some.inj h
      exact ⟨by omega, by assumption, fun k h1 h2 => by omega⟩
    · rename_i hq
      obtain ⟨h1, h2, h3⟩ := lastI_some h
      refine ⟨by omega, h2, fun k h4 h5 => ?_⟩
      rcases Nat.lt_or_ge k n with g | g
      · exact h3 k h4 g
      · obtain rfl : k = n := by omega
        exact hq
theorem lastI_none {l : List Gt} {upto : Int} {x : Rc} : ∀ {n}, lastI l upto x n = none → ∀ k, k < n → ¬ Qual l upto x k
  | 0, h, k, hk => by omega
  | n + 1, h, k, hk => by
    unfold lastI at h
    split at h
    · cases h
    · rename_i hq
      rcases Nat.lt_or_ge k n with g | g
      · exact lastI_none h k g
      · obtain rfl : k = n := by omega
        exact hq
theorem last_ne {l : List Gt} {upto : Int} {x : Rc} {i : Nat} (hi : i < l.length) (hq : Qual l upto x i) : ¬ ((lastI l upto x l.length).getD 0 = i) ↔ ∃ k, i < k ∧ Qual l upto x k := by
  cases h : lastI l upto x l.length with
  | none => exact absurd hq (lastI_none h i hi)
  | some j =>
    obtain ⟨h1, h2, h3⟩ := lastI_some h
    show ¬ j = i ↔ _
    constructor
    · intro hne
      refine ⟨j, ?_, h2⟩
      rcases Nat.lt_trichotomy j i with g | g | g
      · exact absurd hq (h3 i g hi)
      · exact absurd g hne
      · exact g
    · rintro ⟨k, hk, hqk⟩ rfl
      exact h3 k hk hqk.1 hqk
theorem kind_put2 : kindS (putS 2) = 2 := by
  unfold kindS
  rw [takeS_L, bytesN_putS]
  have h := takeL_put 2 [] (by omega) (by omega)
  rw [List.append_nil] at h
  rw [h]
  rfl
theorem needless_iff {l : List Gt} {upto : Int} {i : Nat} (hi : i < l.length) : Needless l i upto ↔ ∃ x, Qual l upto x i ∧ (¬ ((lastI l upto x l.length).getD 0 = i) ∨ l[i].r.text = putS 2) := by
  constructor
  · rintro ⟨h, h1, h2⟩
    rcases h2 with h2 | ⟨k, hk, h3, h4, h5⟩
    · have hk2 := kind_put2
      rw [← h2] at hk2
      obtain ⟨x, hx⟩ : ∃ x, aboutR l[i].r = some x := by
        unfold aboutR
        rw [hk2]
        exact ⟨_, rfl⟩
      exact ⟨x, ⟨hi, h1, hx⟩, .inr h2⟩
    · obtain ⟨x, hx1, hx2⟩ := (same_about _ _).1 h5
      have hq : Qual l upto x i := ⟨hi, h1, hx1⟩
      exact ⟨x, hq, .inl ((last_ne hi hq).2 ⟨k, h3, hk, h4, hx2⟩)⟩
  · rintro ⟨x, hq, h⟩
    refine ⟨hi, hq.2.1, ?_⟩
    rcases h with h | h
    · obtain ⟨k, h3, hk, h4, h5⟩ := (last_ne hi hq).1 h
      exact .inr ⟨k, hk, h3, h4, (same_about _ _).2 ⟨x, hq.2.2, h5⟩⟩
    · exact .inl h
abbrev mapR (b n : Nat) (M : Value → Option Value) : Res := Res.map Tryz.prog 56 (plainElem Tryz.prog 3) b n M
theorem plain3_apart : Elem.apart (plainElem (H := Unit) Tryz.prog 3) := fun u v d p q h1 h2 => by
  obtain ⟨a, rfl, e1, _⟩ := plainElem_int_inv Tryz.underlying3 h1
  obtain ⟨b, rfl, e2, _⟩ := plainElem_int_inv Tryz.underlying3 h2
  simp only [Prod.mk.injEq] at e1 e2
  have := e1.1.symm.trans e2.1
  simp only [DataW.lit.injEq, Lit.int.injEq] at this
  rw [this.2]
def MOk (l : List Gt) (upto : Int) (i : Nat) (M : Value → Option Value) : Prop := ∀ x, RcOk x → M (rv x) = (lastI l upto x i).map fun j => .int .i64 (j : Int)
def GtOk (g : Gt) : Prop := (-9223372036854775808 ≤ g.r.key ∧ g.r.key ≤ 9223372036854775807) ∧ -9223372036854775808 ≤ g.r.time ∧ g.r.time ≤ 9223372036854775807
theorem about_ok {g : Gt} (h : GtOk g) {x : Rc} (hx : aboutR g.r = some x) : RcOk x := by
  unfold aboutR at hx
  split at hx
  · cases hx
  · split at hx
    · obtain rfl := Option.some.inj hx
      refine ⟨?_, ?_, ?_⟩ <;> simp only
      · omega
      · omega
      · show (6 : Nat) ≤ maxLen
        unfold maxLen; omega
    · obtain rfl := Option.some.inj hx
      refine ⟨h.1, h.2, ?_⟩
      show (0 : Nat) ≤ maxLen
      omega
theorem rv_inj {a b : Rc} (h : rv a = rv b) : a = b := by
  obtain ⟨k, t, s⟩ := a
  obtain ⟨k2, t2, s2⟩ := b
  simp only [Value.agg.injEq, Array.mk.injEq, List.cons.injEq, Value.int.injEq, Value.string.injEq, true_and, and_true] at h
  obtain ⟨rfl, rfl, rfl⟩ := h
  rfl
theorem MOk.skip {l : List Gt} {upto : Int} {i : Nat} {M : Value → Option Value} (h : MOk l upto i M) (hn : ∀ x, ¬ Qual l upto x i) : MOk l upto (i + 1) M := fun x hx => by
  rw [lastI, if_neg (hn x)]
  exact h x hx
theorem MOk.put {l : List Gt} {upto : Int} {i : Nat} {M : Value → Option Value} (h : MOk l upto i M) {x : Rc} (hq : Qual l upto x i) : MOk l upto (i + 1) (updV M (rv x) (some (.int .i64 (i : Int)))) := fun y hy => by
  by_cases e : y = x
  · subst e
    rw [updV_same, lastI, if_pos hq]
    rfl
  · rw [updV_other (fun h => e (rv_inj h)), lastI, if_neg (fun h2 => e (Option.some.inj (h2.2.2.symm.trans hq.2.2)))]
    exact h y hy
section
variable {w0 w : World} {F : List Nat} {L : List Res} {l : List Gt} {A : Option Addr} {c : Nat} {upto : Int}
theorem clean_ret (hm : l.length ≤ 100000) (hg : ∀ g ∈ l, GtOk g) (hE : BG w0 F L A l) (hS : St w0 F w L) : Ret Tryz.prog 38 #[.slice A l.length c, .int .i64 upto] w fun v w' => ∃ A' c', v = .slice A' (cleanN l upto l.length).length c' ∧ St w0 F w' (grow A' c' (cleanN l upto l.length) :: L) := by
  refine s38 _ _ ?_
  unfold m38 m38_0 m38_1
  refine makeMap_ok 56 (plainElem Tryz.prog 3) hS ?_
  intro b w hS
  unfold m38_2
  refine builtin_ok (len22 _) ?_
  unfold m38_16
  refine loop_in (fun u w' => ∃ (i n : Nat) (M : Value → Option Value), u = .int .i64 (i : Int) ∧ i ≤ l.length ∧ n ≤ i ∧ MOk l upto i M ∧ St w0 F w' (mapR b n M :: L)) (fun u _ => l.length - (intOf u).toNat) ⟨0, 0, _, rfl, by omega, by omega, fun x hx => rfl, hS⟩ ?_
  clear hS
  rintro u w ⟨i, n, M, rfl, hi, hn, hM, hS⟩
  unfold m38_17
  refine valP_ok (lss_ok _ _ _ _ _ _ _) ?_
  unfold m38_18
  refine cond_split (fun h => ?_) (fun h => ?_)
  · have hil : i < l.length := by omega
    have hgi := hg _ (List.getElem_mem hil)
    obtain ⟨gb, o, rfl⟩ := (hE.rd1 hS).some_ (by omega) (by omega)
    have p := g_at (hE.rd1 hS) hil
    unfold m38_19
    refine valP_ok (ix22 hil _) ?_
    refine valP_ok (ld58 p.1 p.2.1 p.2.2.1 p.2.2.2) ?_
    refine new_ok (al58 _) hS ?_
    intro b7 w hS
    refine ss58 0 hS rfl rfl rfl rfl rfl ?_
    intro w hS
    simp only [List.set_cons_zero, List.set_cons_succ] at hS
    unfold m38_21
    refine valP_ok (fa58_1 _ _) ?_
    refine valP_ok (ld56 (hS.cell 0 rfl rfl) (hS.cell 0 rfl rfl) (hS.cell 0 rfl rfl)) ?_
    refine callR (by kernel_rfl) (about_ret (r := l[i].r) hS) ?_
    rintro _ w ⟨rfl, hS⟩
    refine valP_ok (extract_ok _ 0 rfl _) ?_
    refine valP_ok (extract_ok _ 1 rfl _) ?_
    refine new_ok (al56 _) hS ?_
    intro b8 w hS
    refine ss56 0 hS rfl rfl rfl rfl ?_
    intro w hS
    simp only [List.set_cons_zero, List.set_cons_succ] at hS
    have noq : aboutR l[i].r = none → ∀ x, ¬ Qual l upto x i := fun hn x hq => by
      have := hq.2.2
      rw [hn] at this
      cases this
    cases ha : aboutR l[i].r with
    | none =>
      unfold m38_22
      refine cond_f rfl ?_
      refine pick_f (by first | rfl | assumption) ?_
      unfold m38_23
      refine cond_f rfl ?_
      unfold m38_20
      refine valP_ok (add_ok _ _ _ (by omega) (by omega) _) ?_
      exact ⟨⟨i + 1, n, M, rfl, by omega, by omega, hM.skip (noq ha), hS.tail.tail⟩, by simp [intOf]; omega⟩
    | some x =>
      rw [ha] at hS
      obtain ⟨lk, hlk⟩ := keyRc (about_ok hgi ha)
      unfold m38_22
      refine cond_t rfl ?_
      refine valP_ok (fa58_0 _ _) ?_
      refine valP_ok (ld3 (hS.cell 1 rfl rfl)) ?_
      refine valP_ok (lss_ok _ _ _ _ _ _ _) ?_
      refine pick_t (by first | rfl | assumption) ?_
      unfold m38_23
      refine cond_split (fun h1 => ?_) (fun h1 => ?_)
      · refine ls56 0 hS rfl ?_
        refine mapUpdate_at 2 hS rfl lawR Tryz.underlying118 (by unfold maxLen; omega) hlk (plainElem_int Tryz.underlying3 (wfI (by omega))) ?_
        intro w hS
        simp only [List.set_cons_zero, List.set_cons_succ] at hS
        unfold m38_20
        refine valP_ok (add_ok _ _ _ (by omega) (by omega) _) ?_
        exact ⟨⟨i + 1, n + 1, _, rfl, by omega, by omega, hM.put ⟨hil, h1, ha⟩, hS.tail.tail⟩, by simp [intOf]; omega⟩
      · unfold m38_20
        refine valP_ok (add_ok _ _ _ (by omega) (by omega) _) ?_
        exact ⟨⟨i + 1, n, M, rfl, by omega, by omega, hM.skip (fun x hq => h1 hq.2.1), hS.tail.tail⟩, by simp [intOf]; omega⟩
  · obtain rfl : i = l.length := by omega
    unfold m38_3
    unfold m38_4
    refine builtin_ok (len22 _) ?_
    unfold m38_7
    refine loop_in (fun u w' => ∃ (i : Nat) (A' : Option Addr) (c' : Nat), u = (.slice A' (cleanN l upto i).length c', .int .i64 (i : Int)) ∧ i ≤ l.length ∧ St w0 F w' (grow A' c' (cleanN l upto i) :: mapR b n M :: L)) (fun u _ => l.length - (intOf u.2).toNat) ⟨0, none, 0, rfl, by omega, hS.row_nil 58 4⟩ ?_
    clear hS hi h
    rintro u w ⟨i, A', c', rfl, hi, hS⟩
    simp only
    have hlen := cleanN_len l upto i
    unfold m38_8
    refine valP_ok (lss_ok _ _ _ _ _ _ _) ?_
    unfold m38_9
    refine cond_split (fun h => ?_) (fun h => ?_)
    · have hil : i < l.length := by omega
      have hgi := hg _ (List.getElem_mem hil)
      obtain ⟨gb, o, rfl⟩ := ((hE.cons _).rd1 hS).some_ (by omega) (by omega)
      have p := g_at ((hE.cons _).rd1 hS) hil
      unfold m38_10
      refine valP_ok (ix22 hil _) ?_
      refine valP_ok (ld58 p.1 p.2.1 p.2.2.1 p.2.2.2) ?_
      refine new_ok (al58 _) hS ?_
      intro b12 w hS
      refine ss58 0 hS rfl rfl rfl rfl rfl ?_
      intro w hS
      simp only [List.set_cons_zero, List.set_cons_succ] at hS
      have leaf : ∀ (K1 : Value × Value → World → Prop), (∀ w' A' c', St w0 F w' (grow A' c' (cleanN l upto (i + 1)) :: mapR b n M :: L) → K1 (.slice A' (cleanN l upto (i + 1)).length c', .int .i64 ((i + 1 : Nat) : Int)) w') → ∀ t : Bool, (t = true ↔ Needless l i upto) → ∀ w ba (ra : Rc), St w0 F w (Res.cells ba 56 (encR ra) :: Res.cells b12 58 (encG l[i]) :: grow A' c' (cleanN l upto i) :: mapR b n M :: L) → m38_15 (fun v w' => ∃ A' c', v = .slice A' (cleanN l upto l.length).length c' ∧ St w0 F w' (grow A' c' (cleanN l upto l.length) :: L)) K1 (.int .i64 upto) (.map (some b)) (.slice A' (cleanN l upto i).length c') (.pointer (some ⟨b12, 0, none⟩)) (.slice (some ⟨gb, o, none⟩) l.length c) (.int .i64 (l.length : Int)) (.int .i64 (i : Int)) (.bool t) w := fun K1 hK t ht w ba ra hS => by
        unfold m38_15
        cases t with
        | true =>
          have hn := ht.1 rfl
          have h1 := hK w A' c' (by rw [cleanN_skip hn]; exact hS.tail.tail)
          rw [cleanN_skip hn] at h1
          refine cond_t rfl ?_
          unfold m38_11
          refine valP_ok (add_ok _ _ _ (by omega) (by omega) _) ?_
          exact h1
        | false =>
          have hn : ¬ Needless l i upto := fun h => by have := ht.2 h; cases this
          refine cond_f rfl ?_
          unfold m38_14
          refine ls58 1 hS rfl ?_
          refine newslice_ok (bs22_1 _) hS ?_
          intro b74 w hS
          refine append_one1 (enc := encG) 2 l[i] sl22 encG_len encG_one (by unfold maxLen; omega) (by omega) hS rfl ?_
          intro A' c' w' hS
          simp only [List.set_cons_zero, List.set_cons_succ] at hS
          have h1 := hK w' A' c' (by rw [cleanN_take hil hn]; exact hS.tail.tail)
          rw [cleanN_take hil hn] at h1
          unfold m38_11
          refine valP_ok (add_ok _ _ _ (by omega) (by omega) _) ?_
          exact h1
      unfold m38_12
      refine valP_ok (fa58_1 _ _) ?_
      refine valP_ok (ld56 (hS.cell 0 rfl rfl) (hS.cell 0 rfl rfl) (hS.cell 0 rfl rfl)) ?_
      refine callR (by kernel_rfl) (about_ret (r := l[i].r) hS) ?_
      rintro _ w ⟨rfl, hS⟩
      refine valP_ok (extract_ok _ 0 rfl _) ?_
      refine valP_ok (extract_ok _ 1 rfl _) ?_
      refine new_ok (al56 _) hS ?_
      intro b13 w hS
      refine ss56 0 hS rfl rfl rfl rfl ?_
      intro w hS
      simp only [List.set_cons_zero, List.set_cons_succ] at hS
      unfold m38_13
      refine valP_ok (fa58_0 _ _) ?_
      refine valP_ok (ld3 (hS.cell 1 rfl rfl)) ?_
      refine valP_ok (lss_ok _ _ _ _ _ _ _) ?_
      have noq : aboutR l[i].r = none → ¬ Needless l i upto := fun hn h => by
        obtain ⟨x, hq, _⟩ := (needless_iff hil).1 h
        have := hq.2.2
        rw [hn] at this
        cases this
      have fin : ∀ w' A' c', St w0 F w' (grow A' c' (cleanN l upto (i + 1)) :: mapR b n M :: L) → (∃ (i : Nat) (A'' : Option Addr) (c'' : Nat), (Value.slice A' (cleanN l upto (i + 1)).length c', Value.int .i64 ((i + 1 : Nat) : Int)) = (Value.slice A'' (cleanN l upto i).length c'', Value.int .i64 (i : Int)) ∧ i ≤ l.length ∧ St w0 F w' (grow A'' c'' (cleanN l upto i) :: mapR b n M :: L)) ∨ True := fun _ _ _ _ => .inr trivial
      clear fin
      refine cond_split (fun h1 => ?_) (fun h1 => ?_)
      · refine pick_dt (by first | assumption | omega) ?_
        cases ha : aboutR l[i].r with
        | none =>
          refine cond_f rfl ?_
          refine pick_f (by first | rfl | assumption) ?_
          exact leaf _ (fun w' A' c' hS => ⟨⟨i + 1, A', c', rfl, by omega, hS⟩, by simp [intOf]; omega⟩) false ⟨fun h => (by cases h), fun h => absurd h (noq ha)⟩ _ _ _ hS
        | some x =>
          rw [ha] at hS
          have hxo := about_ok hgi ha
          obtain ⟨lk, hlk⟩ := keyRc hxo
          have hq : Qual l upto x i := ⟨hil, h1, ha⟩
          have hnl : Needless l i upto ↔ (¬ ((lastI l upto x l.length).getD 0 = i) ∨ l[i].r.text = putS 2) := by
            rw [needless_iff hil]
            constructor
            · rintro ⟨y, hy, h⟩
              obtain rfl := Option.some.inj (hy.2.2.symm.trans ha)
              exact h
            · exact fun h => ⟨x, hq, h⟩
          refine cond_t rfl ?_
          refine ls56 0 hS rfl ?_
          have hmv : MapV Tryz.prog 56 (plainElem Tryz.prog 3) b n M w := by
            have h := hS.get 3 rfl
            unfold mapR Res.map at h
            exact h
          have hlook : (Instr.lookup 118 (.map (some b)) (rv x) false).run Tryz.prog w = .ok (.int .i64 ((lastI l upto x l.length).getD 0 : Nat)) w := by
            rw [hmv.lookup plain3_apart lawR Tryz.underlying118 (z := .int .i64 0) (by simp [go_sem]) (plainElem_int Tryz.underlying3 (wfI (by omega))) hlk, hM x hxo]
            cases lastI l upto x l.length <;> rfl
          refine valP_ok hlook ?_
          refine valP_ok (ne3 _ _ _ _ _) ?_
          refine cond_split (fun h2 => ?_) (fun h2 => ?_)
          · refine pick_dt (by first | assumption | omega) ?_
            refine pick_t (by first | rfl | assumption) ?_
            exact leaf _ (fun w' A' c' hS => ⟨⟨i + 1, A', c', rfl, by omega, hS⟩, by simp [intOf]; omega⟩) true ⟨fun _ => hnl.2 (.inl (by omega)), fun _ => rfl⟩ _ _ _ hS
          · refine valP_ok (fa58_1 _ _) ?_
            refine valP_ok (ld56 (hS.cell 1 rfl rfl) (hS.cell 1 rfl rfl) (hS.cell 1 rfl rfl)) ?_
            refine callR (by kernel_rfl) (gone_ret (r := l[i].r) hS) ?_
            rintro _ w ⟨rfl, hS⟩
            refine pick_df (by first | assumption | omega) ?_
            refine pick_t (by first | rfl | assumption) ?_
            refine leaf _ (fun w' A' c' hS => ⟨⟨i + 1, A', c', rfl, by omega, hS⟩, by simp [intOf]; omega⟩) _ ?_ _ _ _ hS
            rw [decide_eq_true_eq, hnl]
            exact ⟨.inr, fun h => h.resolve_left (by omega)⟩
      · refine pick_df (by first | assumption | omega) ?_
        refine cond_f rfl ?_
        refine pick_f (by first | rfl | assumption) ?_
        exact leaf _ (fun w' A' c' hS => ⟨⟨i + 1, A', c', rfl, by omega, hS⟩, by simp [intOf]; omega⟩) false ⟨fun h => (by cases h), fun h => absurd h.2.1 h1⟩ _ _ _ hS
    · obtain rfl : i = l.length := by omega
      unfold m38_5 m38_6
      exact ⟨_, _, rfl, St.mid (A := [_]) (B := [_]) hS⟩
end
def cutT (s : ByteArray) : ByteArray := if 600 < s.size then s.extract 0 600 else s
def cutG (g : Gt) : Gt := ⟨g.off, g.r.key, g.r.time, cutT g.r.text⟩
section
variable {w0 w : World} {F : List Nat} {L : List Res} {l : List Gt} {A : Option Addr} {c : Nat}
theorem some_main (hm : l.length ≤ 150) (hE : BG w0 F L A l) (hS : St w0 F w L) : m5_2 (fun v w' => ∃ A' c', v = .slice A' (l.map cutG).length c' ∧ St w0 F w' (grow A' c' (l.map cutG) :: L)) (.slice A l.length c) w := by
  unfold m5_2 m5_3 m5_6
  refine loop_in (fun u w' => ∃ (i : Nat) (A' : Option Addr) (c' : Nat), u = (.slice A' ((l.take i).map cutG).length c', .int .i64 (i : Int)) ∧ i ≤ l.length ∧ St w0 F w' (grow A' c' ((l.take i).map cutG) :: L)) (fun u _ => l.length - (intOf u.2).toNat) ⟨0, none, 0, rfl, by omega, hS.row_nil 58 4⟩ ?_
  clear hS
  rintro u w ⟨i, A', c', rfl, hi, hS⟩
  simp only
  have hlen : ((l.take i).map cutG).length = i := by rw [List.length_map, List.length_take]; omega
  unfold m5_7
  refine builtin_ok (len22 _) ?_
  refine valP_ok (lss_ok _ _ _ _ _ _ _) ?_
  unfold m5_13
  refine cond_split (fun h => ?_) (fun h => ?_)
  · have hil : i < l.length := by omega
    obtain ⟨gb, o, rfl⟩ := (hE.rd1 hS).some_ (by omega) (by omega)
    have p := g_at (hE.rd1 hS) hil
    have hnx : (l.take (i + 1)).map cutG = (l.take i).map cutG ++ [cutG l[i]] := by
      rw [List.take_succ_eq_append_getElem hil, List.map_append]
      rfl
    unfold m5_8
    refine valP_ok (ix22 hil _) ?_
    refine valP_ok (ld58 p.1 p.2.1 p.2.2.1 p.2.2.2) ?_
    refine new_ok (al58 _) hS ?_
    intro b5 w hS
    refine ss58 0 hS rfl rfl rfl rfl rfl ?_
    intro w hS
    simp only [List.set_cons_zero, List.set_cons_succ] at hS
    have leaf : ∀ (K1 : Value × Value → World → Prop), (∀ w' A' c', St w0 F w' (grow A' c' ((l.take (i + 1)).map cutG) :: L) → K1 (.slice A' ((l.take (i + 1)).map cutG).length c', .int .i64 ((i + 1 : Nat) : Int)) w') → ∀ w, St w0 F w (Res.cells b5 58 (encG (cutG l[i])) :: grow A' c' ((l.take i).map cutG) :: L) → m5_11 (fun v w' => ∃ A' c', v = .slice A' (l.map cutG).length c' ∧ St w0 F w' (grow A' c' (l.map cutG) :: L)) K1 (.slice (some ⟨gb, o, none⟩) l.length c) (.slice A' ((l.take i).map cutG).length c') (.int .i64 (i : Int)) (.pointer (some ⟨b5, 0, none⟩)) w := fun K1 hK w hS => by
      unfold m5_11
      refine ls58 0 hS rfl ?_
      refine newslice_ok (bs22_1 _) hS ?_
      intro b34 w hS
      refine append_one1 (enc := encG) 1 (cutG l[i]) sl22 encG_len encG_one (by unfold maxLen; omega) (by omega) hS rfl ?_
      intro A' c' w' hS
      simp only [List.set_cons_zero, List.set_cons_succ] at hS
      have h1 := hK w' A' c' (by rw [hnx]; exact hS.tail)
      rw [hnx] at h1
      unfold m5_9
      refine valP_ok (add_ok _ _ _ (by omega) (by omega) _) ?_
      exact h1
    unfold m5_10
    refine valP_ok (fa58_1 _ _) ?_
    refine valP_ok (fao56_2 _ _ _) ?_
    refine valP_ok (ld9 (hS.cell 0 rfl rfl)) ?_
    refine builtin_ok (len9 _) ?_
    refine valP_ok (gtr_ok _ _ _ _ _ _ _) ?_
    unfold m5_12
    refine cond_split (fun h1 => ?_) (fun h1 => ?_)
    · have e : cutG l[i] = ⟨l[i].off, l[i].r.key, l[i].r.time, l[i].r.text.extract 0 600⟩ := by
        unfold cutG cutT
        rw [if_pos (by omega)]
      refine valP_ok (fa58_1 _ _) ?_
      refine valP_ok (fao56_2 _ _ _) ?_
      refine valP_ok (ld9 (hS.cell 0 rfl rfl)) ?_
      refine valP_ok (sto (k := 600) _ (by omega)) ?_
      refine valP_ok (fa58_1 _ _) ?_
      refine valP_ok (fao56_2 _ _ _) ?_
      refine store_at (i := 3) 0 st9 hS rfl (by simp) rfl ?_
      intro w hS
      simp only [List.set_cons_zero, List.set_cons_succ] at hS
      exact leaf _ (fun w' A' c' hS => ⟨⟨i + 1, A', c', rfl, by omega, hS⟩, by simp [intOf]; omega⟩) _ (by rw [e]; exact hS)
    · have e : cutG l[i] = l[i] := by
        unfold cutG cutT
        rw [if_neg (by omega)]
      exact leaf _ (fun w' A' c' hS => ⟨⟨i + 1, A', c', rfl, by omega, hS⟩, by simp [intOf]; omega⟩) _ (by rw [e]; exact hS)
  · obtain rfl : i = l.length := by omega
    rw [List.take_length] at hS ⊢
    unfold m5_4 m5_5
    exact ⟨_, _, rfl, hS⟩
theorem some_ret (hc : l.length ≤ c) (hE : BG w0 F L A (l.take 150)) (hS : St w0 F w L) : Ret Tryz.prog 5 #[.slice A l.length c] w fun v w' => ∃ A' c', v = .slice A' ((l.take 150).map cutG).length c' ∧ St w0 F w' (grow A' c' ((l.take 150).map cutG) :: L) := by
  have hl : (l.take 150).length = min 150 l.length := List.length_take
  refine s5 _ ?_
  unfold m5 m5_0
  unfold m5_1
  refine builtin_ok (len22 _) ?_
  refine valP_ok (gtr_ok _ _ _ _ _ _ _) ?_
  unfold m5_14
  refine cond_split (fun h => ?_) (fun h => ?_)
  · refine valP_ok (sh22 (k := 150) (by omega) _) ?_
    have h1 := some_main (c := c) (by omega) hE hS
    rw [show (l.take 150).length = 150 by omega] at h1
    exact h1
  · have h1 := some_main (c := c) (by omega) hE hS
    rw [show (l.take 150).length = l.length by omega] at h1
    exact h1
end
theorem sadd (x y : Operand) {a b : ByteArray} (h : a.size + b.size ≤ 9223372036854775807) (w : World) : (binS .add 9 x y (.string a) (.string b)).run Tryz.prog w = .ok (.string (a ++ b)) w := by
  rw [binS_run _ _ _ _ _ _ (by kernel_rfl)]; simp [go_sem, binOp, h]
def allS (xs : List Int) : ByteArray := xs.foldl (fun s n => s ++ putS n) ⟨#[]⟩
def l4 (p q : ByteArray) : List Gt := [⟨0, 0, 0, p⟩, ⟨1, 7, 0, q⟩, ⟨2, 0, 0, p⟩, ⟨3, 7, 0, q⟩]
section
variable {p q : ByteArray}
theorem l4_2 (hp : kindS p = 0) (hq : kindS q = 1) (u : Int) : ¬ Needless (l4 p q) 2 u := by
  have np : p ≠ putS 2 := fun e => by rw [e, kind_put2] at hp; omega
  rintro ⟨_, _, h | ⟨k, hk, h1, h2, h3⟩⟩
  · exact np h
  · obtain rfl : k = 3 := by simp [l4] at hk; omega
    simp [l4, SameR, hp, hq] at h3
theorem l4_3 (hq : kindS q = 1) (u : Int) : ¬ Needless (l4 p q) 3 u := by
  have nq : q ≠ putS 2 := fun e => by rw [e, kind_put2] at hq; omega
  rintro ⟨_, _, h | ⟨k, hk, h1, h2, h3⟩⟩
  · exact nq h
  · simp [l4] at hk
    omega
theorem l4_0 (hp : kindS p = 0) {u : Int} (hu : 2 < u) : Needless (l4 p q) 0 u := ⟨by simp [l4], by simp [l4]; omega, .inr ⟨2, by simp [l4], by omega, by simp [l4]; omega, by simp [l4, SameR, hp]⟩⟩
theorem clean4 (hp : kindS p = 0) (hq : kindS q = 1) : cleanN (l4 p q) 4 4 = (l4 p q).drop 2 := by
  have n1 : Needless (l4 p q) 1 4 := ⟨by simp [l4], by simp [l4], .inr ⟨3, by simp [l4], by omega, by simp [l4], by simp [l4, SameR, hq]⟩⟩
  rw [cleanN_take (by simp [l4]) (l4_3 hq 4), cleanN_take (by simp [l4]) (l4_2 hp hq 4), cleanN_skip n1, cleanN_skip (l4_0 hp (by omega))]
  rfl
theorem clean3 (hp : kindS p = 0) (hq : kindS q = 1) : cleanN (l4 p q) 3 4 = (l4 p q).drop 1 := by
  have nq : q ≠ putS 2 := fun e => by rw [e, kind_put2] at hq; omega
  have n1 : ¬ Needless (l4 p q) 1 3 := by
    rintro ⟨_, _, h | ⟨k, hk, h1, h2, h3⟩⟩
    · exact nq h
    · rcases (by simp [l4] at hk; omega : k = 2 ∨ k = 3) with rfl | rfl
      · simp [l4, SameR, hp, hq] at h3
      · simp [l4] at h2
  rw [cleanN_take (by simp [l4]) (l4_3 hq 3), cleanN_take (by simp [l4]) (l4_2 hp hq 3), cleanN_take (by simp [l4]) n1, cleanN_skip (l4_0 hp (by omega))]
  rfl
end
theorem kind_head {s : ByteArray} {n : Int} {r : List Nat} (h : bytesN s = lebN (zz n) ++ r) (h0 : 0 ≤ n ∧ n ≤ 2) : kindS s = n := by
  unfold kindS
  rw [takeS_L, h, takeL_put n r (by omega) (by omega)]
  simp only [Option.map_some]
  rw [if_pos h0]
theorem kind_counts : kindS (allS [0, 1, 0, 0, 1]) = 0 := by
  refine kind_head (n := 0) (r := lebN (zz 1) ++ (lebN (zz 0) ++ (lebN (zz 0) ++ lebN (zz 1)))) ?_ (by omega)
  simp only [allS, List.foldl_cons, List.foldl_nil, bytesN_append, bytesN_putS, List.append_assoc]
  rfl
theorem kind_window : kindS (putS 1) = 1 := kind_head (n := 1) (r := []) (by rw [bytesN_putS, List.append_nil]) (by omega)
section
variable {w0 w : World} {F : List Nat} {L : List Res} {A : Option Addr} {c : Nat}
theorem putS_size {n : Int} (h : -9223372036854775808 ≤ n ∧ n ≤ 9223372036854775807) : (putS n).size ≤ 10 := by
  rw [← bytesN_length, bytesN_putS]
  exact lebN_len _ (zz_lt n h.1 h.2)
theorem fold_size {xs : List Int} (hx : ∀ x ∈ xs, -9223372036854775808 ≤ x ∧ x ≤ 9223372036854775807) (s : ByteArray) : (xs.foldl (fun s n => s ++ putS n) s).size ≤ s.size + 10 * xs.length := by
  induction xs generalizing s with
  | nil => simp
  | cons x xs ih =>
    have h1 := ih (fun y hy => hx y (.tail _ hy)) (s ++ putS x)
    have h2 := putS_size (hx x (.head _))
    rw [ByteArray.size_append] at h1
    rw [List.foldl_cons, List.length_cons]
    omega
theorem all_ret {xs : List Int} (hx : ∀ x ∈ xs, -9223372036854775808 ≤ x ∧ x ≤ 9223372036854775807) (hm : xs.length ≤ 1000) (hE : Bes w0 F L 1 A xs.length (xs.map (Value.int .i64))) (hS : St w0 F w L) : Ret Tryz.prog 36 #[.slice A xs.length c] w fun v w' => v = .string (allS xs) ∧ St w0 F w' L := by
  refine s36 _ ?_
  unfold m36 m36_0 m36_1 m36_2 m36_5
  refine loop_in (fun u w' => ∃ i : Nat, u = (.string (allS (xs.take i)), .int .i64 (i : Int)) ∧ i ≤ xs.length ∧ St w0 F w' L) (fun u _ => xs.length - (intOf u.2).toNat) ⟨0, rfl, by omega, hS⟩ ?_
  clear hS
  rintro u w ⟨i, rfl, hi, hS⟩
  simp only
  unfold m36_6
  refine builtin_ok (len23 _) ?_
  refine valP_ok (lss_ok _ _ _ _ _ _ _) ?_
  unfold m36_9
  refine cond_split (fun h => ?_) (fun h => ?_)
  · have hil : i < xs.length := by omega
    obtain ⟨gb, o, rfl⟩ := (hE.rd hS).some_ (by omega) (by omega)
    unfold m36_7
    refine valP_ok (ix23 hil _) ?_
    refine valP_ok (ld3 ((hE.rd hS).cell_ (u := .int .i64 xs[i]) (by simp [hil]))) ?_
    refine callR (by kernel_rfl) (rput_ret (hx _ (List.getElem_mem hil)) hS) ?_
    rintro _ w ⟨rfl, hS⟩
    have hsz := fold_size (xs := xs.take i) (fun x hx' => hx x (List.mem_of_mem_take hx')) ⟨#[]⟩
    have hps := putS_size (hx _ (List.getElem_mem hil))
    rw [List.length_take] at hsz
    have hz0 : (⟨#[]⟩ : ByteArray).size = 0 := rfl
    refine valP_ok (sadd _ _ (by unfold allS; omega) _) ?_
    unfold m36_8
    refine valP_ok (add_ok _ _ _ (by omega) (by omega) _) ?_
    refine ⟨⟨i + 1, ?_, by omega, hS⟩, by simp [intOf]; omega⟩
    unfold allS
    rw [List.take_succ_eq_append_getElem hil, List.foldl_append]
    rfl
  · obtain rfl : i = xs.length := by omega
    unfold m36_3 m36_4
    rw [List.take_length]
    exact ⟨rfl, hS⟩
theorem awake_ret (hS : St w0 F w L) : Ret Tryz.prog 12 #[] w fun v w' => v = .bool true ∧ St w0 F w' L := by
  refine s12 ?_
  unfold m12 m12_0
  unfold m12_1
  refine newslice_ok (bs23_5 rfl rfl rfl rfl rfl _) hS ?_
  intro b4 w hS
  refine callR (by kernel_rfl) (all_ret (xs := [0, 1, 0, 0, 1]) (by simp) (by simp) (Bes.of_cells 0 rfl rfl) hS) ?_
  rintro _ w ⟨rfl, hS⟩
  refine callR (by kernel_rfl) (rput_ret (by omega) hS) ?_
  rintro _ w ⟨rfl, hS⟩
  have hp := kind_counts
  have hq := kind_window
  generalize allS [0, 1, 0, 0, 1] = p at *
  generalize putS 1 = q at *
  unfold m12_2
  refine valP_ok (bd56_2 rfl _) ?_
  refine valP_ok (bd58_1 _) ?_
  refine valP_ok (bd56_0_2 rfl rfl _) ?_
  refine valP_ok (bd58_0_1 rfl _) ?_
  refine valP_ok (bd56_2 rfl _) ?_
  refine valP_ok (bd58_0_1 rfl _) ?_
  refine valP_ok (bd56_0_2 rfl rfl _) ?_
  refine valP_ok (bd58_0_1 rfl _) ?_
  refine newslice_ok (bs22_4 _) hS ?_
  intro b19 w hS
  have hB : BG w0 F (Res.cells b19 58 ((l4 p q).flatMap encG) :: Res.cells b4 3 [.int .i64 0, .int .i64 1, .int .i64 0, .int .i64 0, .int .i64 1] :: L) (some ⟨b19, 0, none⟩) (l4 p q) := Bes.of_cells 0 rfl rfl
  have hok : ∀ g ∈ l4 p q, GtOk g := by simp [l4, GtOk]
  unfold m12_3
  refine drawn_ok hS ?_
  intro w hS
  refine pureP_ok (fun w => so22 (A := some ⟨b19, 0, none⟩) (n := 4) (c := 4) (k := 2) (by omega) (by omega) w) ?_
  refine callR (by kernel_rfl) (clean_ret (l := l4 p q) (c := 4) (by simp [l4]) hok hB hS) ?_
  rintro _ w ⟨A1, c1, rfl, hS⟩
  refine callR (by kernel_rfl) (samegot_ret (l := cleanN (l4 p q) 4 4) (l2 := (l4 p q).drop 2) (c2 := 2) (A2 := some ⟨b19, 8, none⟩) (by rw [clean4 hp hq]; simp [l4]) (by simp [l4]) (Bes.of_row 0 rfl) (fun w L' hS hL => ((hB.cons _) w L' hS hL).dropS (c := 4) (k := 2) encG_len (by simp [l4]) (by simp [l4])) hS) ?_
  rintro _ w ⟨⟨t, rfl, ht⟩, hS⟩
  have ht := ht.2 (clean4 hp hq)
  subst ht
  refine cond_t rfl ?_
  refine pureP_ok (fun w => so22 (A := some ⟨b19, 0, none⟩) (n := 4) (c := 4) (k := 1) (by omega) (by omega) w) ?_
  refine callR (by kernel_rfl) (clean_ret (l := l4 p q) (c := 4) (by simp [l4]) hok (hB.cons _) hS) ?_
  rintro _ w ⟨A2, c2, rfl, hS⟩
  refine callR (by kernel_rfl) (samegot_ret (l := cleanN (l4 p q) 3 4) (l2 := (l4 p q).drop 1) (c2 := 3) (A2 := some ⟨b19, 4, none⟩) (by rw [clean3 hp hq]; simp [l4]) (by simp [l4]) (Bes.of_row 0 rfl) (fun w L' hS hL => (((hB.cons _).cons _) w L' hS hL).dropS (c := 4) (k := 1) encG_len (by simp [l4]) (by simp [l4])) hS) ?_
  rintro _ w ⟨⟨t, rfl, ht⟩, hS⟩
  have ht := ht.2 (clean3 hp hq)
  subst ht
  refine pick_t (by first | rfl | assumption) ?_
  unfold m12_4
  exact ⟨rfl, hS.tail.tail.tail.tail⟩
end
end Go.Proofs.YtcldjjmfpmkldaaGreatDoor.M
namespace Go.Proofs.YtcldjjmfpmkldaaGreatDoor.M
open Go.Proofs.YtcldjjmfpmkldaaGreatDoor.F
set_option linter.unusedVariables false
set_option maxRecDepth 100000
variable {R : VP} {Q : EQ}
def m127_5 (R : VP) (t2 : Value) (w : World) : Prop :=
  R t2 w
def m127_3 (R : VP) (t2 : Value) (w : World) : Prop :=
  R t2 w
def m127_2 (R : VP) (r0 : Value) (w : World) : Prop :=
  valP Tryz.prog (binS BinOp.shr 168 (tm 9) (Operand.const (Value.int IntKind.u64 1)) r0 (Value.int IntKind.u64 1)) w fun t10 w =>
  m127_3 R t10 w
def m127_4 (R : VP) (r0 t5 : Value) (w : World) : Prop :=
  condP t5
  (valP Tryz.prog (binS BinOp.shr 168 (tm 6) (Operand.const (Value.int IntKind.u64 1)) r0 (Value.int IntKind.u64 1)) w fun t7 w =>
  valP Tryz.prog (binS BinOp.xor 168 (tm 7) (Operand.const (Value.int IntKind.u32 2197175160)) t7 (Value.int IntKind.u32 2197175160)) w fun t8 w =>
  m127_5 R t8 w)
  (m127_2 R r0 w)
def m127_1 (R : VP) (r0 : Value) (w : World) : Prop :=
  valP Tryz.prog (binS BinOp.and 168 (tm 3) (Operand.const (Value.int IntKind.u32 1)) r0 (Value.int IntKind.u32 1)) w fun t4 w =>
  valP Tryz.prog (binS BinOp.eql 168 (tm 4) (Operand.const (Value.int IntKind.u32 1)) t4 (Value.int IntKind.u32 1)) w fun t5 w =>
  m127_4 R r0 t5 w
def m127_0 (R : VP) (r0 : Value) (w : World) : Prop :=
  m127_1 R r0 w
abbrev W127 := cwp Tryz.prog (fun i => 0)
noncomputable def k127_0 := bodyOf Tryz.f127
noncomputable def k127_1 := c2 k127_0
noncomputable def k127_2 := c2 k127_1
noncomputable def k127_3 := c2 k127_2
noncomputable def k127_4 := c2 (c1 k127_1)
noncomputable def k127_5 := c2 (c1 k127_4)
abbrev hR127 (R : VP) (Q : EQ) : Prop := ∀ e w, (R (e 2) w) → Q .ret e w
theorem s127_5 (hR : hR127 R Q) (e : Env) (w : World) (h : m127_5 R (e 2) w) : W127 k127_5 Q e w := by
  exact reA (hR _ _ h)
theorem s127_3 (hR : hR127 R Q) (e : Env) (w : World) (h : m127_3 R (e 2) w) : W127 k127_3 Q e w := by
  exact reA (hR _ _ h)
theorem s127_2 (hR : hR127 R Q) (e : Env) (w : World) (h : m127_2 R (e 0) w) : W127 k127_2 Q e w := by
  refine seA ?_
  exact rgA 3 (fun e w => m127_3 R (e 2) w) h fun e w h => then_N (s127_3 hR e w h)
theorem s127_4 (hN : ∀ e w, (m127_2 R (e 0) w) → Q .normal e w) (hR : hR127 R Q) (e : Env) (w : World) (h : m127_4 R (e 0) (e 5) w) : W127 k127_4 Q e w := by
  refine coA (Operand.tmp 5) h (fun h1 => ?_) (fun h1 => ?_)
  · refine seA ?_
    exact rgA 2 (fun e w => m127_5 R (e 2) w) h1 fun e w h => then_N (s127_5 hR e w h)
  · exact skA (hN _ _ h1)
theorem s127_1 (hR : hR127 R Q) (e : Env) (w : World) (h : m127_1 R (e 0) w) : W127 k127_1 Q e w := by
  refine seA ?_
  have hN : ∀ e w, (m127_2 R (e 0) w) → (thenE (W127 k127_2 Q) Q) .normal e w := fun e w h => then_N (s127_2 hR e w h)
  have hR : hR127 R (thenE (W127 k127_2 Q) Q) := fun e w h => then_R (hR e w h)
  refine seA ?_
  exact rgA 1 (fun e w => m127_4 R (e 0) (e 5) w) h fun e w h => then_N (s127_4 hN hR e w h)
theorem s127_0 (hR : hR127 R Q) (e : Env) (w : World) (h : m127_0 R (e 0) w) : W127 k127_0 Q e w := by
  refine seA ?_
  exact rgA 0 (fun e w => m127_1 R (e 0) w) h fun e w h => then_N (s127_1 hR e w h)
abbrev m127 (R : VP) (r0 : Value) (w : World) : Prop := m127_0 R r0 w
theorem s127 (r0 : Value) {R : VP} {w : World} (h : m127 R r0 w) :
    Calls Tryz.prog 127 #[r0] w fun e w' => ∃ v, e = .returned v ∧ R v w' :=
  calls_of_cwp (st := (fun i => 0)) (c := k127_0) (by kernel_rfl) Tryz.func127 (by kernel_rfl) (Nat.le_of_ble_eq_true (by kernel_rfl)) (by kernel_rfl)
    (s127_0 (R := R) (Q := endE Tryz.prog Tryz.f127 R) (fun e w h => kcast (by kernel_rfl) h) (argsE #[r0]) w (kcast (by kernel_rfl) h))
def m109_16 (R : VP) (K1 : (Value × Value) → World → Prop) (K2 : (Value × Value) → World → Prop) (s1 r5 t10 t11 t20 : Value) (w : World) : Prop :=
  valP Tryz.prog (binS BinOp.add 3 (tm 20) (ci 1) t20 (vi 1)) w fun t24 w =>
  K2 (r5, t24) w
def m109_15 (R : VP) (K1 : (Value × Value) → World → Prop) (K2 : (Value × Value) → World → Prop) (s1 r5 t10 t11 t20 : Value) (w : World) : Prop :=
  callP Tryz.prog (fnV 127) #[r5] w fun t23 w =>
  m109_16 R K1 K2 s1 t23 t10 t11 t20 w
def m109_9 (R : VP) (K1 : (Value × Value) → World → Prop) (s1 r5 t10 t11 : Value) (w : World) : Prop :=
  valP Tryz.prog (binS BinOp.add 3 (tm 11) (ci 1) t11 (vi 1)) w fun t25 w =>
  K1 (r5, t25) w
def m109_14 (R : VP) (K1 : (Value × Value) → World → Prop) (K2 : (Value × Value) → World → Prop) (s1 r5 t10 t11 t20 t21 : Value) (w : World) : Prop :=
  condP t21
  (m109_15 R K1 K2 s1 r5 t10 t11 t20 w)
  (m109_9 R K1 s1 r5 t10 t11 w)
def m109_13 (R : VP) (K1 : (Value × Value) → World → Prop) (K2 : (Value × Value) → World → Prop) (s1 r5 t10 t11 t20 : Value) (w : World) : Prop :=
  valP Tryz.prog (binS BinOp.lss 3 (tm 20) (ci 8) t20 (vi 8)) w fun t21 w =>
  m109_14 R K1 K2 s1 r5 t10 t11 t20 t21 w
def m109_12 (R : VP) (K1 : (Value × Value) → World → Prop) (s1 r5 t10 t11 t20 : Value) (w : World) : Prop :=
  loopP (fun (K2 : (Value × Value) → World → Prop) (s : Value × Value) w => m109_13 R K1 K2 s1 s.1 t10 t11 s.2 w) (r5, t20) w
def m109_11 (R : VP) (K1 : (Value × Value) → World → Prop) (s1 r5 t10 t11 : Value) (w : World) : Prop :=
  m109_12 R K1 s1 r5 t10 t11 (vi 0) w
def m109_10 (R : VP) (K1 : (Value × Value) → World → Prop) (s1 r5 i6 t10 t11 : Value) (w : World) : Prop :=
  valP Tryz.prog (Instr.index 9 s1 i6) w fun t17 w =>
  valP Tryz.prog (convert 5 168 t17) w fun t18 w =>
  valP Tryz.prog (binS BinOp.xor 168 (tm 14) (tm 18) r5 t18) w fun t19 w =>
  m109_11 R K1 s1 t19 t10 t11 w
def m109_8 (R : VP) (K1 : (Value × Value) → World → Prop) (s1 r5 t10 t11 : Value) (w : World) : Prop :=
  m109_10 R K1 s1 r5 t11 t10 t11 w
def m109_4 (R : VP) (t4 : Value) (w : World) : Prop :=
  R t4 w
def m109_3 (R : VP) (r5 : Value) (w : World) : Prop :=
  valP Tryz.prog (Op.unary UnOp.xor r5) w fun t27 w =>
  m109_4 R t27 w
def m109_7 (R : VP) (K1 : (Value × Value) → World → Prop) (s1 r5 t10 t11 t12 : Value) (w : World) : Prop :=
  condP t12
  (m109_8 R K1 s1 r5 t10 t11 w)
  (m109_3 R r5 w)
def m109_6 (R : VP) (K1 : (Value × Value) → World → Prop) (s1 r5 t10 t11 : Value) (w : World) : Prop :=
  valP Tryz.prog (binS BinOp.lss 3 (tm 11) (tm 10) t11 t10) w fun t12 w =>
  m109_7 R K1 s1 r5 t10 t11 t12 w
def m109_5 (R : VP) (s1 r5 t10 t11 : Value) (w : World) : Prop :=
  loopP (fun (K1 : (Value × Value) → World → Prop) (s : Value × Value) w => m109_6 R K1 s1 s.1 t10 s.2 w) (r5, t11) w
def m109_2 (R : VP) (s1 r5 : Value) (w : World) : Prop :=
  builtinP Tryz.prog Builtin.len #[9] 3 #[false] #[s1] w fun t10 w =>
  m109_5 R s1 r5 t10 (vi 0) w
def m109_1 (R : VP) (c0 s1 : Value) (w : World) : Prop :=
  valP Tryz.prog (Op.unary UnOp.xor c0) w fun t8 w =>
  m109_2 R s1 t8 w
def m109_0 (R : VP) (c0 s1 : Value) (w : World) : Prop :=
  m109_1 R c0 s1 w
abbrev W109 := cwp Tryz.prog (fun i => 0)
noncomputable def k109_0 := bodyOf Tryz.f109
noncomputable def k109_1 := c2 k109_0
noncomputable def k109_2 := c2 k109_1
noncomputable def k109_3 := c2 k109_2
noncomputable def k109_4 := c2 k109_3
noncomputable def k109_5 := c2 (c1 k109_2)
noncomputable def k109_6 := c1 (c1 k109_5)
noncomputable def k109_7 := c2 k109_6
noncomputable def k109_8 := c2 k109_7
noncomputable def k109_9 := c2 k109_8
noncomputable def k109_10 := c2 (c1 (c1 k109_8))
noncomputable def k109_11 := c2 k109_10
noncomputable def k109_12 := c2 k109_11
noncomputable def k109_13 := c1 (c1 k109_12)
noncomputable def k109_14 := c2 k109_13
noncomputable def k109_15 := c2 k109_14
noncomputable def k109_16 := c2 k109_15
theorem s109_16 {K1 : (Value × Value) → World → Prop} {K2 : (Value × Value) → World → Prop} (hN : ∀ e w, (K2 ((e 5), (e 20)) w) → Q .normal e w) (e : Env) (w : World) (h : m109_16 R K1 K2 (e 1) (e 5) (e 10) (e 11) (e 20) w) : W109 k109_16 Q e w := by
  exact rgA 9 (fun e w => K2 ((e 5), (e 20)) w) h hN
theorem s109_15 {K1 : (Value × Value) → World → Prop} {K2 : (Value × Value) → World → Prop} (hN : ∀ e w, (K2 ((e 5), (e 20)) w) → Q .normal e w) (e : Env) (w : World) (h : m109_15 R K1 K2 (e 1) (e 5) (e 10) (e 11) (e 20) w) : W109 k109_15 Q e w := by
  refine seA ?_
  have hN : ∀ e w, (m109_16 R K1 K2 (e 1) (e 5) (e 10) (e 11) (e 20) w) → (thenE (W109 k109_16 Q) Q) .normal e w := fun e w h => then_N (s109_16 hN e w h)
  refine block_ok 3 (by kernel_rfl) ?_
  exact rgA 8 (fun e w => m109_16 R K1 K2 (e 1) (e 5) (e 10) (e 11) (e 20) w) h fun e w h => block_N (hN e w h)
theorem s109_9 {K1 : (Value × Value) → World → Prop} (hN : ∀ e w, (K1 ((e 5), (e 11)) w) → Q .normal e w) (e : Env) (w : World) (h : m109_9 R K1 (e 1) (e 5) (e 10) (e 11) w) : W109 k109_9 Q e w := by
  exact rgA 10 (fun e w => K1 ((e 5), (e 11)) w) h hN
theorem s109_14 {K1 : (Value × Value) → World → Prop} {K2 : (Value × Value) → World → Prop} (hN : ∀ e w, (K2 ((e 5), (e 20)) w) → Q .normal e w) (hX2 : ∀ e w, (m109_9 R K1 (e 1) (e 5) (e 10) (e 11) w) → Q (.exit 2) e w) (e : Env) (w : World) (h : m109_14 R K1 K2 (e 1) (e 5) (e 10) (e 11) (e 20) (e 21) w) : W109 k109_14 Q e w := by
  refine seA ?_
  have hN : ∀ e w, (m109_15 R K1 K2 (e 1) (e 5) (e 10) (e 11) (e 20) w) → (thenE (W109 k109_15 Q) Q) .normal e w := fun e w h => then_N (s109_15 hN e w h)
  have hX2 : ∀ e w, (m109_9 R K1 (e 1) (e 5) (e 10) (e 11) w) → (thenE (W109 k109_15 Q) Q) (.exit 2) e w := fun e w h => then_X (hX2 e w h)
  refine coA (Operand.tmp 21) h (fun h1 => ?_) (fun h1 => ?_)
  · exact skA (hN _ _ h1)
  · exact exA 2 (hX2 _ _ h1)
theorem s109_13 {K1 : (Value × Value) → World → Prop} {K2 : (Value × Value) → World → Prop} (hN : ∀ e w, (K2 ((e 5), (e 20)) w) → Q .normal e w) (hX2 : ∀ e w, (m109_9 R K1 (e 1) (e 5) (e 10) (e 11) w) → Q (.exit 2) e w) (e : Env) (w : World) (h : m109_13 R K1 K2 (e 1) (e 5) (e 10) (e 11) (e 20) w) : W109 k109_13 Q e w := by
  refine seA ?_
  exact rgA 7 (fun e w => m109_14 R K1 K2 (e 1) (e 5) (e 10) (e 11) (e 20) (e 21) w) h fun e w h => then_N (s109_14 hN hX2 e w h)
theorem s109_12 {K1 : (Value × Value) → World → Prop} (hN : ∀ e w, (m109_9 R K1 (e 1) (e 5) (e 10) (e 11) w) → Q .normal e w) (e : Env) (w : World) (h : m109_12 R K1 (e 1) (e 5) (e 10) (e 11) (e 20) w) : W109 k109_12 Q e w := by
  refine block_ok 2 (by kernel_rfl) ?_
  have hX2 : ∀ e w, (m109_9 R K1 (e 1) (e 5) (e 10) (e 11) w) → (inBlockE 2 Q) (.exit 2) e w := fun e w h => inBlock_same (Q := Q) 2 (hN e w h)
  refine loop_ok' (fun (e : Env) => (e 5, e 20)) [1, 10, 11] (by kernel_rfl) (by kernel_rfl) h (fun K e' w' hk h' => ?_)
  have r1 : e' 1 = e 1 := hk 1 (by decide)
  have r10 : e' 10 = e 10 := hk 10 (by decide)
  have r11 : e' 11 = e 11 := hk 11 (by decide)
  have hX2 : ∀ e w, (m109_9 R K1 (e 1) (e 5) (e 10) (e 11) w) → (thenE (fun (e : Env) w => K ((e 5), (e 20)) w) (inBlockE 2 Q)) (.exit 2) e w := fun e w h => then_X (hX2 e w h)
  exact s109_13 (K1 := K1) (K2 := K) (fun _ _ h => then_N h) hX2 e' w' (by rw [r1, r10, r11]; exact h')
theorem s109_11 {K1 : (Value × Value) → World → Prop} (hN : ∀ e w, (m109_9 R K1 (e 1) (e 5) (e 10) (e 11) w) → Q .normal e w) (e : Env) (w : World) (h : m109_11 R K1 (e 1) (e 5) (e 10) (e 11) w) : W109 k109_11 Q e w := by
  refine seA ?_
  exact rgA 6 (fun e w => m109_12 R K1 (e 1) (e 5) (e 10) (e 11) (e 20) w) h fun e w h => then_N (s109_12 hN e w h)
theorem s109_10 {K1 : (Value × Value) → World → Prop} (hN : ∀ e w, (m109_9 R K1 (e 1) (e 5) (e 10) (e 11) w) → Q .normal e w) (e : Env) (w : World) (h : m109_10 R K1 (e 1) (e 5) (e 6) (e 10) (e 11) w) : W109 k109_10 Q e w := by
  refine seA ?_
  exact rgA 5 (fun e w => m109_11 R K1 (e 1) (e 5) (e 10) (e 11) w) h fun e w h => then_N (s109_11 hN e w h)
theorem s109_8 {K1 : (Value × Value) → World → Prop} (hN : ∀ e w, (K1 ((e 5), (e 11)) w) → Q .normal e w) (e : Env) (w : World) (h : m109_8 R K1 (e 1) (e 5) (e 10) (e 11) w) : W109 k109_8 Q e w := by
  refine seA ?_
  have hN : ∀ e w, (m109_9 R K1 (e 1) (e 5) (e 10) (e 11) w) → (thenE (W109 k109_9 Q) Q) .normal e w := fun e w h => then_N (s109_9 hN e w h)
  refine block_ok 1 (by kernel_rfl) ?_
  have hN : ∀ e w, (m109_9 R K1 (e 1) (e 5) (e 10) (e 11) w) → (inBlockE 1 (thenE (W109 k109_9 Q) Q)) .normal e w := fun e w h => block_N (hN e w h)
  refine seA ?_
  exact rgA 4 (fun e w => m109_10 R K1 (e 1) (e 5) (e 6) (e 10) (e 11) w) h fun e w h => then_N (s109_10 (R := R) (Q := (inBlockE 1 (thenE (W109 k109_9 Q) Q))) hN e w h)
abbrev hR109 (R : VP) (Q : EQ) : Prop := ∀ e w, (R (e 4) w) → Q .ret e w
theorem s109_4 (hR : hR109 R Q) (e : Env) (w : World) (h : m109_4 R (e 4) w) : W109 k109_4 Q e w := by
  exact reA (hR _ _ h)
theorem s109_3 (hR : hR109 R Q) (e : Env) (w : World) (h : m109_3 R (e 5) w) : W109 k109_3 Q e w := by
  refine seA ?_
  exact rgA 11 (fun e w => m109_4 R (e 4) w) h fun e w h => then_N (s109_4 hR e w h)
theorem s109_7 {K1 : (Value × Value) → World → Prop} (hN : ∀ e w, (K1 ((e 5), (e 11)) w) → Q .normal e w) (hX0 : ∀ e w, (m109_3 R (e 5) w) → Q (.exit 0) e w) (e : Env) (w : World) (h : m109_7 R K1 (e 1) (e 5) (e 10) (e 11) (e 12) w) : W109 k109_7 Q e w := by
  refine seA ?_
  have hN : ∀ e w, (m109_8 R K1 (e 1) (e 5) (e 10) (e 11) w) → (thenE (W109 k109_8 Q) Q) .normal e w := fun e w h => then_N (s109_8 hN e w h)
  have hX0 : ∀ e w, (m109_3 R (e 5) w) → (thenE (W109 k109_8 Q) Q) (.exit 0) e w := fun e w h => then_X (hX0 e w h)
  refine coA (Operand.tmp 12) h (fun h1 => ?_) (fun h1 => ?_)
  · exact skA (hN _ _ h1)
  · exact exA 0 (hX0 _ _ h1)
theorem s109_6 {K1 : (Value × Value) → World → Prop} (hN : ∀ e w, (K1 ((e 5), (e 11)) w) → Q .normal e w) (hX0 : ∀ e w, (m109_3 R (e 5) w) → Q (.exit 0) e w) (e : Env) (w : World) (h : m109_6 R K1 (e 1) (e 5) (e 10) (e 11) w) : W109 k109_6 Q e w := by
  refine seA ?_
  exact rgA 3 (fun e w => m109_7 R K1 (e 1) (e 5) (e 10) (e 11) (e 12) w) h fun e w h => then_N (s109_7 hN hX0 e w h)
theorem s109_5 (hN : ∀ e w, (m109_3 R (e 5) w) → Q .normal e w) (e : Env) (w : World) (h : m109_5 R (e 1) (e 5) (e 10) (e 11) w) : W109 k109_5 Q e w := by
  refine block_ok 0 (by kernel_rfl) ?_
  have hX0 : ∀ e w, (m109_3 R (e 5) w) → (inBlockE 0 Q) (.exit 0) e w := fun e w h => inBlock_same (Q := Q) 0 (hN e w h)
  refine loop_ok' (fun (e : Env) => (e 5, e 11)) [1, 10] (by kernel_rfl) (by kernel_rfl) h (fun K e' w' hk h' => ?_)
  have r1 : e' 1 = e 1 := hk 1 (by decide)
  have r10 : e' 10 = e 10 := hk 10 (by decide)
  have hX0 : ∀ e w, (m109_3 R (e 5) w) → (thenE (fun (e : Env) w => K ((e 5), (e 11)) w) (inBlockE 0 Q)) (.exit 0) e w := fun e w h => then_X (hX0 e w h)
  exact s109_6 (K1 := K) (fun _ _ h => then_N h) hX0 e' w' (by rw [r1, r10]; exact h')
theorem s109_2 (hR : hR109 R Q) (e : Env) (w : World) (h : m109_2 R (e 1) (e 5) w) : W109 k109_2 Q e w := by
  refine seA ?_
  have hN : ∀ e w, (m109_3 R (e 5) w) → (thenE (W109 k109_3 Q) Q) .normal e w := fun e w h => then_N (s109_3 hR e w h)
  refine seA ?_
  exact rgA 2 (fun e w => m109_5 R (e 1) (e 5) (e 10) (e 11) w) h fun e w h => then_N (s109_5 hN e w h)
theorem s109_1 (hR : hR109 R Q) (e : Env) (w : World) (h : m109_1 R (e 0) (e 1) w) : W109 k109_1 Q e w := by
  refine seA ?_
  exact rgA 1 (fun e w => m109_2 R (e 1) (e 5) w) h fun e w h => then_N (s109_2 hR e w h)
theorem s109_0 (hR : hR109 R Q) (e : Env) (w : World) (h : m109_0 R (e 0) (e 1) w) : W109 k109_0 Q e w := by
  refine seA ?_
  exact rgA 0 (fun e w => m109_1 R (e 0) (e 1) w) h fun e w h => then_N (s109_1 hR e w h)
abbrev m109 (R : VP) (c0 s1 : Value) (w : World) : Prop := m109_0 R c0 s1 w
theorem s109 (c0 s1 : Value) {R : VP} {w : World} (h : m109 R c0 s1 w) :
    Calls Tryz.prog 109 #[c0, s1] w fun e w' => ∃ v, e = .returned v ∧ R v w' :=
  calls_of_cwp (st := (fun i => 0)) (c := k109_0) (by kernel_rfl) Tryz.func109 (by kernel_rfl) (Nat.le_of_ble_eq_true (by kernel_rfl)) (by kernel_rfl)
    (s109_0 (R := R) (Q := endE Tryz.prog Tryz.f109 R) (fun e w h => kcast (by kernel_rfl) h) (argsE #[c0, s1]) w (kcast (by kernel_rfl) h))
def m90_2 (R : VP) (t2 : Value) (w : World) : Prop :=
  R t2 w
def m90_1 (R : VP) (s0 : Value) (w : World) : Prop :=
  callP Tryz.prog (fnV 109) #[(Value.int IntKind.u32 0), s0] w fun t4 w =>
  m90_2 R t4 w
def m90_0 (R : VP) (s0 : Value) (w : World) : Prop :=
  m90_1 R s0 w
abbrev W90 := cwp Tryz.prog (fun i => 0)
noncomputable def k90_0 := bodyOf Tryz.f90
noncomputable def k90_1 := c2 k90_0
noncomputable def k90_2 := c2 k90_1
abbrev hR90 (R : VP) (Q : EQ) : Prop := ∀ e w, (R (e 2) w) → Q .ret e w
theorem s90_2 (hR : hR90 R Q) (e : Env) (w : World) (h : m90_2 R (e 2) w) : W90 k90_2 Q e w := by
  exact reA (hR _ _ h)
theorem s90_1 (hR : hR90 R Q) (e : Env) (w : World) (h : m90_1 R (e 0) w) : W90 k90_1 Q e w := by
  refine seA ?_
  exact rgA 1 (fun e w => m90_2 R (e 2) w) h fun e w h => then_N (s90_2 hR e w h)
theorem s90_0 (hR : hR90 R Q) (e : Env) (w : World) (h : m90_0 R (e 0) w) : W90 k90_0 Q e w := by
  refine seA ?_
  exact rgA 0 (fun e w => m90_1 R (e 0) w) h fun e w h => then_N (s90_1 hR e w h)
abbrev m90 (R : VP) (s0 : Value) (w : World) : Prop := m90_0 R s0 w
theorem s90 (s0 : Value) {R : VP} {w : World} (h : m90 R s0 w) :
    Calls Tryz.prog 90 #[s0] w fun e w' => ∃ v, e = .returned v ∧ R v w' :=
  calls_of_cwp (st := (fun i => 0)) (c := k90_0) (by kernel_rfl) Tryz.func90 (by kernel_rfl) (Nat.le_of_ble_eq_true (by kernel_rfl)) (by kernel_rfl)
    (s90_0 (R := R) (Q := endE Tryz.prog Tryz.f90 R) (fun e w h => kcast (by kernel_rfl) h) (argsE #[s0]) w (kcast (by kernel_rfl) h))
def m61_3 (R : VP) (t2 : Value) (w : World) : Prop :=
  R t2 w
def m61_2 (R : VP) (s0 c3 : Value) (w : World) : Prop :=
  valP Tryz.prog (convert 129 5 c3) w fun t8 w =>
  valP Tryz.prog (binS BinOp.shr 129 (tm 9) (Operand.const (Value.int IntKind.u64 8)) c3 (Value.int IntKind.u64 8)) w fun t10 w =>
  valP Tryz.prog (convert 129 5 t10) w fun t11 w =>
  valP Tryz.prog (binS BinOp.shr 129 (tm 12) (Operand.const (Value.int IntKind.u64 16)) c3 (Value.int IntKind.u64 16)) w fun t13 w =>
  valP Tryz.prog (convert 129 5 t13) w fun t14 w =>
  valP Tryz.prog (binS BinOp.shr 129 (tm 15) (Operand.const (Value.int IntKind.u64 24)) c3 (Value.int IntKind.u64 24)) w fun t16 w =>
  valP Tryz.prog (convert 129 5 t16) w fun t17 w =>
  valP Tryz.prog (Instr.buildSlice 97 4 #[(0, t8), (1, t11), (2, t14), (3, t17)]) w fun t18 w =>
  valP Tryz.prog (convert 97 9 t18) w fun t19 w =>
  valP Tryz.prog (binS BinOp.add 9 (tm 6) (tm 19) s0 t19) w fun t20 w =>
  m61_3 R t20 w
def m61_1 (R : VP) (s0 : Value) (w : World) : Prop :=
  callP Tryz.prog (fnV 90) #[s0] w fun t5 w =>
  m61_2 R s0 t5 w
def m61_0 (R : VP) (s0 : Value) (w : World) : Prop :=
  m61_1 R s0 w
abbrev W61 := cwp Tryz.prog (fun i => 0)
noncomputable def k61_0 := bodyOf Tryz.f61
noncomputable def k61_1 := c2 k61_0
noncomputable def k61_2 := c2 k61_1
noncomputable def k61_3 := c2 k61_2
abbrev hR61 (R : VP) (Q : EQ) : Prop := ∀ e w, (R (e 2) w) → Q .ret e w
theorem s61_3 (hR : hR61 R Q) (e : Env) (w : World) (h : m61_3 R (e 2) w) : W61 k61_3 Q e w := by
  exact reA (hR _ _ h)
theorem s61_2 (hR : hR61 R Q) (e : Env) (w : World) (h : m61_2 R (e 0) (e 3) w) : W61 k61_2 Q e w := by
  refine seA ?_
  exact rgA 2 (fun e w => m61_3 R (e 2) w) h fun e w h => then_N (s61_3 hR e w h)
theorem s61_1 (hR : hR61 R Q) (e : Env) (w : World) (h : m61_1 R (e 0) w) : W61 k61_1 Q e w := by
  refine seA ?_
  exact rgA 1 (fun e w => m61_2 R (e 0) (e 3) w) h fun e w h => then_N (s61_2 hR e w h)
theorem s61_0 (hR : hR61 R Q) (e : Env) (w : World) (h : m61_0 R (e 0) w) : W61 k61_0 Q e w := by
  refine seA ?_
  exact rgA 0 (fun e w => m61_1 R (e 0) w) h fun e w h => then_N (s61_1 hR e w h)
abbrev m61 (R : VP) (s0 : Value) (w : World) : Prop := m61_0 R s0 w
theorem s61 (s0 : Value) {R : VP} {w : World} (h : m61 R s0 w) :
    Calls Tryz.prog 61 #[s0] w fun e w' => ∃ v, e = .returned v ∧ R v w' :=
  calls_of_cwp (st := (fun i => 0)) (c := k61_0) (by kernel_rfl) Tryz.func61 (by kernel_rfl) (Nat.le_of_ble_eq_true (by kernel_rfl)) (by kernel_rfl)
    (s61_0 (R := R) (Q := endE Tryz.prog Tryz.f61 R) (fun e w h => kcast (by kernel_rfl) h) (argsE #[s0]) w (kcast (by kernel_rfl) h))
def m72_6 (R : VP) (t2 t3 : Value) (w : World) : Prop :=
  R (Value.tuple #[t2, t3]) w
def m72_3 (R : VP) (t2 t3 : Value) (w : World) : Prop :=
  R (Value.tuple #[t2, t3]) w
def m72_2 (R : VP) (w : World) : Prop :=
  m72_3 R (Value.string ⟨#[]⟩) (vi 2) w
def m72_5 (R : VP) (s0 n4 t17 : Value) (w : World) : Prop :=
  condP t17
  (valP Tryz.prog (Instr.sliceAt 9 s0 none (some n4) none) w fun t20 w =>
  m72_6 R t20 (vi 0) w)
  (m72_2 R w)
def m72_4 (R : VP) (s0 n4 : Value) (w : World) : Prop :=
  valP Tryz.prog (binS BinOp.geq 3 (tm 8) (ci 0) n4 (vi 0)) w fun t9 w =>
  condP t9
  (valP Tryz.prog (Instr.sliceAt 9 s0 none (some n4) none) w fun t13 w =>
  callP Tryz.prog (fnV 61) #[t13] w fun t14 w =>
  valP Tryz.prog (binS BinOp.eql 9 (tm 14) (tm 15) t14 s0) w fun t16 w =>
  pickP t9 t16 (Value.bool false) fun t17 =>
  m72_5 R s0 n4 t17 w)
  (pickP t9 undef (Value.bool false) fun t17 =>
  m72_5 R s0 n4 t17 w)
def m72_1 (R : VP) (s0 : Value) (w : World) : Prop :=
  builtinP Tryz.prog Builtin.len #[9] 3 #[false] #[s0] w fun t6 w =>
  valP Tryz.prog (binS BinOp.sub 3 (tm 6) (ci 4) t6 (vi 4)) w fun t7 w =>
  m72_4 R s0 t7 w
def m72_0 (R : VP) (s0 : Value) (w : World) : Prop :=
  m72_1 R s0 w
abbrev W72 := cwp Tryz.prog (fun i => 0)
noncomputable def k72_0 := bodyOf Tryz.f72
noncomputable def k72_1 := c2 k72_0
noncomputable def k72_2 := c2 k72_1
noncomputable def k72_3 := c2 k72_2
noncomputable def k72_4 := c2 (c1 k72_1)
noncomputable def k72_5 := c2 k72_4
noncomputable def k72_6 := c2 (c1 k72_5)
abbrev hR72 (R : VP) (Q : EQ) : Prop := ∀ e w, (R (Value.tuple #[(e 2), (e 3)]) w) → Q .ret e w
theorem s72_6 (hR : hR72 R Q) (e : Env) (w : World) (h : m72_6 R (e 2) (e 3) w) : W72 k72_6 Q e w := by
  exact reA (hR _ _ h)
theorem s72_3 (hR : hR72 R Q) (e : Env) (w : World) (h : m72_3 R (e 2) (e 3) w) : W72 k72_3 Q e w := by
  exact reA (hR _ _ h)
theorem s72_2 (hR : hR72 R Q) (e : Env) (w : World) (h : m72_2 R w) : W72 k72_2 Q e w := by
  refine seA ?_
  exact rgA 4 (fun e w => m72_3 R (e 2) (e 3) w) h fun e w h => then_N (s72_3 hR e w h)
theorem s72_5 (hN : ∀ e w, (m72_2 R w) → Q .normal e w) (hR : hR72 R Q) (e : Env) (w : World) (h : m72_5 R (e 0) (e 4) (e 17) w) : W72 k72_5 Q e w := by
  refine coA (Operand.tmp 17) h (fun h1 => ?_) (fun h1 => ?_)
  · refine seA ?_
    exact rgA 3 (fun e w => m72_6 R (e 2) (e 3) w) h1 fun e w h => then_N (s72_6 hR e w h)
  · exact skA (hN _ _ h1)
theorem s72_4 (hN : ∀ e w, (m72_2 R w) → Q .normal e w) (hR : hR72 R Q) (e : Env) (w : World) (h : m72_4 R (e 0) (e 4) w) : W72 k72_4 Q e w := by
  refine seA ?_
  exact rgA 2 (fun e w => m72_5 R (e 0) (e 4) (e 17) w) h fun e w h => then_N (s72_5 hN hR e w h)
theorem s72_1 (hR : hR72 R Q) (e : Env) (w : World) (h : m72_1 R (e 0) w) : W72 k72_1 Q e w := by
  refine seA ?_
  have hN : ∀ e w, (m72_2 R w) → (thenE (W72 k72_2 Q) Q) .normal e w := fun e w h => then_N (s72_2 hR e w h)
  have hR : hR72 R (thenE (W72 k72_2 Q) Q) := fun e w h => then_R (hR e w h)
  refine seA ?_
  exact rgA 1 (fun e w => m72_4 R (e 0) (e 4) w) h fun e w h => then_N (s72_4 hN hR e w h)
theorem s72_0 (hR : hR72 R Q) (e : Env) (w : World) (h : m72_0 R (e 0) w) : W72 k72_0 Q e w := by
  refine seA ?_
  exact rgA 0 (fun e w => m72_1 R (e 0) w) h fun e w h => then_N (s72_1 hR e w h)
abbrev m72 (R : VP) (s0 : Value) (w : World) : Prop := m72_0 R s0 w
theorem s72 (s0 : Value) {R : VP} {w : World} (h : m72 R s0 w) :
    Calls Tryz.prog 72 #[s0] w fun e w' => ∃ v, e = .returned v ∧ R v w' :=
  calls_of_cwp (st := (fun i => 0)) (c := k72_0) (by kernel_rfl) Tryz.func72 (by kernel_rfl) (Nat.le_of_ble_eq_true (by kernel_rfl)) (by kernel_rfl)
    (s72_0 (R := R) (Q := endE Tryz.prog Tryz.f72 R) (fun e w h => kcast (by kernel_rfl) h) (argsE #[s0]) w (kcast (by kernel_rfl) h))
def m126_13 (R : VP) (K1 : (Value × Value) → World → Prop) (K2 : (Value × Value) → World → Prop) (s1 r5 i6 k7 : Value) (w : World) : Prop :=
  valP Tryz.prog (binS BinOp.add 3 (tm 25) (ci 1) k7 (vi 1)) w fun t26 w =>
  K2 (r5, t26) w
def m126_16 (R : VP) (K1 : (Value × Value) → World → Prop) (K2 : (Value × Value) → World → Prop) (s1 r5 i6 k7 t32 : Value) (w : World) : Prop :=
  condP t32
  (valP Tryz.prog (binS BinOp.xor 129 (tm 33) (Operand.const (Value.int IntKind.u32 2197175160)) r5 (Value.int IntKind.u32 2197175160)) w fun t34 w =>
  m126_13 R K1 K2 s1 t34 i6 k7 w)
  (m126_13 R K1 K2 s1 r5 i6 k7 w)
def m126_15 (R : VP) (K1 : (Value × Value) → World → Prop) (K2 : (Value × Value) → World → Prop) (s1 r5 i6 k7 odd8 : Value) (w : World) : Prop :=
  m126_16 R K1 K2 s1 r5 i6 k7 odd8 w
def m126_14 (R : VP) (K1 : (Value × Value) → World → Prop) (K2 : (Value × Value) → World → Prop) (s1 r5 i6 k7 odd8 : Value) (w : World) : Prop :=
  valP Tryz.prog (binS BinOp.quo 129 (tm 30) (Operand.const (Value.int IntKind.u32 2)) r5 (Value.int IntKind.u32 2)) w fun t31 w =>
  m126_15 R K1 K2 s1 t31 i6 k7 odd8 w
def m126_12 (R : VP) (K1 : (Value × Value) → World → Prop) (K2 : (Value × Value) → World → Prop) (s1 r5 i6 k7 : Value) (w : World) : Prop :=
  valP Tryz.prog (binS BinOp.rem 129 (tm 27) (Operand.const (Value.int IntKind.u32 2)) r5 (Value.int IntKind.u32 2)) w fun t28 w =>
  valP Tryz.prog (binS BinOp.eql 129 (tm 28) (Operand.const (Value.int IntKind.u32 1)) t28 (Value.int IntKind.u32 1)) w fun t29 w =>
  m126_14 R K1 K2 s1 r5 i6 k7 t29 w
def m126_8 (R : VP) (K1 : (Value × Value) → World → Prop) (s1 r5 i6 : Value) (w : World) : Prop :=
  valP Tryz.prog (binS BinOp.add 3 (tm 15) (ci 1) i6 (vi 1)) w fun t16 w =>
  K1 (r5, t16) w
def m126_17 (R : VP) (K1 : (Value × Value) → World → Prop) (K2 : (Value × Value) → World → Prop) (s1 r5 i6 k7 t24 : Value) (w : World) : Prop :=
  condP t24
  (m126_12 R K1 K2 s1 r5 i6 k7 w)
  (m126_8 R K1 s1 r5 i6 w)
def m126_11 (R : VP) (K1 : (Value × Value) → World → Prop) (K2 : (Value × Value) → World → Prop) (s1 r5 i6 k7 : Value) (w : World) : Prop :=
  valP Tryz.prog (binS BinOp.lss 3 (tm 23) (ci 8) k7 (vi 8)) w fun t24 w =>
  m126_17 R K1 K2 s1 r5 i6 k7 t24 w
def m126_10 (R : VP) (K1 : (Value × Value) → World → Prop) (s1 r5 i6 k7 : Value) (w : World) : Prop :=
  loopP (fun (K2 : (Value × Value) → World → Prop) (s : Value × Value) w => m126_11 R K1 K2 s1 s.1 i6 s.2 w) (r5, k7) w
def m126_9 (R : VP) (K1 : (Value × Value) → World → Prop) (s1 r5 i6 : Value) (w : World) : Prop :=
  m126_10 R K1 s1 r5 i6 (vi 0) w
def m126_7 (R : VP) (K1 : (Value × Value) → World → Prop) (s1 r5 i6 : Value) (w : World) : Prop :=
  valP Tryz.prog (Instr.index 9 s1 i6) w fun t20 w =>
  valP Tryz.prog (convert 5 129 t20) w fun t21 w =>
  valP Tryz.prog (binS BinOp.xor 129 (tm 17) (tm 21) r5 t21) w fun t22 w =>
  m126_9 R K1 s1 t22 i6 w
def m126_4 (R : VP) (t4 : Value) (w : World) : Prop :=
  R t4 w
def m126_3 (R : VP) (r5 : Value) (w : World) : Prop :=
  valP Tryz.prog (binS BinOp.sub 129 (Operand.const (Value.int IntKind.u32 4294967295)) (tm 35) (Value.int IntKind.u32 4294967295) r5) w fun t36 w =>
  m126_4 R t36 w
def m126_18 (R : VP) (K1 : (Value × Value) → World → Prop) (s1 r5 i6 t14 : Value) (w : World) : Prop :=
  condP t14
  (m126_7 R K1 s1 r5 i6 w)
  (m126_3 R r5 w)
def m126_6 (R : VP) (K1 : (Value × Value) → World → Prop) (s1 r5 i6 : Value) (w : World) : Prop :=
  builtinP Tryz.prog Builtin.len #[9] 3 #[false] #[s1] w fun t13 w =>
  valP Tryz.prog (binS BinOp.lss 3 (tm 11) (tm 13) i6 t13) w fun t14 w =>
  m126_18 R K1 s1 r5 i6 t14 w
def m126_5 (R : VP) (s1 r5 i6 : Value) (w : World) : Prop :=
  loopP (fun (K1 : (Value × Value) → World → Prop) (s : Value × Value) w => m126_6 R K1 s1 s.1 s.2 w) (r5, i6) w
def m126_2 (R : VP) (s1 r5 : Value) (w : World) : Prop :=
  m126_5 R s1 r5 (vi 0) w
def m126_1 (R : VP) (c0 s1 : Value) (w : World) : Prop :=
  valP Tryz.prog (binS BinOp.sub 129 (Operand.const (Value.int IntKind.u32 4294967295)) (tm 9) (Value.int IntKind.u32 4294967295) c0) w fun t10 w =>
  m126_2 R s1 t10 w
def m126_0 (R : VP) (c0 s1 : Value) (w : World) : Prop :=
  m126_1 R c0 s1 w
abbrev W126 := cwp Tryz.prog (fun i => 0)
noncomputable def k126_0 := bodyOf Tryz.f126
noncomputable def k126_1 := c2 k126_0
noncomputable def k126_2 := c2 k126_1
noncomputable def k126_3 := c2 k126_2
noncomputable def k126_4 := c2 k126_3
noncomputable def k126_5 := c2 (c1 k126_2)
noncomputable def k126_6 := c1 (c1 k126_5)
noncomputable def k126_7 := c2 k126_6
noncomputable def k126_8 := c2 k126_7
noncomputable def k126_9 := c2 (c1 (c1 k126_7))
noncomputable def k126_10 := c2 k126_9
noncomputable def k126_11 := c1 (c1 k126_10)
noncomputable def k126_12 := c2 k126_11
noncomputable def k126_13 := c2 k126_12
noncomputable def k126_14 := c2 (c1 (c1 k126_12))
noncomputable def k126_15 := c2 k126_14
noncomputable def k126_16 := c2 k126_15
noncomputable def k126_17 := c2 (c1 k126_11)
noncomputable def k126_18 := c2 (c1 k126_6)
theorem s126_13 {K1 : (Value × Value) → World → Prop} {K2 : (Value × Value) → World → Prop} (hN : ∀ e w, (K2 ((e 5), (e 7)) w) → Q .normal e w) (e : Env) (w : World) (h : m126_13 R K1 K2 (e 1) (e 5) (e 6) (e 7) w) : W126 k126_13 Q e w := by
  exact rgA 8 (fun e w => K2 ((e 5), (e 7)) w) h hN
theorem s126_16 {K1 : (Value × Value) → World → Prop} {K2 : (Value × Value) → World → Prop} (hN : ∀ e w, (m126_13 R K1 K2 (e 1) (e 5) (e 6) (e 7) w) → Q .normal e w) (e : Env) (w : World) (h : m126_16 R K1 K2 (e 1) (e 5) (e 6) (e 7) (e 32) w) : W126 k126_16 Q e w := by
  refine coA (Operand.tmp 32) h (fun h1 => ?_) (fun h1 => ?_)
  · exact rgA 12 (fun e w => m126_13 R K1 K2 (e 1) (e 5) (e 6) (e 7) w) h1 hN
  · exact skA (hN _ _ h1)
theorem s126_15 {K1 : (Value × Value) → World → Prop} {K2 : (Value × Value) → World → Prop} (hN : ∀ e w, (m126_13 R K1 K2 (e 1) (e 5) (e 6) (e 7) w) → Q .normal e w) (e : Env) (w : World) (h : m126_15 R K1 K2 (e 1) (e 5) (e 6) (e 7) (e 8) w) : W126 k126_15 Q e w := by
  refine seA ?_
  exact rgA 11 (fun e w => m126_16 R K1 K2 (e 1) (e 5) (e 6) (e 7) (e 32) w) h fun e w h => then_N (s126_16 hN e w h)
theorem s126_14 {K1 : (Value × Value) → World → Prop} {K2 : (Value × Value) → World → Prop} (hN : ∀ e w, (m126_13 R K1 K2 (e 1) (e 5) (e 6) (e 7) w) → Q .normal e w) (e : Env) (w : World) (h : m126_14 R K1 K2 (e 1) (e 5) (e 6) (e 7) (e 8) w) : W126 k126_14 Q e w := by
  refine seA ?_
  exact rgA 10 (fun e w => m126_15 R K1 K2 (e 1) (e 5) (e 6) (e 7) (e 8) w) h fun e w h => then_N (s126_15 hN e w h)
theorem s126_12 {K1 : (Value × Value) → World → Prop} {K2 : (Value × Value) → World → Prop} (hN : ∀ e w, (K2 ((e 5), (e 7)) w) → Q .normal e w) (e : Env) (w : World) (h : m126_12 R K1 K2 (e 1) (e 5) (e 6) (e 7) w) : W126 k126_12 Q e w := by
  refine seA ?_
  have hN : ∀ e w, (m126_13 R K1 K2 (e 1) (e 5) (e 6) (e 7) w) → (thenE (W126 k126_13 Q) Q) .normal e w := fun e w h => then_N (s126_13 hN e w h)
  refine block_ok 3 (by kernel_rfl) ?_
  have hN : ∀ e w, (m126_13 R K1 K2 (e 1) (e 5) (e 6) (e 7) w) → (inBlockE 3 (thenE (W126 k126_13 Q) Q)) .normal e w := fun e w h => block_N (hN e w h)
  refine seA ?_
  exact rgA 9 (fun e w => m126_14 R K1 K2 (e 1) (e 5) (e 6) (e 7) (e 8) w) h fun e w h => then_N (s126_14 (R := R) (Q := (inBlockE 3 (thenE (W126 k126_13 Q) Q))) hN e w h)
theorem s126_8 {K1 : (Value × Value) → World → Prop} (hN : ∀ e w, (K1 ((e 5), (e 6)) w) → Q .normal e w) (e : Env) (w : World) (h : m126_8 R K1 (e 1) (e 5) (e 6) w) : W126 k126_8 Q e w := by
  exact rgA 4 (fun e w => K1 ((e 5), (e 6)) w) h hN
theorem s126_17 {K1 : (Value × Value) → World → Prop} {K2 : (Value × Value) → World → Prop} (hN : ∀ e w, (m126_12 R K1 K2 (e 1) (e 5) (e 6) (e 7) w) → Q .normal e w) (hX2 : ∀ e w, (m126_8 R K1 (e 1) (e 5) (e 6) w) → Q (.exit 2) e w) (e : Env) (w : World) (h : m126_17 R K1 K2 (e 1) (e 5) (e 6) (e 7) (e 24) w) : W126 k126_17 Q e w := by
  refine coA (Operand.tmp 24) h (fun h1 => ?_) (fun h1 => ?_)
  · exact skA (hN _ _ h1)
  · exact exA 2 (hX2 _ _ h1)
theorem s126_11 {K1 : (Value × Value) → World → Prop} {K2 : (Value × Value) → World → Prop} (hN : ∀ e w, (K2 ((e 5), (e 7)) w) → Q .normal e w) (hX2 : ∀ e w, (m126_8 R K1 (e 1) (e 5) (e 6) w) → Q (.exit 2) e w) (e : Env) (w : World) (h : m126_11 R K1 K2 (e 1) (e 5) (e 6) (e 7) w) : W126 k126_11 Q e w := by
  refine seA ?_
  have hN : ∀ e w, (m126_12 R K1 K2 (e 1) (e 5) (e 6) (e 7) w) → (thenE (W126 k126_12 Q) Q) .normal e w := fun e w h => then_N (s126_12 hN e w h)
  have hX2 : ∀ e w, (m126_8 R K1 (e 1) (e 5) (e 6) w) → (thenE (W126 k126_12 Q) Q) (.exit 2) e w := fun e w h => then_X (hX2 e w h)
  refine seA ?_
  exact rgA 7 (fun e w => m126_17 R K1 K2 (e 1) (e 5) (e 6) (e 7) (e 24) w) h fun e w h => then_N (s126_17 hN hX2 e w h)
theorem s126_10 {K1 : (Value × Value) → World → Prop} (hN : ∀ e w, (m126_8 R K1 (e 1) (e 5) (e 6) w) → Q .normal e w) (e : Env) (w : World) (h : m126_10 R K1 (e 1) (e 5) (e 6) (e 7) w) : W126 k126_10 Q e w := by
  refine block_ok 2 (by kernel_rfl) ?_
  have hX2 : ∀ e w, (m126_8 R K1 (e 1) (e 5) (e 6) w) → (inBlockE 2 Q) (.exit 2) e w := fun e w h => inBlock_same (Q := Q) 2 (hN e w h)
  refine loop_ok' (fun (e : Env) => (e 5, e 7)) [1, 6] (by kernel_rfl) (by kernel_rfl) h (fun K e' w' hk h' => ?_)
  have r1 : e' 1 = e 1 := hk 1 (by decide)
  have r6 : e' 6 = e 6 := hk 6 (by decide)
  have hX2 : ∀ e w, (m126_8 R K1 (e 1) (e 5) (e 6) w) → (thenE (fun (e : Env) w => K ((e 5), (e 7)) w) (inBlockE 2 Q)) (.exit 2) e w := fun e w h => then_X (hX2 e w h)
  exact s126_11 (K1 := K1) (K2 := K) (fun _ _ h => then_N h) hX2 e' w' (by rw [r1, r6]; exact h')
theorem s126_9 {K1 : (Value × Value) → World → Prop} (hN : ∀ e w, (m126_8 R K1 (e 1) (e 5) (e 6) w) → Q .normal e w) (e : Env) (w : World) (h : m126_9 R K1 (e 1) (e 5) (e 6) w) : W126 k126_9 Q e w := by
  refine seA ?_
  exact rgA 6 (fun e w => m126_10 R K1 (e 1) (e 5) (e 6) (e 7) w) h fun e w h => then_N (s126_10 hN e w h)
theorem s126_7 {K1 : (Value × Value) → World → Prop} (hN : ∀ e w, (K1 ((e 5), (e 6)) w) → Q .normal e w) (e : Env) (w : World) (h : m126_7 R K1 (e 1) (e 5) (e 6) w) : W126 k126_7 Q e w := by
  refine seA ?_
  have hN : ∀ e w, (m126_8 R K1 (e 1) (e 5) (e 6) w) → (thenE (W126 k126_8 Q) Q) .normal e w := fun e w h => then_N (s126_8 hN e w h)
  refine block_ok 1 (by kernel_rfl) ?_
  have hN : ∀ e w, (m126_8 R K1 (e 1) (e 5) (e 6) w) → (inBlockE 1 (thenE (W126 k126_8 Q) Q)) .normal e w := fun e w h => block_N (hN e w h)
  refine seA ?_
  exact rgA 5 (fun e w => m126_9 R K1 (e 1) (e 5) (e 6) w) h fun e w h => then_N (s126_9 (R := R) (Q := (inBlockE 1 (thenE (W126 k126_8 Q) Q))) hN e w h)
abbrev hR126 (R : VP) (Q : EQ) : Prop := ∀ e w, (R (e 4) w) → Q .ret e w
theorem s126_4 (hR : hR126 R Q) (e : Env) (w : World) (h : m126_4 R (e 4) w) : W126 k126_4 Q e w := by
  exact reA (hR _ _ h)
theorem s126_3 (hR : hR126 R Q) (e : Env) (w : World) (h : m126_3 R (e 5) w) : W126 k126_3 Q e w := by
  refine seA ?_
  exact rgA 13 (fun e w => m126_4 R (e 4) w) h fun e w h => then_N (s126_4 hR e w h)
theorem s126_18 {K1 : (Value × Value) → World → Prop} (hN : ∀ e w, (m126_7 R K1 (e 1) (e 5) (e 6) w) → Q .normal e w) (hX0 : ∀ e w, (m126_3 R (e 5) w) → Q (.exit 0) e w) (e : Env) (w : World) (h : m126_18 R K1 (e 1) (e 5) (e 6) (e 14) w) : W126 k126_18 Q e w := by
  refine coA (Operand.tmp 14) h (fun h1 => ?_) (fun h1 => ?_)
  · exact skA (hN _ _ h1)
  · exact exA 0 (hX0 _ _ h1)
theorem s126_6 {K1 : (Value × Value) → World → Prop} (hN : ∀ e w, (K1 ((e 5), (e 6)) w) → Q .normal e w) (hX0 : ∀ e w, (m126_3 R (e 5) w) → Q (.exit 0) e w) (e : Env) (w : World) (h : m126_6 R K1 (e 1) (e 5) (e 6) w) : W126 k126_6 Q e w := by
  refine seA ?_
  have hN : ∀ e w, (m126_7 R K1 (e 1) (e 5) (e 6) w) → (thenE (W126 k126_7 Q) Q) .normal e w := fun e w h => then_N (s126_7 hN e w h)
  have hX0 : ∀ e w, (m126_3 R (e 5) w) → (thenE (W126 k126_7 Q) Q) (.exit 0) e w := fun e w h => then_X (hX0 e w h)
  refine seA ?_
  exact rgA 3 (fun e w => m126_18 R K1 (e 1) (e 5) (e 6) (e 14) w) h fun e w h => then_N (s126_18 hN hX0 e w h)
theorem s126_5 (hN : ∀ e w, (m126_3 R (e 5) w) → Q .normal e w) (e : Env) (w : World) (h : m126_5 R (e 1) (e 5) (e 6) w) : W126 k126_5 Q e w := by
  refine block_ok 0 (by kernel_rfl) ?_
  have hX0 : ∀ e w, (m126_3 R (e 5) w) → (inBlockE 0 Q) (.exit 0) e w := fun e w h => inBlock_same (Q := Q) 0 (hN e w h)
  refine loop_ok' (fun (e : Env) => (e 5, e 6)) [1] (by kernel_rfl) (by kernel_rfl) h (fun K e' w' hk h' => ?_)
  have r1 : e' 1 = e 1 := hk 1 (by decide)
  have hX0 : ∀ e w, (m126_3 R (e 5) w) → (thenE (fun (e : Env) w => K ((e 5), (e 6)) w) (inBlockE 0 Q)) (.exit 0) e w := fun e w h => then_X (hX0 e w h)
  exact s126_6 (K1 := K) (fun _ _ h => then_N h) hX0 e' w' (by rw [r1]; exact h')
theorem s126_2 (hR : hR126 R Q) (e : Env) (w : World) (h : m126_2 R (e 1) (e 5) w) : W126 k126_2 Q e w := by
  refine seA ?_
  have hN : ∀ e w, (m126_3 R (e 5) w) → (thenE (W126 k126_3 Q) Q) .normal e w := fun e w h => then_N (s126_3 hR e w h)
  refine seA ?_
  exact rgA 2 (fun e w => m126_5 R (e 1) (e 5) (e 6) w) h fun e w h => then_N (s126_5 hN e w h)
theorem s126_1 (hR : hR126 R Q) (e : Env) (w : World) (h : m126_1 R (e 0) (e 1) w) : W126 k126_1 Q e w := by
  refine seA ?_
  exact rgA 1 (fun e w => m126_2 R (e 1) (e 5) w) h fun e w h => then_N (s126_2 hR e w h)
theorem s126_0 (hR : hR126 R Q) (e : Env) (w : World) (h : m126_0 R (e 0) (e 1) w) : W126 k126_0 Q e w := by
  refine seA ?_
  exact rgA 0 (fun e w => m126_1 R (e 0) (e 1) w) h fun e w h => then_N (s126_1 hR e w h)
abbrev m126 (R : VP) (c0 s1 : Value) (w : World) : Prop := m126_0 R c0 s1 w
theorem s126 (c0 s1 : Value) {R : VP} {w : World} (h : m126 R c0 s1 w) :
    Calls Tryz.prog 126 #[c0, s1] w fun e w' => ∃ v, e = .returned v ∧ R v w' :=
  calls_of_cwp (st := (fun i => 0)) (c := k126_0) (by kernel_rfl) Tryz.func126 (by kernel_rfl) (Nat.le_of_ble_eq_true (by kernel_rfl)) (by kernel_rfl)
    (s126_0 (R := R) (Q := endE Tryz.prog Tryz.f126 R) (fun e w h => kcast (by kernel_rfl) h) (argsE #[c0, s1]) w (kcast (by kernel_rfl) h))
def m106_2 (R : VP) (t2 : Value) (w : World) : Prop :=
  R t2 w
def m106_1 (R : VP) (s0 : Value) (w : World) : Prop :=
  callP Tryz.prog (fnV 126) #[(Value.int IntKind.u32 0), s0] w fun t4 w =>
  m106_2 R t4 w
def m106_0 (R : VP) (s0 : Value) (w : World) : Prop :=
  m106_1 R s0 w
abbrev W106 := cwp Tryz.prog (fun i => 0)
noncomputable def k106_0 := bodyOf Tryz.f106
noncomputable def k106_1 := c2 k106_0
noncomputable def k106_2 := c2 k106_1
abbrev hR106 (R : VP) (Q : EQ) : Prop := ∀ e w, (R (e 2) w) → Q .ret e w
theorem s106_2 (hR : hR106 R Q) (e : Env) (w : World) (h : m106_2 R (e 2) w) : W106 k106_2 Q e w := by
  exact reA (hR _ _ h)
theorem s106_1 (hR : hR106 R Q) (e : Env) (w : World) (h : m106_1 R (e 0) w) : W106 k106_1 Q e w := by
  refine seA ?_
  exact rgA 1 (fun e w => m106_2 R (e 2) w) h fun e w h => then_N (s106_2 hR e w h)
theorem s106_0 (hR : hR106 R Q) (e : Env) (w : World) (h : m106_0 R (e 0) w) : W106 k106_0 Q e w := by
  refine seA ?_
  exact rgA 0 (fun e w => m106_1 R (e 0) w) h fun e w h => then_N (s106_1 hR e w h)
abbrev m106 (R : VP) (s0 : Value) (w : World) : Prop := m106_0 R s0 w
theorem s106 (s0 : Value) {R : VP} {w : World} (h : m106 R s0 w) :
    Calls Tryz.prog 106 #[s0] w fun e w' => ∃ v, e = .returned v ∧ R v w' :=
  calls_of_cwp (st := (fun i => 0)) (c := k106_0) (by kernel_rfl) Tryz.func106 (by kernel_rfl) (Nat.le_of_ble_eq_true (by kernel_rfl)) (by kernel_rfl)
    (s106_0 (R := R) (Q := endE Tryz.prog Tryz.f106 R) (fun e w h => kcast (by kernel_rfl) h) (argsE #[s0]) w (kcast (by kernel_rfl) h))
def m105_8 (R : VP) (K1 : (Value × Value × Value) → World → Prop) (c0 b3 k4 : Value) (w : World) : Prop :=
  valP Tryz.prog (binS BinOp.add 3 (tm 7) (ci 1) k4 (vi 1)) w fun t8 w =>
  K1 (c0, b3, t8) w
def m105_9 (R : VP) (K1 : (Value × Value × Value) → World → Prop) (c0 b3 k4 : Value) (w : World) : Prop :=
  valP Tryz.prog (binS BinOp.quo 129 (tm 15) (Operand.const (Value.int IntKind.u32 256)) c0 (Value.int IntKind.u32 256)) w fun t16 w =>
  m105_8 R K1 t16 b3 k4 w
def m105_7 (R : VP) (K1 : (Value × Value × Value) → World → Prop) (c0 b3 k4 : Value) (w : World) : Prop :=
  valP Tryz.prog (binS BinOp.rem 129 (tm 10) (Operand.const (Value.int IntKind.u32 256)) c0 (Value.int IntKind.u32 256)) w fun t11 w =>
  valP Tryz.prog (convert 129 5 t11) w fun t12 w =>
  valP Tryz.prog (Instr.buildSlice 97 1 #[(0, t12)]) w fun t13 w =>
  builtinP Tryz.prog Builtin.append #[97, 97] 97 #[false, false] #[b3, t13] w fun t14 w =>
  m105_9 R K1 c0 t14 k4 w
def m105_4 (R : VP) (t2 : Value) (w : World) : Prop :=
  R t2 w
def m105_3 (R : VP) (b3 : Value) (w : World) : Prop :=
  valP Tryz.prog (convert 97 9 b3) w fun t18 w =>
  m105_4 R t18 w
def m105_10 (R : VP) (K1 : (Value × Value × Value) → World → Prop) (c0 b3 k4 t6 : Value) (w : World) : Prop :=
  condP t6
  (m105_7 R K1 c0 b3 k4 w)
  (m105_3 R b3 w)
def m105_6 (R : VP) (K1 : (Value × Value × Value) → World → Prop) (c0 b3 k4 : Value) (w : World) : Prop :=
  valP Tryz.prog (binS BinOp.lss 3 (tm 5) (ci 4) k4 (vi 4)) w fun t6 w =>
  m105_10 R K1 c0 b3 k4 t6 w
def m105_5 (R : VP) (c0 b3 k4 : Value) (w : World) : Prop :=
  loopP (fun (K1 : (Value × Value × Value) → World → Prop) (s : Value × Value × Value) w => m105_6 R K1 s.1 s.2.1 s.2.2 w) (c0, b3, k4) w
def m105_2 (R : VP) (c0 b3 : Value) (w : World) : Prop :=
  m105_5 R c0 b3 (vi 0) w
def m105_1 (R : VP) (c0 : Value) (w : World) : Prop :=
  m105_2 R c0 (Value.slice none 0 0) w
def m105_0 (R : VP) (c0 : Value) (w : World) : Prop :=
  m105_1 R c0 w
abbrev W105 := cwp Tryz.prog (fun i => 0)
noncomputable def k105_0 := bodyOf Tryz.f105
noncomputable def k105_1 := c2 k105_0
noncomputable def k105_2 := c2 k105_1
noncomputable def k105_3 := c2 k105_2
noncomputable def k105_4 := c2 k105_3
noncomputable def k105_5 := c2 (c1 k105_2)
noncomputable def k105_6 := c1 (c1 k105_5)
noncomputable def k105_7 := c2 k105_6
noncomputable def k105_8 := c2 k105_7
noncomputable def k105_9 := c2 (c1 (c1 k105_7))
noncomputable def k105_10 := c2 (c1 k105_6)
theorem s105_8 {K1 : (Value × Value × Value) → World → Prop} (hN : ∀ e w, (K1 ((e 0), (e 3), (e 4)) w) → Q .normal e w) (e : Env) (w : World) (h : m105_8 R K1 (e 0) (e 3) (e 4) w) : W105 k105_8 Q e w := by
  exact rgA 4 (fun e w => K1 ((e 0), (e 3), (e 4)) w) h hN
theorem s105_9 {K1 : (Value × Value × Value) → World → Prop} (hN : ∀ e w, (m105_8 R K1 (e 0) (e 3) (e 4) w) → Q .normal e w) (e : Env) (w : World) (h : m105_9 R K1 (e 0) (e 3) (e 4) w) : W105 k105_9 Q e w := by
  exact rgA 6 (fun e w => m105_8 R K1 (e 0) (e 3) (e 4) w) h hN
theorem s105_7 {K1 : (Value × Value × Value) → World → Prop} (hN : ∀ e w, (K1 ((e 0), (e 3), (e 4)) w) → Q .normal e w) (e : Env) (w : World) (h : m105_7 R K1 (e 0) (e 3) (e 4) w) : W105 k105_7 Q e w := by
  refine seA ?_
  have hN : ∀ e w, (m105_8 R K1 (e 0) (e 3) (e 4) w) → (thenE (W105 k105_8 Q) Q) .normal e w := fun e w h => then_N (s105_8 hN e w h)
  refine block_ok 1 (by kernel_rfl) ?_
  have hN : ∀ e w, (m105_8 R K1 (e 0) (e 3) (e 4) w) → (inBlockE 1 (thenE (W105 k105_8 Q) Q)) .normal e w := fun e w h => block_N (hN e w h)
  refine seA ?_
  exact rgA 5 (fun e w => m105_9 R K1 (e 0) (e 3) (e 4) w) h fun e w h => then_N (s105_9 (R := R) (Q := (inBlockE 1 (thenE (W105 k105_8 Q) Q))) hN e w h)
abbrev hR105 (R : VP) (Q : EQ) : Prop := ∀ e w, (R (e 2) w) → Q .ret e w
theorem s105_4 (hR : hR105 R Q) (e : Env) (w : World) (h : m105_4 R (e 2) w) : W105 k105_4 Q e w := by
  exact reA (hR _ _ h)
theorem s105_3 (hR : hR105 R Q) (e : Env) (w : World) (h : m105_3 R (e 3) w) : W105 k105_3 Q e w := by
  refine seA ?_
  exact rgA 7 (fun e w => m105_4 R (e 2) w) h fun e w h => then_N (s105_4 hR e w h)
theorem s105_10 {K1 : (Value × Value × Value) → World → Prop} (hN : ∀ e w, (m105_7 R K1 (e 0) (e 3) (e 4) w) → Q .normal e w) (hX0 : ∀ e w, (m105_3 R (e 3) w) → Q (.exit 0) e w) (e : Env) (w : World) (h : m105_10 R K1 (e 0) (e 3) (e 4) (e 6) w) : W105 k105_10 Q e w := by
  refine coA (Operand.tmp 6) h (fun h1 => ?_) (fun h1 => ?_)
  · exact skA (hN _ _ h1)
  · exact exA 0 (hX0 _ _ h1)
theorem s105_6 {K1 : (Value × Value × Value) → World → Prop} (hN : ∀ e w, (K1 ((e 0), (e 3), (e 4)) w) → Q .normal e w) (hX0 : ∀ e w, (m105_3 R (e 3) w) → Q (.exit 0) e w) (e : Env) (w : World) (h : m105_6 R K1 (e 0) (e 3) (e 4) w) : W105 k105_6 Q e w := by
  refine seA ?_
  have hN : ∀ e w, (m105_7 R K1 (e 0) (e 3) (e 4) w) → (thenE (W105 k105_7 Q) Q) .normal e w := fun e w h => then_N (s105_7 hN e w h)
  have hX0 : ∀ e w, (m105_3 R (e 3) w) → (thenE (W105 k105_7 Q) Q) (.exit 0) e w := fun e w h => then_X (hX0 e w h)
  refine seA ?_
  exact rgA 3 (fun e w => m105_10 R K1 (e 0) (e 3) (e 4) (e 6) w) h fun e w h => then_N (s105_10 hN hX0 e w h)
theorem s105_5 (hN : ∀ e w, (m105_3 R (e 3) w) → Q .normal e w) (e : Env) (w : World) (h : m105_5 R (e 0) (e 3) (e 4) w) : W105 k105_5 Q e w := by
  refine block_ok 0 (by kernel_rfl) ?_
  have hX0 : ∀ e w, (m105_3 R (e 3) w) → (inBlockE 0 Q) (.exit 0) e w := fun e w h => inBlock_same (Q := Q) 0 (hN e w h)
  refine loop_ok' (fun (e : Env) => (e 0, e 3, e 4)) [] (by kernel_rfl) (by kernel_rfl) h (fun K e' w' hk h' => ?_)
  have hX0 : ∀ e w, (m105_3 R (e 3) w) → (thenE (fun (e : Env) w => K ((e 0), (e 3), (e 4)) w) (inBlockE 0 Q)) (.exit 0) e w := fun e w h => then_X (hX0 e w h)
  exact s105_6 (K1 := K) (fun _ _ h => then_N h) hX0 e' w' h'
theorem s105_2 (hR : hR105 R Q) (e : Env) (w : World) (h : m105_2 R (e 0) (e 3) w) : W105 k105_2 Q e w := by
  refine seA ?_
  have hN : ∀ e w, (m105_3 R (e 3) w) → (thenE (W105 k105_3 Q) Q) .normal e w := fun e w h => then_N (s105_3 hR e w h)
  refine seA ?_
  exact rgA 2 (fun e w => m105_5 R (e 0) (e 3) (e 4) w) h fun e w h => then_N (s105_5 hN e w h)
theorem s105_1 (hR : hR105 R Q) (e : Env) (w : World) (h : m105_1 R (e 0) w) : W105 k105_1 Q e w := by
  refine seA ?_
  exact rgA 1 (fun e w => m105_2 R (e 0) (e 3) w) h fun e w h => then_N (s105_2 hR e w h)
theorem s105_0 (hR : hR105 R Q) (e : Env) (w : World) (h : m105_0 R (e 0) w) : W105 k105_0 Q e w := by
  refine seA ?_
  exact rgA 0 (fun e w => m105_1 R (e 0) w) h fun e w h => then_N (s105_1 hR e w h)
abbrev m105 (R : VP) (c0 : Value) (w : World) : Prop := m105_0 R c0 w
theorem s105 (c0 : Value) {R : VP} {w : World} (h : m105 R c0 w) :
    Calls Tryz.prog 105 #[c0] w fun e w' => ∃ v, e = .returned v ∧ R v w' :=
  calls_of_cwp (st := (fun i => 0)) (c := k105_0) (by kernel_rfl) Tryz.func105 (by kernel_rfl) (Nat.le_of_ble_eq_true (by kernel_rfl)) (by kernel_rfl)
    (s105_0 (R := R) (Q := endE Tryz.prog Tryz.f105 R) (fun e w h => kcast (by kernel_rfl) h) (argsE #[c0]) w (kcast (by kernel_rfl) h))
def m79_2 (R : VP) (t2 : Value) (w : World) : Prop :=
  R t2 w
def m79_1 (R : VP) (s0 : Value) (w : World) : Prop :=
  callP Tryz.prog (fnV 106) #[s0] w fun t5 w =>
  callP Tryz.prog (fnV 105) #[t5] w fun t6 w =>
  valP Tryz.prog (binS BinOp.add 9 (tm 3) (tm 6) s0 t6) w fun t7 w =>
  m79_2 R t7 w
def m79_0 (R : VP) (s0 : Value) (w : World) : Prop :=
  m79_1 R s0 w
abbrev W79 := cwp Tryz.prog (fun i => 0)
noncomputable def k79_0 := bodyOf Tryz.f79
noncomputable def k79_1 := c2 k79_0
noncomputable def k79_2 := c2 k79_1
abbrev hR79 (R : VP) (Q : EQ) : Prop := ∀ e w, (R (e 2) w) → Q .ret e w
theorem s79_2 (hR : hR79 R Q) (e : Env) (w : World) (h : m79_2 R (e 2) w) : W79 k79_2 Q e w := by
  exact reA (hR _ _ h)
theorem s79_1 (hR : hR79 R Q) (e : Env) (w : World) (h : m79_1 R (e 0) w) : W79 k79_1 Q e w := by
  refine seA ?_
  exact rgA 1 (fun e w => m79_2 R (e 2) w) h fun e w h => then_N (s79_2 hR e w h)
theorem s79_0 (hR : hR79 R Q) (e : Env) (w : World) (h : m79_0 R (e 0) w) : W79 k79_0 Q e w := by
  refine seA ?_
  exact rgA 0 (fun e w => m79_1 R (e 0) w) h fun e w h => then_N (s79_1 hR e w h)
abbrev m79 (R : VP) (s0 : Value) (w : World) : Prop := m79_0 R s0 w
theorem s79 (s0 : Value) {R : VP} {w : World} (h : m79 R s0 w) :
    Calls Tryz.prog 79 #[s0] w fun e w' => ∃ v, e = .returned v ∧ R v w' :=
  calls_of_cwp (st := (fun i => 0)) (c := k79_0) (by kernel_rfl) Tryz.func79 (by kernel_rfl) (Nat.le_of_ble_eq_true (by kernel_rfl)) (by kernel_rfl)
    (s79_0 (R := R) (Q := endE Tryz.prog Tryz.f79 R) (fun e w h => kcast (by kernel_rfl) h) (argsE #[s0]) w (kcast (by kernel_rfl) h))
def m84_6 (R : VP) (t2 t3 : Value) (w : World) : Prop :=
  R (Value.tuple #[t2, t3]) w
def m84_4 (R : VP) (t2 t3 : Value) (w : World) : Prop :=
  R (Value.tuple #[t2, t3]) w
def m84_3 (R : VP) (s0 n4 : Value) (w : World) : Prop :=
  valP Tryz.prog (Instr.sliceAt 9 s0 none (some n4) none) w fun t23 w =>
  m84_4 R t23 (vi 0) w
def m84_5 (R : VP) (s0 n4 t20 : Value) (w : World) : Prop :=
  condP t20
  (m84_6 R (Value.string ⟨#[]⟩) (vi 2) w)
  (m84_3 R s0 n4 w)
def m84_2 (R : VP) (s0 n4 : Value) (w : World) : Prop :=
  anyDraw w fun w =>
  pureP Tryz.prog (binS BinOp.lss 3 (tm 8) (ci 0) n4 (vi 0)) fun t9 =>
  condP t9
  (pickP t9 (Value.bool true) undef fun t20 =>
  m84_5 R s0 n4 t20 w)
  (pureP Tryz.prog (Instr.sliceAt 9 s0 none (some n4) none) fun t13 =>
  pureP Tryz.prog (Instr.sliceAt 9 s0 (some n4) none none) fun t18 =>
  callP Tryz.prog (fnV 106) #[t13] w fun t14 w =>
  callP Tryz.prog (fnV 105) #[t14] w fun t15 w =>
  pureP Tryz.prog (binS BinOp.neq 9 (tm 15) (tm 18) t15 t18) fun t19 =>
  pickP t9 (Value.bool true) t19 fun t20 =>
  m84_5 R s0 n4 t20 w)
def m84_1 (R : VP) (s0 : Value) (w : World) : Prop :=
  builtinP Tryz.prog Builtin.len #[9] 3 #[false] #[s0] w fun t6 w =>
  valP Tryz.prog (binS BinOp.sub 3 (tm 6) (ci 4) t6 (vi 4)) w fun t7 w =>
  m84_2 R s0 t7 w
def m84_0 (R : VP) (s0 : Value) (w : World) : Prop :=
  m84_1 R s0 w
abbrev W84 := cwp Tryz.prog (fun i => 0)
noncomputable def k84_0 := bodyOf Tryz.f84
noncomputable def k84_1 := c2 k84_0
noncomputable def k84_2 := c2 k84_1
noncomputable def k84_3 := c2 k84_2
noncomputable def k84_4 := c2 k84_3
noncomputable def k84_5 := c2 (c1 k84_2)
noncomputable def k84_6 := c2 (c1 k84_5)
abbrev hR84 (R : VP) (Q : EQ) : Prop := ∀ e w, (R (Value.tuple #[(e 2), (e 3)]) w) → Q .ret e w
theorem s84_6 (hR : hR84 R Q) (e : Env) (w : World) (h : m84_6 R (e 2) (e 3) w) : W84 k84_6 Q e w := by
  exact reA (hR _ _ h)
theorem s84_4 (hR : hR84 R Q) (e : Env) (w : World) (h : m84_4 R (e 2) (e 3) w) : W84 k84_4 Q e w := by
  exact reA (hR _ _ h)
theorem s84_3 (hR : hR84 R Q) (e : Env) (w : World) (h : m84_3 R (e 0) (e 4) w) : W84 k84_3 Q e w := by
  refine seA ?_
  exact rgA 4 (fun e w => m84_4 R (e 2) (e 3) w) h fun e w h => then_N (s84_4 hR e w h)
theorem s84_5 (hN : ∀ e w, (m84_3 R (e 0) (e 4) w) → Q .normal e w) (hR : hR84 R Q) (e : Env) (w : World) (h : m84_5 R (e 0) (e 4) (e 20) w) : W84 k84_5 Q e w := by
  refine coA (Operand.tmp 20) h (fun h1 => ?_) (fun h1 => ?_)
  · refine seA ?_
    exact rgA 3 (fun e w => m84_6 R (e 2) (e 3) w) h1 fun e w h => then_N (s84_6 hR e w h)
  · exact skA (hN _ _ h1)
theorem s84_2 (hR : hR84 R Q) (e : Env) (w : World) (h : m84_2 R (e 0) (e 4) w) : W84 k84_2 Q e w := by
  refine seA ?_
  have hN : ∀ e w, (m84_3 R (e 0) (e 4) w) → (thenE (W84 k84_3 Q) Q) .normal e w := fun e w h => then_N (s84_3 hR e w h)
  have hR : hR84 R (thenE (W84 k84_3 Q) Q) := fun e w h => then_R (hR e w h)
  refine seA ?_
  have hN : ∀ e w, (m84_5 R (e 0) (e 4) (e 20) w) → (thenE (W84 k84_5 (thenE (W84 k84_3 Q) Q)) (thenE (W84 k84_3 Q) Q)) .normal e w := fun e w h => then_N (s84_5 hN hR e w h)
  exact tree_ok 2 13 (bt 13 0) (.take 0 (bt 13 1) (.take 1 (bt 13 3) (.take 2 (bt 13 7) (.take 3 (bt 13 15) (.take 4 (bt 13 31) (.take 5 (bt 13 63) (.take 8 (bt 13 319) (.take 9 (bt 13 831) (.take 10 (bt 13 1855) (.alt 6 (bt 13 1919) (.alt 7 (bt 13 2047) (.take 11 (bt 13 4095) (.take 12 (bt 13 8191) .done)) .stop) .stop)))))))))) (fun e w => m84_5 R (e 0) (e 4) (e 20) w) (by kernel_rfl) (by kernel_rfl) (by kernel_rfl) (by kernel_rfl) (by kernel_rfl) (by kernel_rfl) (kcast (by kernel_rfl) h) hN (by kernel_rfl)
theorem s84_1 (hR : hR84 R Q) (e : Env) (w : World) (h : m84_1 R (e 0) w) : W84 k84_1 Q e w := by
  refine seA ?_
  exact rgA 1 (fun e w => m84_2 R (e 0) (e 4) w) h fun e w h => then_N (s84_2 hR e w h)
theorem s84_0 (hR : hR84 R Q) (e : Env) (w : World) (h : m84_0 R (e 0) w) : W84 k84_0 Q e w := by
  refine seA ?_
  exact rgA 0 (fun e w => m84_1 R (e 0) w) h fun e w h => then_N (s84_1 hR e w h)
abbrev m84 (R : VP) (s0 : Value) (w : World) : Prop := m84_0 R s0 w
theorem s84 (s0 : Value) {R : VP} {w : World} (h : m84 R s0 w) :
    Calls Tryz.prog 84 #[s0] w fun e w' => ∃ v, e = .returned v ∧ R v w' :=
  calls_of_cwp (st := (fun i => 0)) (c := k84_0) (by kernel_rfl) Tryz.func84 (by kernel_rfl) (Nat.le_of_ble_eq_true (by kernel_rfl)) (by kernel_rfl)
    (s84_0 (R := R) (Q := endE Tryz.prog Tryz.f84 R) (fun e w h => kcast (by kernel_rfl) h) (argsE #[s0]) w (kcast (by kernel_rfl) h))
end Go.Proofs.YtcldjjmfpmkldaaGreatDoor.M
namespace Go.Proofs.YtcldjjmfpmkldaaGreatDoor.M
open Go.Proofs.YtcldjjmfpmkldaaGreatDoor.F Go.RowKit
set_option linter.unusedVariables false
set_option linter.unusedSimpArgs false
set_option maxRecDepth 100000
set_option maxHeartbeats 2000000
attribute [local irreducible] Res.cells Res.row Res.map Res.any World.cell? World.frozen? Instr.fieldAt Instr.loadAt Instr.storeAt Instr.indexAt Instr.lookup Instr.mapUpdate Instr.box Instr.build Instr.buildSlice Instr.extract Instr.alloc Instr.field Instr.index Instr.sliceAt Instr.makeSlice Instr.makeMap Instr.makeFunc binS Op.unary Sem.run
section
variable (x y : Operand) (w : World)
theorem andR (a b : Int) : (binS .and 168 x y (.int .u32 a) (.int .u32 b)).run Tryz.prog w = .ok (.int .u32 (Go.bits .and .u32 a b)) w := by
  rw [binS_run _ _ _ _ _ _ (by kernel_rfl)]; simp [go_sem, binOp]
theorem xorR (a b : Int) : (binS .xor 168 x y (.int .u32 a) (.int .u32 b)).run Tryz.prog w = .ok (.int .u32 (Go.bits .xor .u32 a b)) w := by
  rw [binS_run _ _ _ _ _ _ (by kernel_rfl)]; simp [go_sem, binOp]
theorem shrR (a : Int) : (binS .shr 168 x y (.int .u32 a) (.int .u64 1)).run Tryz.prog w = .ok (.int .u32 (a / 2)) w := by
  rw [binS_run _ _ _ _ _ _ (by kernel_rfl)]
  simp [go_sem, binOp]
theorem cv8_R (a : Int) : (convert 5 168 (.int .u8 a)).run Tryz.prog w = .ok (.int .u32 (IntKind.u32.wrap a)) w := by simp [go_sem]
theorem notR (a : Int) : (Op.unary .xor (.int .u32 a)).run Tryz.prog w = .ok (.int .u32 (Go.bits .xor .u32 IntKind.u32.max a)) w := by simp [go_sem, IntKind.signed]
end
theorem wrap_u32 (n : Int) : IntKind.u32.wrap n = n % 4294967296 := by simp [IntKind.wrap, IntKind.bits, IntKind.signed]
theorem wraps_u32 (n : Int) (h₀ : 0 ≤ n) (h₁ : n < 2 ^ 32) : IntKind.u32.wrap n = n := by rw [wrap_u32]; omega
theorem bxor32 {a b : Nat} (ha : a < 2 ^ 32) (hb : b < 2 ^ 32) : Go.bits .xor .u32 (a : Int) (b : Int) = ((a ^^^ b : Nat) : Int) := by
  show IntKind.u32.wrap ((BitVec.ofInt 32 (a : Int) ^^^ BitVec.ofInt 32 (b : Int)).toNat) = _
  have := Nat.xor_lt_two_pow ha hb
  rw [BitVec.ofInt_natCast, BitVec.ofInt_natCast, BitVec.toNat_xor, BitVec.toNat_ofNat, BitVec.toNat_ofNat, Nat.mod_eq_of_lt ha, Nat.mod_eq_of_lt hb]
  exact wraps_u32 _ (by omega) (by omega)
theorem not32 {a : Nat} (ha : a < 2 ^ 32) : Go.bits .xor .u32 IntKind.u32.max (a : Int) = ((4294967295 - a : Nat) : Int) := by
  show IntKind.u32.wrap ((BitVec.ofInt 32 4294967295 ^^^ BitVec.ofInt 32 (a : Int)).toNat) = _
  have e : BitVec.ofInt 32 4294967295 = BitVec.allOnes 32 := by decide
  rw [e, BitVec.allOnes_xor, BitVec.toNat_not, BitVec.ofInt_natCast, BitVec.toNat_ofNat, Nat.mod_eq_of_lt ha, wrap_u32]
  omega
theorem and1_32 {a : Nat} (ha : a < 2 ^ 32) : Go.bits .and .u32 (a : Int) 1 = ((a % 2 : Nat) : Int) := by
  rw [show (1 : Int) = ((1 : Nat) : Int) from rfl, (bits_nat .u32 32 (by decide) wraps_u32 a 1 ha (by decide)).1, Nat.and_one_is_mod]
def stepN (r : Nat) : Nat := if r % 2 = 1 then r / 2 ^^^ 2197175160 else r / 2
theorem stepN_lt {r : Nat} (h : r < 2 ^ 32) : stepN r < 2 ^ 32 := by
  unfold stepN
  split
  · exact Nat.xor_lt_two_pow (by omega) (by decide)
  · omega
def stepK : Nat → Nat → Nat
  | 0, r => r
  | k + 1, r => stepN (stepK k r)
theorem stepK_lt {r : Nat} (h : r < 2 ^ 32) : ∀ k, stepK k r < 2 ^ 32
  | 0 => h
  | k + 1 => stepN_lt (stepK_lt h k)
def byteN (r b : Nat) : Nat := stepK 8 (r ^^^ b)
def regN (l : List Nat) (r : Nat) : Nat := l.foldl byteN r
theorem byteN_lt {r b : Nat} (h : r < 2 ^ 32) (hb : b < 256) : byteN r b < 2 ^ 32 := stepK_lt (Nat.xor_lt_two_pow h (by omega)) 8
theorem regN_lt {l : List Nat} {r : Nat} (hl : ∀ b ∈ l, b < 256) (h : r < 2 ^ 32) : regN l r < 2 ^ 32 := by
  unfold regN
  induction l generalizing r with
  | nil => exact h
  | cons b l ih => exact ih (fun b hb => hl b (.tail _ hb)) (byteN_lt h (hl b (.head _)))
theorem regN_step {l : List Nat} {i r : Nat} (h : i < l.length) : regN (l.take (i + 1)) r = byteN (regN (l.take i) r) l[i] := by
  unfold regN
  rw [List.take_succ_eq_append_getElem h, List.foldl_append]
  rfl
def sumN (s : ByteArray) : Nat := 4294967295 - regN (bytesN s) 4294967295
theorem sumN_lt (s : ByteArray) : sumN s < 2 ^ 32 := by unfold sumN; omega
def four (c : Nat) : List Nat := [c % 256, c / 256 % 256, c / 65536 % 256, c / 16777216 % 256]
theorem four_lt (c : Nat) : ∀ b ∈ four c, b < 256 := fun b hb => by
  simp only [four, List.mem_cons, List.not_mem_nil, or_false] at hb
  omega
def sealS (s : ByteArray) : ByteArray := s ++ strN (four (sumN s))
theorem strN_size (l : List Nat) (h : ∀ b ∈ l, b < 256) : (strN l).size = l.length := by
  rw [← bytesN_length, bytesN_strN h]
theorem sealS_size (s : ByteArray) : (sealS s).size = s.size + 4 := by
  unfold sealS
  rw [ByteArray.size_append, strN_size _ (four_lt _)]
  rfl
section
variable (x y : Operand) (w : World)
theorem xor113 (a b : Int) : (binS .xor 129 x y (.int .u32 a) (.int .u32 b)).run Tryz.prog w = .ok (.int .u32 (Go.bits .xor .u32 a b)) w := by
  rw [binS_run _ _ _ _ _ _ (by kernel_rfl)]; simp [go_sem, binOp]
theorem shr113_8 (a : Int) : (binS .shr 129 x y (.int .u32 a) (.int .u64 8)).run Tryz.prog w = .ok (.int .u32 (a / 256)) w := by
  rw [binS_run _ _ _ _ _ _ (by kernel_rfl)]
  simp [go_sem, binOp]
theorem shr113_16 (a : Int) : (binS .shr 129 x y (.int .u32 a) (.int .u64 16)).run Tryz.prog w = .ok (.int .u32 (a / 65536)) w := by
  rw [binS_run _ _ _ _ _ _ (by kernel_rfl)]
  simp [go_sem, binOp]
theorem shr113_24 (a : Int) : (binS .shr 129 x y (.int .u32 a) (.int .u64 24)).run Tryz.prog w = .ok (.int .u32 (a / 16777216)) w := by
  rw [binS_run _ _ _ _ _ _ (by kernel_rfl)]
  simp [go_sem, binOp]
theorem cv8_113 (a : Int) : (convert 5 129 (.int .u8 a)).run Tryz.prog w = .ok (.int .u32 (IntKind.u32.wrap a)) w := by simp [go_sem]
theorem cv113_8 (a : Int) : (convert 129 5 (.int .u32 a)).run Tryz.prog w = .ok (.int .u8 (IntKind.u8.wrap a)) w := by simp [go_sem]
theorem sub113 (a b : Nat) (h : b ≤ a) (ha : a < 2 ^ 32) : (binS .sub 129 x y (.int .u32 (a : Int)) (.int .u32 (b : Int))).run Tryz.prog w = .ok (.int .u32 ((a - b : Nat) : Int)) w := by
  rw [binS_run _ _ _ _ _ _ (by kernel_rfl)]
  simp [go_sem, binOp, wrap_u32]
  omega
theorem rem113 (a b : Nat) (hb : 0 < b) (ha : a < 2 ^ 32) : (binS .rem 129 x y (.int .u32 (a : Int)) (.int .u32 (b : Int))).run Tryz.prog w = .ok (.int .u32 ((a % b : Nat) : Int)) w := by
  rw [binS_run _ _ _ _ _ _ (by kernel_rfl)]
  have hne : ¬ (b : Int) = 0 := by omega
  have hne' : ¬ b = 0 := by omega
  have h1 : Int.tmod (a : Int) (b : Int) = ((a % b : Nat) : Int) := by rw [Int.tmod_eq_emod_of_nonneg (by omega)]; norm_cast
  have h2 : a % b ≤ a := Nat.mod_le _ _
  have h3 : IntKind.u32.wrap ((a % b : Nat) : Int) = ((a % b : Nat) : Int) := by
    generalize a % b = q at *
    exact wraps_u32 _ (by omega) (by omega)
  simp [go_sem, binOp, hne, hne', h1, h3, -Int.natCast_emod]
theorem quo113 (a b : Nat) (hb : 0 < b) (ha : a < 2 ^ 32) : (binS .quo 129 x y (.int .u32 (a : Int)) (.int .u32 (b : Int))).run Tryz.prog w = .ok (.int .u32 ((a / b : Nat) : Int)) w := by
  rw [binS_run _ _ _ _ _ _ (by kernel_rfl)]
  have hne : ¬ (b : Int) = 0 := by omega
  have hne' : ¬ b = 0 := by omega
  have h1 : Int.tdiv (a : Int) (b : Int) = ((a / b : Nat) : Int) := by rw [Int.tdiv_eq_ediv_of_nonneg (by omega)]; norm_cast
  have h2 : a / b ≤ a := Nat.div_le_self _ _
  have h3 : IntKind.u32.wrap ((a / b : Nat) : Int) = ((a / b : Nat) : Int) := by
    generalize a / b = q at *
    exact wraps_u32 _ (by omega) (by omega)
  simp [go_sem, binOp, hne, hne', h1, h3, -Int.natCast_ediv]
end
section
variable {w0 w : World} {F : List Nat} {L : List Res} {s : ByteArray}
theorem step_ret {r : Nat} (hr : r < 2 ^ 32) (hS : St w0 F w L) : Ret Tryz.prog 127 #[.int .u32 (r : Int)] w fun v w' => v = .int .u32 (stepN r : Int) ∧ St w0 F w' L := by
  refine s127 _ ?_
  unfold m127 m127_0 m127_1
  refine valP_ok (andR _ _ _ _ _) ?_
  rw [and1_32 hr]
  refine valP_ok (eq168 _ _ _ _ _) ?_
  unfold m127_4
  refine cond_split (fun h => ?_) (fun h => ?_)
  · refine valP_ok (shrR _ _ _ _) ?_
    rw [show (r : Int) / 2 = ((r / 2 : Nat) : Int) by omega]
    refine valP_ok (xorR _ _ _ _ _) ?_
    rw [show (2197175160 : Int) = ((2197175160 : Nat) : Int) from rfl, bxor32 (by omega) (by decide)]
    unfold m127_5 stepN
    rw [if_pos (by omega)]
    exact ⟨rfl, hS⟩
  · unfold m127_2
    refine valP_ok (shrR _ _ _ _) ?_
    rw [show (r : Int) / 2 = ((r / 2 : Nat) : Int) by omega]
    unfold m127_3 stepN
    rw [if_neg (by omega)]
    exact ⟨rfl, hS⟩
theorem more_ret (hs : s.size ≤ maxLen) (hS : St w0 F w L) : Ret Tryz.prog 109 #[.int .u32 0, .string s] w fun v w' => v = .int .u32 (sumN s : Int) ∧ St w0 F w' L := by
  have hs' : s.size ≤ 9223372036854775807 := hs
  refine s109 _ _ ?_
  unfold m109 m109_0 m109_1
  refine valP_ok (notR _ _) ?_
  rw [show (0 : Int) = ((0 : Nat) : Int) from rfl, not32 (by decide)]
  unfold m109_2
  refine builtin_ok (len9 _) ?_
  unfold m109_5
  refine loop_in (fun u w' => ∃ i : Nat, u = (.int .u32 (regN ((bytesN s).take i) 4294967295 : Int), .int .i64 (i : Int)) ∧ i ≤ s.size ∧ St w0 F w' L) (fun u _ => s.size - (intOf u.2).toNat) ⟨0, rfl, by omega, hS⟩ ?_
  clear hS
  rintro u w ⟨i, rfl, hi, hS⟩
  simp only
  have hlt : regN ((bytesN s).take i) 4294967295 < 2 ^ 32 := regN_lt (fun b hb => bytesN_lt s b (List.mem_of_mem_take hb)) (by decide)
  unfold m109_6
  refine valP_ok (lss_ok _ _ _ _ _ _ _) ?_
  unfold m109_7
  refine cond_split (fun h => ?_) (fun h => ?_)
  · have his : i < s.size := by omega
    have hst := regN_step (l := bytesN s) (i := i) (r := 4294967295) (by rw [bytesN_length]; exact his)
    rw [bytesN_get s i his] at hst
    have hb : s[i].toNat < 256 := UInt8.toNat_lt _
    generalize regN ((bytesN s).take i) 4294967295 = r at *
    unfold m109_8 m109_10
    refine valP_ok (sidx _ his) ?_
    refine valP_ok (cv8_R _ _) ?_
    rw [wraps_u32 _ (by omega) (by omega)]
    refine valP_ok (xorR _ _ _ _ _) ?_
    rw [bxor32 hlt (by omega)]
    unfold m109_11 m109_12
    have hx : r ^^^ s[i].toNat < 2 ^ 32 := Nat.xor_lt_two_pow hlt (by omega)
    refine loop_in (fun u w' => ∃ k : Nat, u = (.int .u32 (stepK k (r ^^^ s[i].toNat) : Int), .int .i64 (k : Int)) ∧ k ≤ 8 ∧ St w0 F w' L) (fun u _ => 8 - (intOf u.2).toNat) ⟨0, rfl, by omega, hS⟩ ?_
    clear hS
    rintro u w ⟨k, rfl, hk, hS⟩
    simp only
    unfold m109_13
    refine valP_ok (lss_ok _ _ _ _ _ _ _) ?_
    unfold m109_14
    refine cond_split (fun h1 => ?_) (fun h1 => ?_)
    · unfold m109_15
      refine callR (by kernel_rfl) (step_ret (stepK_lt hx k) hS) ?_
      rintro _ w ⟨rfl, hS⟩
      unfold m109_16
      refine valP_ok (add_ok _ _ _ (by omega) (by omega) _) ?_
      exact ⟨⟨k + 1, rfl, by omega, hS⟩, by simp [intOf]; omega⟩
    · obtain rfl : k = 8 := by omega
      unfold m109_9
      refine valP_ok (add_ok _ _ _ (by omega) (by omega) _) ?_
      refine ⟨⟨i + 1, ?_, by omega, hS⟩, by simp [intOf]; omega⟩
      rw [hst]
      rfl
  · obtain rfl : i = s.size := by omega
    rw [← bytesN_length, List.take_length] at hlt ⊢
    unfold m109_3
    refine valP_ok (notR _ _) ?_
    rw [not32 hlt]
    unfold m109_4
    exact ⟨rfl, hS⟩
theorem csum_ret (hs : s.size ≤ maxLen) (hS : St w0 F w L) : Ret Tryz.prog 90 #[.string s] w fun v w' => v = .int .u32 (sumN s : Int) ∧ St w0 F w' L := by
  refine s90 _ ?_
  unfold m90 m90_0 m90_1
  refine callR (by kernel_rfl) (more_ret hs hS) ?_
  rintro _ w ⟨rfl, hS⟩
  unfold m90_2
  exact ⟨rfl, hS⟩
theorem rmore_ret (hs : s.size ≤ maxLen) (hS : St w0 F w L) : Ret Tryz.prog 126 #[.int .u32 0, .string s] w fun v w' => v = .int .u32 (sumN s : Int) ∧ St w0 F w' L := by
  have hs' : s.size ≤ 9223372036854775807 := hs
  refine s126 _ _ ?_
  unfold m126 m126_0 m126_1
  refine valP_ok (sub113 _ _ _ 4294967295 0 (by omega) (by omega)) ?_
  unfold m126_2 m126_5
  refine loop_in (fun u w' => ∃ i : Nat, u = (.int .u32 (regN ((bytesN s).take i) 4294967295 : Int), .int .i64 (i : Int)) ∧ i ≤ s.size ∧ St w0 F w' L) (fun u _ => s.size - (intOf u.2).toNat) ⟨0, rfl, by omega, hS⟩ ?_
  clear hS
  rintro u w ⟨i, rfl, hi, hS⟩
  simp only
  have hlt : regN ((bytesN s).take i) 4294967295 < 2 ^ 32 := regN_lt (fun b hb => bytesN_lt s b (List.mem_of_mem_take hb)) (by decide)
  unfold m126_6
  refine builtin_ok (len9 _) ?_
  refine valP_ok (lss_ok _ _ _ _ _ _ _) ?_
  unfold m126_18
  refine cond_split (fun h => ?_) (fun h => ?_)
  · have his : i < s.size := by omega
    have hst := regN_step (l := bytesN s) (i := i) (r := 4294967295) (by rw [bytesN_length]; exact his)
    rw [bytesN_get s i his] at hst
    have hb : s[i].toNat < 256 := UInt8.toNat_lt _
    generalize regN ((bytesN s).take i) 4294967295 = r at *
    unfold m126_7
    refine valP_ok (sidx _ his) ?_
    refine valP_ok (cv8_113 _ _) ?_
    rw [wraps_u32 _ (by omega) (by omega)]
    refine valP_ok (xor113 _ _ _ _ _) ?_
    rw [bxor32 hlt (by omega)]
    unfold m126_9 m126_10
    have hx : r ^^^ s[i].toNat < 2 ^ 32 := Nat.xor_lt_two_pow hlt (by omega)
    refine loop_in (fun u w' => ∃ k : Nat, u = (.int .u32 (stepK k (r ^^^ s[i].toNat) : Int), .int .i64 (k : Int)) ∧ k ≤ 8 ∧ St w0 F w' L) (fun u _ => 8 - (intOf u.2).toNat) ⟨0, rfl, by omega, hS⟩ ?_
    clear hS
    rintro u w ⟨k, rfl, hk, hS⟩
    simp only
    have hkl := stepK_lt hx k
    have hsucc : stepK (k + 1) (r ^^^ s[i].toNat) = stepN (stepK k (r ^^^ s[i].toNat)) := rfl
    unfold m126_11
    refine valP_ok (lss_ok _ _ _ _ _ _ _) ?_
    unfold m126_17
    refine cond_split (fun h1 => ?_) (fun h1 => ?_)
    · generalize stepK k (r ^^^ s[i].toNat) = q at *
      unfold m126_12
      refine valP_ok (rem113 _ _ _ q 2 (by omega) hkl) ?_
      refine valP_ok (eq129 _ _ _ _ _) ?_
      unfold m126_14
      refine valP_ok (quo113 _ _ _ q 2 (by omega) hkl) ?_
      unfold m126_15 m126_16
      refine cond_split (fun h2 => ?_) (fun h2 => ?_)
      · refine valP_ok (xor113 _ _ _ _ _) ?_
        rw [show (2197175160 : Int) = ((2197175160 : Nat) : Int) from rfl, bxor32 (by omega) (by decide)]
        unfold m126_13
        refine valP_ok (add_ok _ _ _ (by omega) (by omega) _) ?_
        refine ⟨⟨k + 1, ?_, by omega, hS⟩, by simp [intOf]; omega⟩
        rw [hsucc, stepN, if_pos (by omega)]
        rfl
      · unfold m126_13
        refine valP_ok (add_ok _ _ _ (by omega) (by omega) _) ?_
        refine ⟨⟨k + 1, ?_, by omega, hS⟩, by simp [intOf]; omega⟩
        rw [hsucc, stepN, if_neg (by omega)]
        rfl
    · obtain rfl : k = 8 := by omega
      unfold m126_8
      refine valP_ok (add_ok _ _ _ (by omega) (by omega) _) ?_
      refine ⟨⟨i + 1, ?_, by omega, hS⟩, by simp [intOf]; omega⟩
      rw [hst]
      rfl
  · obtain rfl : i = s.size := by omega
    rw [← bytesN_length, List.take_length] at hlt ⊢
    unfold m126_3
    refine valP_ok (sub113 _ _ _ 4294967295 _ (by omega) (by omega)) ?_
    unfold m126_4
    exact ⟨rfl, hS⟩
theorem rsum_ret (hs : s.size ≤ maxLen) (hS : St w0 F w L) : Ret Tryz.prog 106 #[.string s] w fun v w' => v = .int .u32 (sumN s : Int) ∧ St w0 F w' L := by
  refine s106 _ ?_
  unfold m106 m106_0 m106_1
  refine callR (by kernel_rfl) (rmore_ret hs hS) ?_
  rintro _ w ⟨rfl, hS⟩
  unfold m106_2
  exact ⟨rfl, hS⟩
end
end Go.Proofs.YtcldjjmfpmkldaaGreatDoor.M
