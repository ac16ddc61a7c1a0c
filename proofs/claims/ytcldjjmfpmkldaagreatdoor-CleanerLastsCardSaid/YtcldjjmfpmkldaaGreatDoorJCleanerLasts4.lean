/- Parts of a proof, in one text: what it needs of Mcod0, V23, Mtrim0, D1, D1B, Msave0, E1, FwM. -/
import Derived.Test.YtcldjjmfpmkldaaGreatDoorJCleanerLasts3
import Derived.Test.YtcldjjmfpmkldaaGreatDoorProg
import Derived.Test.YtcldjjmfpmkldaaGreatDoorShelf
import Derived.Deep.WholeRow
import Derived.Lib.AsciiSet
import Derived.Sort.KeysCollected
namespace Go.Proofs.YtcldjjmfpmkldaaGreatDoor.M
open Go.Proofs.YtcldjjmfpmkldaaGreatDoor.F
set_option linter.unusedVariables false
set_option maxRecDepth 100000
def m21_15 (R : VP) (t2 t3 : Value) (w : World) : Prop :=
  R (Value.tuple #[t2, t3]) w
def m21_11 (R : VP) (K1 : VP) (b5 t17 t18 t19 : Value) (w : World) : Prop :=
  valP Tryz.prog (binS BinOp.add 3 (Operand.tmp 19) (Operand.const (Value.int IntKind.i64 1)) t19 (Value.int IntKind.i64 1)) w fun t31 w =>
  K1 t31 w
def m21_12 (R : VP) (K1 : VP) (b5 g7 t17 t18 t19 : Value) (w : World) : Prop :=
  anyDraw w fun w =>
  heldP w fun J =>
  valJ Tryz.prog J (Instr.fieldAt 58 g7 0) fun t23 =>
  valJ Tryz.prog J (Instr.loadAt 3 t23) fun t24 =>
  valJ Tryz.prog J (Instr.fieldAt 58 g7 1) fun t26 =>
  valJ Tryz.prog J (Instr.loadAt 56 t26) fun t27 =>
  callP Tryz.prog (fnV 59) #[t24] w fun t25 w =>
  stayP J w
  (callP Tryz.prog (fnV 60) #[t27] w fun t28 w =>
  stayP J w
  (valJ Tryz.prog J (binS BinOp.add 9 (Operand.tmp 25) (Operand.tmp 28) t25 t28) fun t29 =>
  callP Tryz.prog (fnV 58) #[b5, t29] w fun t30 w =>
  stayP J w
  (m21_11 R K1 b5 t17 t18 t19 w)))
def m21_10 (R : VP) (K1 : VP) (b5 t17 t18 t19 : Value) (w : World) : Prop :=
  valP Tryz.prog (Instr.indexAt 22 t17 t19) w fun t21 w =>
  valP Tryz.prog (Instr.loadAt 58 t21) w fun t22 w =>
  valP Tryz.prog (Instr.alloc 58 true (.tuple #[])) w fun g7 w =>
  unitP Tryz.prog (Instr.storeAt 58 g7 t22) w fun _ w =>
  m21_12 R K1 b5 g7 t17 t18 t19 w
def m21_6 (R : VP) (t2 t3 : Value) (w : World) : Prop :=
  R (Value.tuple #[t2, t3]) w
def m21_5 (R : VP) (b5 : Value) (w : World) : Prop :=
  callP Tryz.prog (fnV 62) #[b5] w fun t32 w =>
  callP Tryz.prog (fnV 61) #[t32] w fun t33 w =>
  m21_6 R t33 (Value.int IntKind.i64 0) w
def m21_9 (R : VP) (K1 : VP) (b5 t17 t18 t19 t20 : Value) (w : World) : Prop :=
  condP t20
  (m21_10 R K1 b5 t17 t18 t19 w)
  (m21_5 R b5 w)
def m21_8 (R : VP) (K1 : VP) (b5 t17 t18 t19 : Value) (w : World) : Prop :=
  valP Tryz.prog (binS BinOp.lss 3 (Operand.tmp 19) (Operand.tmp 18) t19 t18) w fun t20 w =>
  m21_9 R K1 b5 t17 t18 t19 t20 w
def m21_7 (R : VP) (b5 t17 t18 t19 : Value) (w : World) : Prop :=
  loopP (fun (K1 : VP) (s : Value) w => m21_8 R K1 b5 t17 t18 s w) t19 w
def m21_4 (R : VP) (l0 b5 : Value) (w : World) : Prop :=
  builtinP Tryz.prog Builtin.len #[22] 3 #[false] #[l0] w fun t18 w =>
  m21_7 R b5 l0 t18 (Value.int IntKind.i64 0) w
def m21_3 (R : VP) (l0 b5 : Value) (w : World) : Prop :=
  builtinP Tryz.prog Builtin.len #[22] 3 #[false] #[l0] w fun t14 w =>
  callP Tryz.prog (fnV 59) #[t14] w fun t15 w =>
  callP Tryz.prog (fnV 58) #[b5, t15] w fun t16 w =>
  m21_4 R l0 b5 w
def m21_2 (R : VP) (l0 : Value) (w : World) : Prop :=
  valP Tryz.prog (Instr.alloc 99 true (.tuple #[])) w fun b5 w =>
  m21_3 R l0 b5 w
def m21_14 (R : VP) (l0 e4 t11 : Value) (w : World) : Prop :=
  condP t11
  (m21_15 R (Value.string ⟨#[]⟩) e4 w)
  (m21_2 R l0 w)
def m21_13 (R : VP) (l0 e4 : Value) (w : World) : Prop :=
  valP Tryz.prog (binS BinOp.neq 26 (Operand.tmp 10) (Operand.const (Value.int IntKind.i64 0)) e4 (Value.int IntKind.i64 0)) w fun t11 w =>
  m21_14 R l0 e4 t11 w
def m21_1 (R : VP) (l0 : Value) (w : World) : Prop :=
  callP Tryz.prog (fnV 57) #[l0] w fun t9 w =>
  m21_13 R l0 t9 w
def m21_0 (R : VP) (l0 : Value) (w : World) : Prop :=
  m21_1 R l0 w
abbrev W21 := cwp Tryz.prog (fun i => 0)
noncomputable def k21_0 : Code := (bodyOf Tryz.f21)
noncomputable def k21_1 : Code := (c2 k21_0)
noncomputable def k21_2 : Code := (c2 k21_1)
noncomputable def k21_3 : Code := (c2 k21_2)
noncomputable def k21_4 : Code := (c2 k21_3)
noncomputable def k21_5 : Code := (c2 k21_4)
noncomputable def k21_6 : Code := (c2 k21_5)
noncomputable def k21_7 : Code := (c2 (c1 k21_4))
noncomputable def k21_8 : Code := (c1 (c1 k21_7))
noncomputable def k21_9 : Code := (c2 k21_8)
noncomputable def k21_10 : Code := (c2 k21_9)
noncomputable def k21_11 : Code := (c2 k21_10)
noncomputable def k21_12 : Code := (c2 (c1 (c1 k21_10)))
noncomputable def k21_13 : Code := (c2 (c1 k21_1))
noncomputable def k21_14 : Code := (c2 k21_13)
noncomputable def k21_15 : Code := (c2 (c1 k21_14))
theorem s21_15 {R : VP} {Q : EQ} (hR : ∀ e w, (R (Value.tuple #[(e 2), (e 3)]) w) → Q .ret e w) (e : Env) (w : World) (h : m21_15 R (e 2) (e 3) w) : W21 k21_15 Q e w := by
  unfold m21_15 at h
  exact reA (hR _ _ h)
theorem s21_11 {R : VP} {K1 : VP} {Q : EQ} (hN : ∀ e w, (K1 (e 19) w) → Q .normal e w) (e : Env) (w : World) (h : m21_11 R K1 (e 5) (e 17) (e 18) (e 19) w) : W21 k21_11 Q e w := by
  unfold m21_11 at h
  exact rgA 10 (fun e w => K1 (e 19) w) h hN
theorem s21_12 {R : VP} {K1 : VP} {Q : EQ} (hN : ∀ e w, (m21_11 R K1 (e 5) (e 17) (e 18) (e 19) w) → Q .normal e w) (e : Env) (w : World) (h : m21_12 R K1 (e 5) (e 7) (e 17) (e 18) (e 19) w) : W21 k21_12 Q e w := by
  unfold m21_12 at h
  exact treeJ_ok 9 8 [false, false, false, false, false, false, false, false] (.take 0 [true, false, false, false, false, false, false, false] (.take 1 [true, true, false, false, false, false, false, false] (.take 3 [true, true, false, true, false, false, false, false] (.take 4 [true, true, false, true, true, false, false, false] (.alt 2 [true, true, true, true, true, false, false, false] (.alt 5 [true, true, true, true, true, true, false, false] (.take 6 [true, true, true, true, true, true, true, false] (.alt 7 [true, true, true, true, true, true, true, true] .done .stop)) .stop) .stop))))) (fun e w => m21_11 R K1 (e 5) (e 17) (e 18) (e 19) w) (by kernel_rfl) (by kernel_rfl) (by kernel_rfl) (by kernel_rfl) (by kernel_rfl) (by kernel_rfl) (kcast (by kernel_rfl) h) hN (by kernel_rfl)
theorem s21_10 {R : VP} {K1 : VP} {Q : EQ} (hN : ∀ e w, (K1 (e 19) w) → Q .normal e w) (e : Env) (w : World) (h : m21_10 R K1 (e 5) (e 17) (e 18) (e 19) w) : W21 k21_10 Q e w := by
  unfold m21_10 at h
  refine seA ?_
  have hN : ∀ e w, (m21_11 R K1 (e 5) (e 17) (e 18) (e 19) w) → (thenE (W21 k21_11 Q) Q) .normal e w := fun e w h => then_N (s21_11 (R := R) (Q := Q) (K1 := K1) hN e w h)
  refine block_ok 1 (by kernel_rfl) ?_
  have hN : ∀ e w, (m21_11 R K1 (e 5) (e 17) (e 18) (e 19) w) → (inBlockE 1 (thenE (W21 k21_11 Q) Q)) .normal e w := fun e w h => block_N (hN e w h)
  refine seA ?_
  have hN : ∀ e w, (m21_12 R K1 (e 5) (e 7) (e 17) (e 18) (e 19) w) → (thenE (W21 k21_12 (inBlockE 1 (thenE (W21 k21_11 Q) Q))) (inBlockE 1 (thenE (W21 k21_11 Q) Q))) .normal e w := fun e w h => then_N (s21_12 (R := R) (Q := (inBlockE 1 (thenE (W21 k21_11 Q) Q))) (K1 := K1) hN e w h)
  exact rgA 8 (fun e w => m21_12 R K1 (e 5) (e 7) (e 17) (e 18) (e 19) w) h hN
theorem s21_6 {R : VP} {Q : EQ} (hR : ∀ e w, (R (Value.tuple #[(e 2), (e 3)]) w) → Q .ret e w) (e : Env) (w : World) (h : m21_6 R (e 2) (e 3) w) : W21 k21_6 Q e w := by
  unfold m21_6 at h
  exact reA (hR _ _ h)
theorem s21_5 {R : VP} {Q : EQ} (hR : ∀ e w, (R (Value.tuple #[(e 2), (e 3)]) w) → Q .ret e w) (e : Env) (w : World) (h : m21_5 R (e 5) w) : W21 k21_5 Q e w := by
  unfold m21_5 at h
  refine seA ?_
  have hN : ∀ e w, (m21_6 R (e 2) (e 3) w) → (thenE (W21 k21_6 Q) Q) .normal e w := fun e w h => then_N (s21_6 (R := R) (Q := Q) hR e w h)
  exact rgA 11 (fun e w => m21_6 R (e 2) (e 3) w) h hN
theorem s21_9 {R : VP} {K1 : VP} {Q : EQ} (hN : ∀ e w, (K1 (e 19) w) → Q .normal e w) (hX0 : ∀ e w, (m21_5 R (e 5) w) → Q (.exit 0) e w) (e : Env) (w : World) (h : m21_9 R K1 (e 5) (e 17) (e 18) (e 19) (e 20) w) : W21 k21_9 Q e w := by
  unfold m21_9 at h
  refine seA ?_
  have hN : ∀ e w, (m21_10 R K1 (e 5) (e 17) (e 18) (e 19) w) → (thenE (W21 k21_10 Q) Q) .normal e w := fun e w h => then_N (s21_10 (R := R) (Q := Q) (K1 := K1) hN e w h)
  have hX0 : ∀ e w, (m21_5 R (e 5) w) → (thenE (W21 k21_10 Q) Q) (.exit 0) e w := fun e w h => then_X (hX0 e w h)
  refine coA (Operand.tmp 20) h (fun h1 => ?_) (fun h1 => ?_)
  · exact skA (hN _ _ h1)
  · exact exA 0 (hX0 _ _ h1)
theorem s21_8 {R : VP} {K1 : VP} {Q : EQ} (hN : ∀ e w, (K1 (e 19) w) → Q .normal e w) (hX0 : ∀ e w, (m21_5 R (e 5) w) → Q (.exit 0) e w) (e : Env) (w : World) (h : m21_8 R K1 (e 5) (e 17) (e 18) (e 19) w) : W21 k21_8 Q e w := by
  unfold m21_8 at h
  refine seA ?_
  have hN : ∀ e w, (m21_9 R K1 (e 5) (e 17) (e 18) (e 19) (e 20) w) → (thenE (W21 k21_9 Q) Q) .normal e w := fun e w h => then_N (s21_9 (R := R) (Q := Q) (K1 := K1) hN hX0 e w h)
  exact rgA 7 (fun e w => m21_9 R K1 (e 5) (e 17) (e 18) (e 19) (e 20) w) h hN
theorem s21_7 {R : VP} {Q : EQ} (hN : ∀ e w, (m21_5 R (e 5) w) → Q .normal e w) (e : Env) (w : World) (h : m21_7 R (e 5) (e 17) (e 18) (e 19) w) : W21 k21_7 Q e w := by
  unfold m21_7 at h
  refine block_ok 0 (by kernel_rfl) ?_
  have hX0 : ∀ e w, (m21_5 R (e 5) w) → (inBlockE 0 Q) (.exit 0) e w := fun e w h => inBlock_same (Q := Q) 0 (hN e w h)
  refine loop_ok' (fun (e : Env) => e 19) [5, 17, 18] (by kernel_rfl) (by kernel_rfl) h (fun K e' w' hk h' => ?_)
  have r5 : e' 5 = e 5 := hk 5 (by decide)
  have r17 : e' 17 = e 17 := hk 17 (by decide)
  have r18 : e' 18 = e 18 := hk 18 (by decide)
  have hX0 : ∀ e w, (m21_5 R (e 5) w) → (thenE (fun (e : Env) w => K (e 19) w) (inBlockE 0 Q)) (.exit 0) e w := fun e w h => then_X (hX0 e w h)
  exact s21_8 (R := R) (Q := (thenE (fun (e : Env) w => K (e 19) w) (inBlockE 0 Q))) (K1 := K) (fun _ _ h => then_N h) hX0 e' w' (by rw [r5, r17, r18]; exact h')
theorem s21_4 {R : VP} {Q : EQ} (hR : ∀ e w, (R (Value.tuple #[(e 2), (e 3)]) w) → Q .ret e w) (e : Env) (w : World) (h : m21_4 R (e 0) (e 5) w) : W21 k21_4 Q e w := by
  unfold m21_4 at h
  refine seA ?_
  have hN : ∀ e w, (m21_5 R (e 5) w) → (thenE (W21 k21_5 Q) Q) .normal e w := fun e w h => then_N (s21_5 (R := R) (Q := Q) hR e w h)
  refine seA ?_
  have hN : ∀ e w, (m21_7 R (e 5) (e 17) (e 18) (e 19) w) → (thenE (W21 k21_7 (thenE (W21 k21_5 Q) Q)) (thenE (W21 k21_5 Q) Q)) .normal e w := fun e w h => then_N (s21_7 (R := R) (Q := (thenE (W21 k21_5 Q) Q)) hN e w h)
  exact rgA 6 (fun e w => m21_7 R (e 5) (e 17) (e 18) (e 19) w) h hN
theorem s21_3 {R : VP} {Q : EQ} (hR : ∀ e w, (R (Value.tuple #[(e 2), (e 3)]) w) → Q .ret e w) (e : Env) (w : World) (h : m21_3 R (e 0) (e 5) w) : W21 k21_3 Q e w := by
  unfold m21_3 at h
  refine seA ?_
  have hN : ∀ e w, (m21_4 R (e 0) (e 5) w) → (thenE (W21 k21_4 Q) Q) .normal e w := fun e w h => then_N (s21_4 (R := R) (Q := Q) hR e w h)
  exact rgA 5 (fun e w => m21_4 R (e 0) (e 5) w) h hN
theorem s21_2 {R : VP} {Q : EQ} (hR : ∀ e w, (R (Value.tuple #[(e 2), (e 3)]) w) → Q .ret e w) (e : Env) (w : World) (h : m21_2 R (e 0) w) : W21 k21_2 Q e w := by
  unfold m21_2 at h
  refine seA ?_
  have hN : ∀ e w, (m21_3 R (e 0) (e 5) w) → (thenE (W21 k21_3 Q) Q) .normal e w := fun e w h => then_N (s21_3 (R := R) (Q := Q) hR e w h)
  exact rgA 4 (fun e w => m21_3 R (e 0) (e 5) w) h hN
theorem s21_14 {R : VP} {Q : EQ} (hN : ∀ e w, (m21_2 R (e 0) w) → Q .normal e w) (hR : ∀ e w, (R (Value.tuple #[(e 2), (e 3)]) w) → Q .ret e w) (e : Env) (w : World) (h : m21_14 R (e 0) (e 4) (e 11) w) : W21 k21_14 Q e w := by
  unfold m21_14 at h
  refine coA (Operand.tmp 11) h (fun h1 => ?_) (fun h1 => ?_)
  · refine seA ?_
    have hN : ∀ e w, (m21_15 R (e 2) (e 3) w) → (thenE (W21 k21_15 Q) Q) .normal e w := fun e w h => then_N (s21_15 (R := R) (Q := Q) hR e w h)
    exact rgA 3 (fun e w => m21_15 R (e 2) (e 3) w) h1 hN
  · exact skA (hN _ _ h1)
theorem s21_13 {R : VP} {Q : EQ} (hN : ∀ e w, (m21_2 R (e 0) w) → Q .normal e w) (hR : ∀ e w, (R (Value.tuple #[(e 2), (e 3)]) w) → Q .ret e w) (e : Env) (w : World) (h : m21_13 R (e 0) (e 4) w) : W21 k21_13 Q e w := by
  unfold m21_13 at h
  refine seA ?_
  have hN : ∀ e w, (m21_14 R (e 0) (e 4) (e 11) w) → (thenE (W21 k21_14 Q) Q) .normal e w := fun e w h => then_N (s21_14 (R := R) (Q := Q) hN hR e w h)
  exact rgA 2 (fun e w => m21_14 R (e 0) (e 4) (e 11) w) h hN
theorem s21_1 {R : VP} {Q : EQ} (hR : ∀ e w, (R (Value.tuple #[(e 2), (e 3)]) w) → Q .ret e w) (e : Env) (w : World) (h : m21_1 R (e 0) w) : W21 k21_1 Q e w := by
  unfold m21_1 at h
  refine seA ?_
  have hN : ∀ e w, (m21_2 R (e 0) w) → (thenE (W21 k21_2 Q) Q) .normal e w := fun e w h => then_N (s21_2 (R := R) (Q := Q) hR e w h)
  have hR : ∀ e w, (R (Value.tuple #[(e 2), (e 3)]) w) → (thenE (W21 k21_2 Q) Q) .ret e w := fun e w h => then_R (hR e w h)
  refine seA ?_
  have hN : ∀ e w, (m21_13 R (e 0) (e 4) w) → (thenE (W21 k21_13 (thenE (W21 k21_2 Q) Q)) (thenE (W21 k21_2 Q) Q)) .normal e w := fun e w h => then_N (s21_13 (R := R) (Q := (thenE (W21 k21_2 Q) Q)) hN hR e w h)
  exact rgA 1 (fun e w => m21_13 R (e 0) (e 4) w) h hN
theorem s21_0 {R : VP} {Q : EQ} (hR : ∀ e w, (R (Value.tuple #[(e 2), (e 3)]) w) → Q .ret e w) (e : Env) (w : World) (h : m21_0 R (e 0) w) : W21 k21_0 Q e w := by
  unfold m21_0 at h
  refine seA ?_
  have hN : ∀ e w, (m21_1 R (e 0) w) → (thenE (W21 k21_1 Q) Q) .normal e w := fun e w h => then_N (s21_1 (R := R) (Q := Q) hR e w h)
  exact rgA 0 (fun e w => m21_1 R (e 0) w) h hN
abbrev m21 (R : VP) (l0 : Value) (w : World) : Prop := m21_0 R l0 w
theorem s21 (l0 : Value) {R : VP} {w : World} (h : m21 R l0 w) :
    Calls Tryz.prog 21 #[l0] w fun e w' => ∃ v, e = .returned v ∧ R v w' :=
  calls_of_cwp (st := (fun i => 0)) (c := k21_0) (by kernel_rfl) Tryz.func21 (by kernel_rfl) (Nat.le_of_ble_eq_true (by kernel_rfl)) (by kernel_rfl)
    (s21_0 (R := R) (Q := endE Tryz.prog Tryz.f21 R) (fun e w h => kcast (by kernel_rfl) h) (argsE #[l0]) w (kcast (by kernel_rfl) h))
def m34_29 (R : VP) (t2 t3 : Value) (w : World) : Prop :=
  R (Value.tuple #[t2, t3]) w
def m34_27 (R : VP) (t2 t3 : Value) (w : World) : Prop :=
  R (Value.tuple #[t2, t3]) w
def m34_25 (R : VP) (K1 : (Value × Value × Value) → World → Prop) (t2 t3 : Value) (w : World) : Prop :=
  R (Value.tuple #[t2, t3]) w
def m34_23 (R : VP) (K1 : (Value × Value × Value) → World → Prop) (t2 t3 : Value) (w : World) : Prop :=
  R (Value.tuple #[t2, t3]) w
def m34_16 (R : VP) (K1 : (Value × Value × Value) → World → Prop) (t4 l7 t36 t37 : Value) (w : World) : Prop :=
  valP Tryz.prog (binS BinOp.add 3 (Operand.tmp 37) (Operand.const (Value.int IntKind.i64 1)) t37 (Value.int IntKind.i64 1)) w fun t64 w =>
  K1 (t4, l7, t64) w
def m34_21 (R : VP) (K1 : (Value × Value × Value) → World → Prop) (l7 rest9 t36 t37 : Value) (w : World) : Prop :=
  m34_16 R K1 rest9 l7 t36 t37 w
def m34_20 (R : VP) (K1 : (Value × Value × Value) → World → Prop) (l7 off8 rest9 r11 t36 t37 : Value) (w : World) : Prop :=
  valP Tryz.prog (Instr.loadAt 56 r11) w fun t59 w =>
  valP Tryz.prog (Instr.build 58 #[(0, off8), (1, t59)]) w fun t60 w =>
  valP Tryz.prog (Instr.buildSlice 22 1 #[(0, t60)]) w fun t61 w =>
  builtinP Tryz.prog Builtin.append #[22, 22] 22 #[false, false] #[l7, t61] w fun t62 w =>
  m34_21 R K1 t62 rest9 t36 t37 w
def m34_22 (R : VP) (K1 : (Value × Value × Value) → World → Prop) (l7 off8 rest9 e10 r11 t36 t37 t55 : Value) (w : World) : Prop :=
  condP t55
  (m34_23 R K1 (Value.slice none 0 0) e10 w)
  (m34_20 R K1 l7 off8 rest9 r11 t36 t37 w)
def m34_19 (R : VP) (K1 : (Value × Value × Value) → World → Prop) (l7 off8 rest9 e10 r11 t36 t37 : Value) (w : World) : Prop :=
  valP Tryz.prog (binS BinOp.neq 26 (Operand.tmp 54) (Operand.const (Value.int IntKind.i64 0)) e10 (Value.int IntKind.i64 0)) w fun t55 w =>
  m34_22 R K1 l7 off8 rest9 e10 r11 t36 t37 t55 w
def m34_18 (R : VP) (K1 : (Value × Value × Value) → World → Prop) (l7 off8 rest9 t36 t37 : Value) (w : World) : Prop :=
  callP Tryz.prog (fnV 74) #[rest9] w fun t50 w =>
  valP Tryz.prog (Instr.extract t50 0) w fun t51 w =>
  valP Tryz.prog (Instr.extract t50 1) w fun t52 w =>
  valP Tryz.prog (Instr.extract t50 2) w fun t53 w =>
  valP Tryz.prog (Instr.alloc 56 true (.tuple #[])) w fun r11 w =>
  unitP Tryz.prog (Instr.storeAt 56 r11 t51) w fun _ w =>
  m34_19 R K1 l7 off8 t52 t53 r11 t36 t37 w
def m34_24 (R : VP) (K1 : (Value × Value × Value) → World → Prop) (l7 off8 rest9 e10 t36 t37 t46 : Value) (w : World) : Prop :=
  condP t46
  (m34_25 R K1 (Value.slice none 0 0) e10 w)
  (m34_18 R K1 l7 off8 rest9 t36 t37 w)
def m34_17 (R : VP) (K1 : (Value × Value × Value) → World → Prop) (l7 off8 rest9 e10 t36 t37 : Value) (w : World) : Prop :=
  valP Tryz.prog (binS BinOp.neq 26 (Operand.tmp 45) (Operand.const (Value.int IntKind.i64 0)) e10 (Value.int IntKind.i64 0)) w fun t46 w =>
  m34_24 R K1 l7 off8 rest9 e10 t36 t37 t46 w
def m34_15 (R : VP) (K1 : (Value × Value × Value) → World → Prop) (t4 l7 t36 t37 : Value) (w : World) : Prop :=
  callP Tryz.prog (fnV 73) #[t4] w fun t41 w =>
  valP Tryz.prog (Instr.extract t41 0) w fun t42 w =>
  valP Tryz.prog (Instr.extract t41 1) w fun t43 w =>
  valP Tryz.prog (Instr.extract t41 2) w fun t44 w =>
  m34_17 R K1 l7 t42 t43 t44 t36 t37 w
def m34_11 (R : VP) (t2 t3 : Value) (w : World) : Prop :=
  R (Value.tuple #[t2, t3]) w
def m34_9 (R : VP) (t2 t3 : Value) (w : World) : Prop :=
  R (Value.tuple #[t2, t3]) w
def m34_8 (R : VP) (l7 : Value) (w : World) : Prop :=
  m34_9 R l7 (Value.int IntKind.i64 0) w
def m34_10 (R : VP) (l7 t71 : Value) (w : World) : Prop :=
  condP t71
  (m34_11 R (Value.slice none 0 0) (Value.int IntKind.i64 2) w)
  (m34_8 R l7 w)
def m34_7 (R : VP) (t4 l7 : Value) (w : World) : Prop :=
  valP Tryz.prog (binS BinOp.neq 9 (Operand.tmp 65) (Operand.const (Value.string ⟨#[]⟩)) t4 (Value.string ⟨#[]⟩)) w fun t66 w =>
  condP t66
  (pickP t66 (Value.bool true) undef fun t71 =>
  m34_10 R l7 t71 w)
  (callP Tryz.prog (fnV 57) #[l7] w fun t69 w =>
  valP Tryz.prog (binS BinOp.neq 26 (Operand.tmp 69) (Operand.const (Value.int IntKind.i64 0)) t69 (Value.int IntKind.i64 0)) w fun t70 w =>
  pickP t66 (Value.bool true) t70 fun t71 =>
  m34_10 R l7 t71 w)
def m34_14 (R : VP) (K1 : (Value × Value × Value) → World → Prop) (t4 l7 t36 t37 t38 : Value) (w : World) : Prop :=
  condP t38
  (m34_15 R K1 t4 l7 t36 t37 w)
  (m34_7 R t4 l7 w)
def m34_13 (R : VP) (K1 : (Value × Value × Value) → World → Prop) (t4 l7 t36 t37 : Value) (w : World) : Prop :=
  valP Tryz.prog (binS BinOp.lss 3 (Operand.tmp 37) (Operand.tmp 36) t37 t36) w fun t38 w =>
  m34_14 R K1 t4 l7 t36 t37 t38 w
def m34_12 (R : VP) (t4 l7 t36 t37 : Value) (w : World) : Prop :=
  loopP (fun (K1 : (Value × Value × Value) → World → Prop) (s : Value × Value × Value) w => m34_13 R K1 s.1 s.2.1 t36 s.2.2 w) (t4, l7, t37) w
def m34_6 (R : VP) (t4 n6 l7 : Value) (w : World) : Prop :=
  m34_12 R t4 l7 n6 (Value.int IntKind.i64 0) w
def m34_5 (R : VP) (t4 n6 : Value) (w : World) : Prop :=
  m34_6 R t4 n6 (Value.slice none 0 0) w
def m34_26 (R : VP) (t4 n6 t35 : Value) (w : World) : Prop :=
  condP t35
  (m34_27 R (Value.slice none 0 0) (Value.int IntKind.i64 2) w)
  (m34_5 R t4 n6 w)
def m34_4 (R : VP) (t4 e5 n6 : Value) (w : World) : Prop :=
  valP Tryz.prog (binS BinOp.neq 26 (Operand.tmp 26) (Operand.const (Value.int IntKind.i64 0)) e5 (Value.int IntKind.i64 0)) w fun t27 w =>
  condP t27
  (pickP t27 (Value.bool true) undef fun t31 =>
  condP t31
  (pickP t31 (Value.bool true) undef fun t35 =>
  m34_26 R t4 n6 t35 w)
  (valP Tryz.prog (binS BinOp.gtr 3 (Operand.tmp 33) (Operand.const (Value.int IntKind.i64 4096)) n6 (Value.int IntKind.i64 4096)) w fun t34 w =>
  pickP t31 (Value.bool true) t34 fun t35 =>
  m34_26 R t4 n6 t35 w))
  (valP Tryz.prog (binS BinOp.lss 3 (Operand.tmp 29) (Operand.const (Value.int IntKind.i64 0)) n6 (Value.int IntKind.i64 0)) w fun t30 w =>
  pickP t27 (Value.bool true) t30 fun t31 =>
  condP t31
  (pickP t31 (Value.bool true) undef fun t35 =>
  m34_26 R t4 n6 t35 w)
  (valP Tryz.prog (binS BinOp.gtr 3 (Operand.tmp 33) (Operand.const (Value.int IntKind.i64 4096)) n6 (Value.int IntKind.i64 4096)) w fun t34 w =>
  pickP t31 (Value.bool true) t34 fun t35 =>
  m34_26 R t4 n6 t35 w))
def m34_3 (R : VP) (t4 : Value) (w : World) : Prop :=
  callP Tryz.prog (fnV 73) #[t4] w fun t22 w =>
  valP Tryz.prog (Instr.extract t22 0) w fun t23 w =>
  valP Tryz.prog (Instr.extract t22 1) w fun t24 w =>
  valP Tryz.prog (Instr.extract t22 2) w fun t25 w =>
  m34_4 R t24 t25 t23 w
def m34_28 (R : VP) (t4 e5 t18 : Value) (w : World) : Prop :=
  condP t18
  (m34_29 R (Value.slice none 0 0) e5 w)
  (m34_3 R t4 w)
def m34_2 (R : VP) (t4 e5 : Value) (w : World) : Prop :=
  valP Tryz.prog (binS BinOp.neq 26 (Operand.tmp 17) (Operand.const (Value.int IntKind.i64 0)) e5 (Value.int IntKind.i64 0)) w fun t18 w =>
  m34_28 R t4 e5 t18 w
def m34_1 (R : VP) (s0 : Value) (w : World) : Prop :=
  callP Tryz.prog (fnV 72) #[s0] w fun t14 w =>
  valP Tryz.prog (Instr.extract t14 0) w fun t15 w =>
  valP Tryz.prog (Instr.extract t14 1) w fun t16 w =>
  m34_2 R t15 t16 w
def m34_0 (R : VP) (s0 : Value) (w : World) : Prop :=
  m34_1 R s0 w
abbrev W34 := cwp Tryz.prog (fun i => 0)
noncomputable def k34_0 : Code := (bodyOf Tryz.f34)
noncomputable def k34_1 : Code := (c2 k34_0)
noncomputable def k34_2 : Code := (c2 k34_1)
noncomputable def k34_3 : Code := (c2 k34_2)
noncomputable def k34_4 : Code := (c2 k34_3)
noncomputable def k34_5 : Code := (c2 k34_4)
noncomputable def k34_6 : Code := (c2 k34_5)
noncomputable def k34_7 : Code := (c2 k34_6)
noncomputable def k34_8 : Code := (c2 k34_7)
noncomputable def k34_9 : Code := (c2 k34_8)
noncomputable def k34_10 : Code := (c2 (c1 k34_7))
noncomputable def k34_11 : Code := (c2 (c1 k34_10))
noncomputable def k34_12 : Code := (c2 (c1 k34_6))
noncomputable def k34_13 : Code := (c1 (c1 k34_12))
noncomputable def k34_14 : Code := (c2 k34_13)
noncomputable def k34_15 : Code := (c2 k34_14)
noncomputable def k34_16 : Code := (c2 k34_15)
noncomputable def k34_17 : Code := (c2 (c1 (c1 k34_15)))
noncomputable def k34_18 : Code := (c2 k34_17)
noncomputable def k34_19 : Code := (c2 k34_18)
noncomputable def k34_20 : Code := (c2 k34_19)
noncomputable def k34_21 : Code := (c2 k34_20)
noncomputable def k34_22 : Code := (c2 (c1 k34_19))
noncomputable def k34_23 : Code := (c2 (c1 k34_22))
noncomputable def k34_24 : Code := (c2 (c1 k34_17))
noncomputable def k34_25 : Code := (c2 (c1 k34_24))
noncomputable def k34_26 : Code := (c2 (c1 k34_4))
noncomputable def k34_27 : Code := (c2 (c1 k34_26))
noncomputable def k34_28 : Code := (c2 (c1 k34_2))
noncomputable def k34_29 : Code := (c2 (c1 k34_28))
theorem s34_29 {R : VP} {Q : EQ} (hR : ∀ e w, (R (Value.tuple #[(e 2), (e 3)]) w) → Q .ret e w) (e : Env) (w : World) (h : m34_29 R (e 2) (e 3) w) : W34 k34_29 Q e w := by
  unfold m34_29 at h
  exact reA (hR _ _ h)
theorem s34_27 {R : VP} {Q : EQ} (hR : ∀ e w, (R (Value.tuple #[(e 2), (e 3)]) w) → Q .ret e w) (e : Env) (w : World) (h : m34_27 R (e 2) (e 3) w) : W34 k34_27 Q e w := by
  unfold m34_27 at h
  exact reA (hR _ _ h)
theorem s34_25 {R : VP} {K1 : (Value × Value × Value) → World → Prop} {Q : EQ} (hR : ∀ e w, (R (Value.tuple #[(e 2), (e 3)]) w) → Q .ret e w) (e : Env) (w : World) (h : m34_25 R K1 (e 2) (e 3) w) : W34 k34_25 Q e w := by
  unfold m34_25 at h
  exact reA (hR _ _ h)
theorem s34_23 {R : VP} {K1 : (Value × Value × Value) → World → Prop} {Q : EQ} (hR : ∀ e w, (R (Value.tuple #[(e 2), (e 3)]) w) → Q .ret e w) (e : Env) (w : World) (h : m34_23 R K1 (e 2) (e 3) w) : W34 k34_23 Q e w := by
  unfold m34_23 at h
  exact reA (hR _ _ h)
theorem s34_16 {R : VP} {K1 : (Value × Value × Value) → World → Prop} {Q : EQ} (hN : ∀ e w, (K1 ((e 4), (e 7), (e 37)) w) → Q .normal e w) (e : Env) (w : World) (h : m34_16 R K1 (e 4) (e 7) (e 36) (e 37) w) : W34 k34_16 Q e w := by
  unfold m34_16 at h
  exact rgA 18 (fun e w => K1 ((e 4), (e 7), (e 37)) w) h hN
theorem s34_21 {R : VP} {K1 : (Value × Value × Value) → World → Prop} {Q : EQ} (hN : ∀ e w, (m34_16 R K1 (e 4) (e 7) (e 36) (e 37) w) → Q .normal e w) (e : Env) (w : World) (h : m34_21 R K1 (e 7) (e 9) (e 36) (e 37) w) : W34 k34_21 Q e w := by
  unfold m34_21 at h
  exact rgA 17 (fun e w => m34_16 R K1 (e 4) (e 7) (e 36) (e 37) w) h hN
theorem s34_20 {R : VP} {K1 : (Value × Value × Value) → World → Prop} {Q : EQ} (hN : ∀ e w, (m34_16 R K1 (e 4) (e 7) (e 36) (e 37) w) → Q .normal e w) (e : Env) (w : World) (h : m34_20 R K1 (e 7) (e 8) (e 9) (e 11) (e 36) (e 37) w) : W34 k34_20 Q e w := by
  unfold m34_20 at h
  refine seA ?_
  have hN : ∀ e w, (m34_21 R K1 (e 7) (e 9) (e 36) (e 37) w) → (thenE (W34 k34_21 Q) Q) .normal e w := fun e w h => then_N (s34_21 (R := R) (Q := Q) (K1 := K1) hN e w h)
  exact rgA 16 (fun e w => m34_21 R K1 (e 7) (e 9) (e 36) (e 37) w) h hN
theorem s34_22 {R : VP} {K1 : (Value × Value × Value) → World → Prop} {Q : EQ} (hN : ∀ e w, (m34_20 R K1 (e 7) (e 8) (e 9) (e 11) (e 36) (e 37) w) → Q .normal e w) (hR : ∀ e w, (R (Value.tuple #[(e 2), (e 3)]) w) → Q .ret e w) (e : Env) (w : World) (h : m34_22 R K1 (e 7) (e 8) (e 9) (e 10) (e 11) (e 36) (e 37) (e 55) w) : W34 k34_22 Q e w := by
  unfold m34_22 at h
  refine coA (Operand.tmp 55) h (fun h1 => ?_) (fun h1 => ?_)
  · refine seA ?_
    have hN : ∀ e w, (m34_23 R K1 (e 2) (e 3) w) → (thenE (W34 k34_23 Q) Q) .normal e w := fun e w h => then_N (s34_23 (R := R) (Q := Q) (K1 := K1) hR e w h)
    exact rgA 15 (fun e w => m34_23 R K1 (e 2) (e 3) w) h1 hN
  · exact skA (hN _ _ h1)
theorem s34_19 {R : VP} {K1 : (Value × Value × Value) → World → Prop} {Q : EQ} (hN : ∀ e w, (m34_16 R K1 (e 4) (e 7) (e 36) (e 37) w) → Q .normal e w) (hR : ∀ e w, (R (Value.tuple #[(e 2), (e 3)]) w) → Q .ret e w) (e : Env) (w : World) (h : m34_19 R K1 (e 7) (e 8) (e 9) (e 10) (e 11) (e 36) (e 37) w) : W34 k34_19 Q e w := by
  unfold m34_19 at h
  refine seA ?_
  have hN : ∀ e w, (m34_20 R K1 (e 7) (e 8) (e 9) (e 11) (e 36) (e 37) w) → (thenE (W34 k34_20 Q) Q) .normal e w := fun e w h => then_N (s34_20 (R := R) (Q := Q) (K1 := K1) hN e w h)
  have hR : ∀ e w, (R (Value.tuple #[(e 2), (e 3)]) w) → (thenE (W34 k34_20 Q) Q) .ret e w := fun e w h => then_R (hR e w h)
  refine seA ?_
  have hN : ∀ e w, (m34_22 R K1 (e 7) (e 8) (e 9) (e 10) (e 11) (e 36) (e 37) (e 55) w) → (thenE (W34 k34_22 (thenE (W34 k34_20 Q) Q)) (thenE (W34 k34_20 Q) Q)) .normal e w := fun e w h => then_N (s34_22 (R := R) (Q := (thenE (W34 k34_20 Q) Q)) (K1 := K1) hN hR e w h)
  exact rgA 14 (fun e w => m34_22 R K1 (e 7) (e 8) (e 9) (e 10) (e 11) (e 36) (e 37) (e 55) w) h hN
theorem s34_18 {R : VP} {K1 : (Value × Value × Value) → World → Prop} {Q : EQ} (hN : ∀ e w, (m34_16 R K1 (e 4) (e 7) (e 36) (e 37) w) → Q .normal e w) (hR : ∀ e w, (R (Value.tuple #[(e 2), (e 3)]) w) → Q .ret e w) (e : Env) (w : World) (h : m34_18 R K1 (e 7) (e 8) (e 9) (e 36) (e 37) w) : W34 k34_18 Q e w := by
  unfold m34_18 at h
  refine seA ?_
  have hN : ∀ e w, (m34_19 R K1 (e 7) (e 8) (e 9) (e 10) (e 11) (e 36) (e 37) w) → (thenE (W34 k34_19 Q) Q) .normal e w := fun e w h => then_N (s34_19 (R := R) (Q := Q) (K1 := K1) hN hR e w h)
  exact rgA 13 (fun e w => m34_19 R K1 (e 7) (e 8) (e 9) (e 10) (e 11) (e 36) (e 37) w) h hN
theorem s34_24 {R : VP} {K1 : (Value × Value × Value) → World → Prop} {Q : EQ} (hN : ∀ e w, (m34_18 R K1 (e 7) (e 8) (e 9) (e 36) (e 37) w) → Q .normal e w) (hR : ∀ e w, (R (Value.tuple #[(e 2), (e 3)]) w) → Q .ret e w) (e : Env) (w : World) (h : m34_24 R K1 (e 7) (e 8) (e 9) (e 10) (e 36) (e 37) (e 46) w) : W34 k34_24 Q e w := by
  unfold m34_24 at h
  refine coA (Operand.tmp 46) h (fun h1 => ?_) (fun h1 => ?_)
  · refine seA ?_
    have hN : ∀ e w, (m34_25 R K1 (e 2) (e 3) w) → (thenE (W34 k34_25 Q) Q) .normal e w := fun e w h => then_N (s34_25 (R := R) (Q := Q) (K1 := K1) hR e w h)
    exact rgA 12 (fun e w => m34_25 R K1 (e 2) (e 3) w) h1 hN
  · exact skA (hN _ _ h1)
theorem s34_17 {R : VP} {K1 : (Value × Value × Value) → World → Prop} {Q : EQ} (hN : ∀ e w, (m34_16 R K1 (e 4) (e 7) (e 36) (e 37) w) → Q .normal e w) (hR : ∀ e w, (R (Value.tuple #[(e 2), (e 3)]) w) → Q .ret e w) (e : Env) (w : World) (h : m34_17 R K1 (e 7) (e 8) (e 9) (e 10) (e 36) (e 37) w) : W34 k34_17 Q e w := by
  unfold m34_17 at h
  refine seA ?_
  have hN : ∀ e w, (m34_18 R K1 (e 7) (e 8) (e 9) (e 36) (e 37) w) → (thenE (W34 k34_18 Q) Q) .normal e w := fun e w h => then_N (s34_18 (R := R) (Q := Q) (K1 := K1) hN hR e w h)
  have hR : ∀ e w, (R (Value.tuple #[(e 2), (e 3)]) w) → (thenE (W34 k34_18 Q) Q) .ret e w := fun e w h => then_R (hR e w h)
  refine seA ?_
  have hN : ∀ e w, (m34_24 R K1 (e 7) (e 8) (e 9) (e 10) (e 36) (e 37) (e 46) w) → (thenE (W34 k34_24 (thenE (W34 k34_18 Q) Q)) (thenE (W34 k34_18 Q) Q)) .normal e w := fun e w h => then_N (s34_24 (R := R) (Q := (thenE (W34 k34_18 Q) Q)) (K1 := K1) hN hR e w h)
  exact rgA 11 (fun e w => m34_24 R K1 (e 7) (e 8) (e 9) (e 10) (e 36) (e 37) (e 46) w) h hN
theorem s34_15 {R : VP} {K1 : (Value × Value × Value) → World → Prop} {Q : EQ} (hN : ∀ e w, (K1 ((e 4), (e 7), (e 37)) w) → Q .normal e w) (hR : ∀ e w, (R (Value.tuple #[(e 2), (e 3)]) w) → Q .ret e w) (e : Env) (w : World) (h : m34_15 R K1 (e 4) (e 7) (e 36) (e 37) w) : W34 k34_15 Q e w := by
  unfold m34_15 at h
  refine seA ?_
  have hN : ∀ e w, (m34_16 R K1 (e 4) (e 7) (e 36) (e 37) w) → (thenE (W34 k34_16 Q) Q) .normal e w := fun e w h => then_N (s34_16 (R := R) (Q := Q) (K1 := K1) hN e w h)
  have hR : ∀ e w, (R (Value.tuple #[(e 2), (e 3)]) w) → (thenE (W34 k34_16 Q) Q) .ret e w := fun e w h => then_R (hR e w h)
  refine block_ok 1 (by kernel_rfl) ?_
  have hN : ∀ e w, (m34_16 R K1 (e 4) (e 7) (e 36) (e 37) w) → (inBlockE 1 (thenE (W34 k34_16 Q) Q)) .normal e w := fun e w h => block_N (hN e w h)
  have hR : ∀ e w, (R (Value.tuple #[(e 2), (e 3)]) w) → (inBlockE 1 (thenE (W34 k34_16 Q) Q)) .ret e w := fun e w h => block_R (hR e w h)
  refine seA ?_
  have hN : ∀ e w, (m34_17 R K1 (e 7) (e 8) (e 9) (e 10) (e 36) (e 37) w) → (thenE (W34 k34_17 (inBlockE 1 (thenE (W34 k34_16 Q) Q))) (inBlockE 1 (thenE (W34 k34_16 Q) Q))) .normal e w := fun e w h => then_N (s34_17 (R := R) (Q := (inBlockE 1 (thenE (W34 k34_16 Q) Q))) (K1 := K1) hN hR e w h)
  exact rgA 10 (fun e w => m34_17 R K1 (e 7) (e 8) (e 9) (e 10) (e 36) (e 37) w) h hN
theorem s34_11 {R : VP} {Q : EQ} (hR : ∀ e w, (R (Value.tuple #[(e 2), (e 3)]) w) → Q .ret e w) (e : Env) (w : World) (h : m34_11 R (e 2) (e 3) w) : W34 k34_11 Q e w := by
  unfold m34_11 at h
  exact reA (hR _ _ h)
theorem s34_9 {R : VP} {Q : EQ} (hR : ∀ e w, (R (Value.tuple #[(e 2), (e 3)]) w) → Q .ret e w) (e : Env) (w : World) (h : m34_9 R (e 2) (e 3) w) : W34 k34_9 Q e w := by
  unfold m34_9 at h
  exact reA (hR _ _ h)
theorem s34_8 {R : VP} {Q : EQ} (hR : ∀ e w, (R (Value.tuple #[(e 2), (e 3)]) w) → Q .ret e w) (e : Env) (w : World) (h : m34_8 R (e 7) w) : W34 k34_8 Q e w := by
  unfold m34_8 at h
  refine seA ?_
  have hN : ∀ e w, (m34_9 R (e 2) (e 3) w) → (thenE (W34 k34_9 Q) Q) .normal e w := fun e w h => then_N (s34_9 (R := R) (Q := Q) hR e w h)
  exact rgA 21 (fun e w => m34_9 R (e 2) (e 3) w) h hN
theorem s34_10 {R : VP} {Q : EQ} (hN : ∀ e w, (m34_8 R (e 7) w) → Q .normal e w) (hR : ∀ e w, (R (Value.tuple #[(e 2), (e 3)]) w) → Q .ret e w) (e : Env) (w : World) (h : m34_10 R (e 7) (e 71) w) : W34 k34_10 Q e w := by
  unfold m34_10 at h
  refine coA (Operand.tmp 71) h (fun h1 => ?_) (fun h1 => ?_)
  · refine seA ?_
    have hN : ∀ e w, (m34_11 R (e 2) (e 3) w) → (thenE (W34 k34_11 Q) Q) .normal e w := fun e w h => then_N (s34_11 (R := R) (Q := Q) hR e w h)
    exact rgA 20 (fun e w => m34_11 R (e 2) (e 3) w) h1 hN
  · exact skA (hN _ _ h1)
theorem s34_7 {R : VP} {Q : EQ} (hR : ∀ e w, (R (Value.tuple #[(e 2), (e 3)]) w) → Q .ret e w) (e : Env) (w : World) (h : m34_7 R (e 4) (e 7) w) : W34 k34_7 Q e w := by
  unfold m34_7 at h
  refine seA ?_
  have hN : ∀ e w, (m34_8 R (e 7) w) → (thenE (W34 k34_8 Q) Q) .normal e w := fun e w h => then_N (s34_8 (R := R) (Q := Q) hR e w h)
  have hR : ∀ e w, (R (Value.tuple #[(e 2), (e 3)]) w) → (thenE (W34 k34_8 Q) Q) .ret e w := fun e w h => then_R (hR e w h)
  refine seA ?_
  have hN : ∀ e w, (m34_10 R (e 7) (e 71) w) → (thenE (W34 k34_10 (thenE (W34 k34_8 Q) Q)) (thenE (W34 k34_8 Q) Q)) .normal e w := fun e w h => then_N (s34_10 (R := R) (Q := (thenE (W34 k34_8 Q) Q)) hN hR e w h)
  exact rgA 19 (fun e w => m34_10 R (e 7) (e 71) w) h hN
theorem s34_14 {R : VP} {K1 : (Value × Value × Value) → World → Prop} {Q : EQ} (hN : ∀ e w, (K1 ((e 4), (e 7), (e 37)) w) → Q .normal e w) (hR : ∀ e w, (R (Value.tuple #[(e 2), (e 3)]) w) → Q .ret e w) (hX0 : ∀ e w, (m34_7 R (e 4) (e 7) w) → Q (.exit 0) e w) (e : Env) (w : World) (h : m34_14 R K1 (e 4) (e 7) (e 36) (e 37) (e 38) w) : W34 k34_14 Q e w := by
  unfold m34_14 at h
  refine seA ?_
  have hN : ∀ e w, (m34_15 R K1 (e 4) (e 7) (e 36) (e 37) w) → (thenE (W34 k34_15 Q) Q) .normal e w := fun e w h => then_N (s34_15 (R := R) (Q := Q) (K1 := K1) hN hR e w h)
  have hX0 : ∀ e w, (m34_7 R (e 4) (e 7) w) → (thenE (W34 k34_15 Q) Q) (.exit 0) e w := fun e w h => then_X (hX0 e w h)
  refine coA (Operand.tmp 38) h (fun h1 => ?_) (fun h1 => ?_)
  · exact skA (hN _ _ h1)
  · exact exA 0 (hX0 _ _ h1)
theorem s34_13 {R : VP} {K1 : (Value × Value × Value) → World → Prop} {Q : EQ} (hN : ∀ e w, (K1 ((e 4), (e 7), (e 37)) w) → Q .normal e w) (hR : ∀ e w, (R (Value.tuple #[(e 2), (e 3)]) w) → Q .ret e w) (hX0 : ∀ e w, (m34_7 R (e 4) (e 7) w) → Q (.exit 0) e w) (e : Env) (w : World) (h : m34_13 R K1 (e 4) (e 7) (e 36) (e 37) w) : W34 k34_13 Q e w := by
  unfold m34_13 at h
  refine seA ?_
  have hN : ∀ e w, (m34_14 R K1 (e 4) (e 7) (e 36) (e 37) (e 38) w) → (thenE (W34 k34_14 Q) Q) .normal e w := fun e w h => then_N (s34_14 (R := R) (Q := Q) (K1 := K1) hN hR hX0 e w h)
  exact rgA 9 (fun e w => m34_14 R K1 (e 4) (e 7) (e 36) (e 37) (e 38) w) h hN
theorem s34_12 {R : VP} {Q : EQ} (hN : ∀ e w, (m34_7 R (e 4) (e 7) w) → Q .normal e w) (hR : ∀ e w, (R (Value.tuple #[(e 2), (e 3)]) w) → Q .ret e w) (e : Env) (w : World) (h : m34_12 R (e 4) (e 7) (e 36) (e 37) w) : W34 k34_12 Q e w := by
  unfold m34_12 at h
  refine block_ok 0 (by kernel_rfl) ?_
  have hX0 : ∀ e w, (m34_7 R (e 4) (e 7) w) → (inBlockE 0 Q) (.exit 0) e w := fun e w h => inBlock_same (Q := Q) 0 (hN e w h)
  have hR : ∀ e w, (R (Value.tuple #[(e 2), (e 3)]) w) → (inBlockE 0 Q) .ret e w := fun e w h => block_R (hR e w h)
  refine loop_ok' (fun (e : Env) => (e 4, e 7, e 37)) [36] (by kernel_rfl) (by kernel_rfl) h (fun K e' w' hk h' => ?_)
  have r36 : e' 36 = e 36 := hk 36 (by decide)
  have hR : ∀ e w, (R (Value.tuple #[(e 2), (e 3)]) w) → (thenE (fun (e : Env) w => K ((e 4), (e 7), (e 37)) w) (inBlockE 0 Q)) .ret e w := fun e w h => then_R (hR e w h)
  have hX0 : ∀ e w, (m34_7 R (e 4) (e 7) w) → (thenE (fun (e : Env) w => K ((e 4), (e 7), (e 37)) w) (inBlockE 0 Q)) (.exit 0) e w := fun e w h => then_X (hX0 e w h)
  exact s34_13 (R := R) (Q := (thenE (fun (e : Env) w => K ((e 4), (e 7), (e 37)) w) (inBlockE 0 Q))) (K1 := K) (fun _ _ h => then_N h) hR hX0 e' w' (by rw [r36]; exact h')
theorem s34_6 {R : VP} {Q : EQ} (hR : ∀ e w, (R (Value.tuple #[(e 2), (e 3)]) w) → Q .ret e w) (e : Env) (w : World) (h : m34_6 R (e 4) (e 6) (e 7) w) : W34 k34_6 Q e w := by
  unfold m34_6 at h
  refine seA ?_
  have hN : ∀ e w, (m34_7 R (e 4) (e 7) w) → (thenE (W34 k34_7 Q) Q) .normal e w := fun e w h => then_N (s34_7 (R := R) (Q := Q) hR e w h)
  have hR : ∀ e w, (R (Value.tuple #[(e 2), (e 3)]) w) → (thenE (W34 k34_7 Q) Q) .ret e w := fun e w h => then_R (hR e w h)
  refine seA ?_
  have hN : ∀ e w, (m34_12 R (e 4) (e 7) (e 36) (e 37) w) → (thenE (W34 k34_12 (thenE (W34 k34_7 Q) Q)) (thenE (W34 k34_7 Q) Q)) .normal e w := fun e w h => then_N (s34_12 (R := R) (Q := (thenE (W34 k34_7 Q) Q)) hN hR e w h)
  exact rgA 8 (fun e w => m34_12 R (e 4) (e 7) (e 36) (e 37) w) h hN
theorem s34_5 {R : VP} {Q : EQ} (hR : ∀ e w, (R (Value.tuple #[(e 2), (e 3)]) w) → Q .ret e w) (e : Env) (w : World) (h : m34_5 R (e 4) (e 6) w) : W34 k34_5 Q e w := by
  unfold m34_5 at h
  refine seA ?_
  have hN : ∀ e w, (m34_6 R (e 4) (e 6) (e 7) w) → (thenE (W34 k34_6 Q) Q) .normal e w := fun e w h => then_N (s34_6 (R := R) (Q := Q) hR e w h)
  exact rgA 7 (fun e w => m34_6 R (e 4) (e 6) (e 7) w) h hN
theorem s34_26 {R : VP} {Q : EQ} (hN : ∀ e w, (m34_5 R (e 4) (e 6) w) → Q .normal e w) (hR : ∀ e w, (R (Value.tuple #[(e 2), (e 3)]) w) → Q .ret e w) (e : Env) (w : World) (h : m34_26 R (e 4) (e 6) (e 35) w) : W34 k34_26 Q e w := by
  unfold m34_26 at h
  refine coA (Operand.tmp 35) h (fun h1 => ?_) (fun h1 => ?_)
  · refine seA ?_
    have hN : ∀ e w, (m34_27 R (e 2) (e 3) w) → (thenE (W34 k34_27 Q) Q) .normal e w := fun e w h => then_N (s34_27 (R := R) (Q := Q) hR e w h)
    exact rgA 6 (fun e w => m34_27 R (e 2) (e 3) w) h1 hN
  · exact skA (hN _ _ h1)
theorem s34_4 {R : VP} {Q : EQ} (hR : ∀ e w, (R (Value.tuple #[(e 2), (e 3)]) w) → Q .ret e w) (e : Env) (w : World) (h : m34_4 R (e 4) (e 5) (e 6) w) : W34 k34_4 Q e w := by
  unfold m34_4 at h
  refine seA ?_
  have hN : ∀ e w, (m34_5 R (e 4) (e 6) w) → (thenE (W34 k34_5 Q) Q) .normal e w := fun e w h => then_N (s34_5 (R := R) (Q := Q) hR e w h)
  have hR : ∀ e w, (R (Value.tuple #[(e 2), (e 3)]) w) → (thenE (W34 k34_5 Q) Q) .ret e w := fun e w h => then_R (hR e w h)
  refine seA ?_
  have hN : ∀ e w, (m34_26 R (e 4) (e 6) (e 35) w) → (thenE (W34 k34_26 (thenE (W34 k34_5 Q) Q)) (thenE (W34 k34_5 Q) Q)) .normal e w := fun e w h => then_N (s34_26 (R := R) (Q := (thenE (W34 k34_5 Q) Q)) hN hR e w h)
  exact rgA 5 (fun e w => m34_26 R (e 4) (e 6) (e 35) w) h hN
theorem s34_3 {R : VP} {Q : EQ} (hR : ∀ e w, (R (Value.tuple #[(e 2), (e 3)]) w) → Q .ret e w) (e : Env) (w : World) (h : m34_3 R (e 4) w) : W34 k34_3 Q e w := by
  unfold m34_3 at h
  refine seA ?_
  have hN : ∀ e w, (m34_4 R (e 4) (e 5) (e 6) w) → (thenE (W34 k34_4 Q) Q) .normal e w := fun e w h => then_N (s34_4 (R := R) (Q := Q) hR e w h)
  exact rgA 4 (fun e w => m34_4 R (e 4) (e 5) (e 6) w) h hN
theorem s34_28 {R : VP} {Q : EQ} (hN : ∀ e w, (m34_3 R (e 4) w) → Q .normal e w) (hR : ∀ e w, (R (Value.tuple #[(e 2), (e 3)]) w) → Q .ret e w) (e : Env) (w : World) (h : m34_28 R (e 4) (e 5) (e 18) w) : W34 k34_28 Q e w := by
  unfold m34_28 at h
  refine coA (Operand.tmp 18) h (fun h1 => ?_) (fun h1 => ?_)
  · refine seA ?_
    have hN : ∀ e w, (m34_29 R (e 2) (e 3) w) → (thenE (W34 k34_29 Q) Q) .normal e w := fun e w h => then_N (s34_29 (R := R) (Q := Q) hR e w h)
    exact rgA 3 (fun e w => m34_29 R (e 2) (e 3) w) h1 hN
  · exact skA (hN _ _ h1)
theorem s34_2 {R : VP} {Q : EQ} (hR : ∀ e w, (R (Value.tuple #[(e 2), (e 3)]) w) → Q .ret e w) (e : Env) (w : World) (h : m34_2 R (e 4) (e 5) w) : W34 k34_2 Q e w := by
  unfold m34_2 at h
  refine seA ?_
  have hN : ∀ e w, (m34_3 R (e 4) w) → (thenE (W34 k34_3 Q) Q) .normal e w := fun e w h => then_N (s34_3 (R := R) (Q := Q) hR e w h)
  have hR : ∀ e w, (R (Value.tuple #[(e 2), (e 3)]) w) → (thenE (W34 k34_3 Q) Q) .ret e w := fun e w h => then_R (hR e w h)
  refine seA ?_
  have hN : ∀ e w, (m34_28 R (e 4) (e 5) (e 18) w) → (thenE (W34 k34_28 (thenE (W34 k34_3 Q) Q)) (thenE (W34 k34_3 Q) Q)) .normal e w := fun e w h => then_N (s34_28 (R := R) (Q := (thenE (W34 k34_3 Q) Q)) hN hR e w h)
  exact rgA 2 (fun e w => m34_28 R (e 4) (e 5) (e 18) w) h hN
theorem s34_1 {R : VP} {Q : EQ} (hR : ∀ e w, (R (Value.tuple #[(e 2), (e 3)]) w) → Q .ret e w) (e : Env) (w : World) (h : m34_1 R (e 0) w) : W34 k34_1 Q e w := by
  unfold m34_1 at h
  refine seA ?_
  have hN : ∀ e w, (m34_2 R (e 4) (e 5) w) → (thenE (W34 k34_2 Q) Q) .normal e w := fun e w h => then_N (s34_2 (R := R) (Q := Q) hR e w h)
  exact rgA 1 (fun e w => m34_2 R (e 4) (e 5) w) h hN
theorem s34_0 {R : VP} {Q : EQ} (hR : ∀ e w, (R (Value.tuple #[(e 2), (e 3)]) w) → Q .ret e w) (e : Env) (w : World) (h : m34_0 R (e 0) w) : W34 k34_0 Q e w := by
  unfold m34_0 at h
  refine seA ?_
  have hN : ∀ e w, (m34_1 R (e 0) w) → (thenE (W34 k34_1 Q) Q) .normal e w := fun e w h => then_N (s34_1 (R := R) (Q := Q) hR e w h)
  exact rgA 0 (fun e w => m34_1 R (e 0) w) h hN
abbrev m34 (R : VP) (s0 : Value) (w : World) : Prop := m34_0 R s0 w
theorem s34 (s0 : Value) {R : VP} {w : World} (h : m34 R s0 w) :
    Calls Tryz.prog 34 #[s0] w fun e w' => ∃ v, e = .returned v ∧ R v w' :=
  calls_of_cwp (st := (fun i => 0)) (c := k34_0) (by kernel_rfl) Tryz.func34 (by kernel_rfl) (Nat.le_of_ble_eq_true (by kernel_rfl)) (by kernel_rfl)
    (s34_0 (R := R) (Q := endE Tryz.prog Tryz.f34 R) (fun e w h => kcast (by kernel_rfl) h) (argsE #[s0]) w (kcast (by kernel_rfl) h))
def m57_15 (R : VP) (K1 : VP) (t2 : Value) (w : World) : Prop :=
  R t2 w
def m57_11 (R : VP) (K1 : VP) (l0 t8 t9 t10 : Value) (w : World) : Prop :=
  valP Tryz.prog (binS BinOp.add 3 (Operand.tmp 10) (Operand.const (Value.int IntKind.i64 1)) t10 (Value.int IntKind.i64 1)) w fun t34 w =>
  K1 t34 w
def m57_14 (R : VP) (K1 : VP) (l0 t8 t9 t10 t33 : Value) (w : World) : Prop :=
  condP t33
  (m57_15 R K1 (Value.int IntKind.i64 1) w)
  (m57_11 R K1 l0 t8 t9 t10 w)
def m57_13 (R : VP) (K1 : VP) (l0 g4 e7 t8 t9 t10 : Value) (w : World) : Prop :=
  valP Tryz.prog (binS BinOp.neq 26 (Operand.tmp 22) (Operand.const (Value.int IntKind.i64 0)) e7 (Value.int IntKind.i64 0)) w fun t23 w =>
  condP t23
  (pickP t23 (Value.bool true) undef fun t28 =>
  condP t28
  (pickP t28 (Value.bool true) undef fun t33 =>
  m57_14 R K1 l0 t8 t9 t10 t33 w)
  (valP Tryz.prog (Instr.fieldAt 58 g4 0) w fun t30 w =>
  valP Tryz.prog (Instr.loadAt 3 t30) w fun t31 w =>
  valP Tryz.prog (binS BinOp.gtr 3 (Operand.tmp 31) (Operand.const (Value.int IntKind.i64 1099511627776)) t31 (Value.int IntKind.i64 1099511627776)) w fun t32 w =>
  pickP t28 (Value.bool true) t32 fun t33 =>
  m57_14 R K1 l0 t8 t9 t10 t33 w))
  (valP Tryz.prog (Instr.fieldAt 58 g4 0) w fun t25 w =>
  valP Tryz.prog (Instr.loadAt 3 t25) w fun t26 w =>
  valP Tryz.prog (binS BinOp.lss 3 (Operand.tmp 26) (Operand.const (Value.int IntKind.i64 0)) t26 (Value.int IntKind.i64 0)) w fun t27 w =>
  pickP t23 (Value.bool true) t27 fun t28 =>
  condP t28
  (pickP t28 (Value.bool true) undef fun t33 =>
  m57_14 R K1 l0 t8 t9 t10 t33 w)
  (valP Tryz.prog (Instr.fieldAt 58 g4 0) w fun t30 w =>
  valP Tryz.prog (Instr.loadAt 3 t30) w fun t31 w =>
  valP Tryz.prog (binS BinOp.gtr 3 (Operand.tmp 31) (Operand.const (Value.int IntKind.i64 1099511627776)) t31 (Value.int IntKind.i64 1099511627776)) w fun t32 w =>
  pickP t28 (Value.bool true) t32 fun t33 =>
  m57_14 R K1 l0 t8 t9 t10 t33 w))
def m57_12 (R : VP) (K1 : VP) (l0 g4 t8 t9 t10 : Value) (w : World) : Prop :=
  valP Tryz.prog (Instr.fieldAt 58 g4 1) w fun t15 w =>
  valP Tryz.prog (Instr.loadAt 56 t15) w fun t16 w =>
  callP Tryz.prog (fnV 60) #[t16] w fun t17 w =>
  callP Tryz.prog (fnV 74) #[t17] w fun t18 w =>
  valP Tryz.prog (Instr.extract t18 0) w fun t19 w =>
  valP Tryz.prog (Instr.extract t18 1) w fun t20 w =>
  valP Tryz.prog (Instr.extract t18 2) w fun t21 w =>
  valP Tryz.prog (Instr.alloc 56 true (.tuple #[])) w fun t5 w =>
  unitP Tryz.prog (Instr.storeAt 56 t5 t19) w fun _ w =>
  m57_13 R K1 l0 g4 t21 t8 t9 t10 w
def m57_10 (R : VP) (K1 : VP) (l0 t8 t9 t10 : Value) (w : World) : Prop :=
  valP Tryz.prog (Instr.indexAt 22 t8 t10) w fun t12 w =>
  valP Tryz.prog (Instr.loadAt 58 t12) w fun t13 w =>
  valP Tryz.prog (Instr.alloc 58 true (.tuple #[])) w fun g4 w =>
  unitP Tryz.prog (Instr.storeAt 58 g4 t13) w fun _ w =>
  m57_12 R K1 l0 g4 t8 t9 t10 w
def m57_6 (R : VP) (t2 : Value) (w : World) : Prop :=
  R t2 w
def m57_4 (R : VP) (t2 : Value) (w : World) : Prop :=
  R t2 w
def m57_3 (R : VP) (w : World) : Prop :=
  m57_4 R (Value.int IntKind.i64 0) w
def m57_5 (R : VP) (t37 : Value) (w : World) : Prop :=
  condP t37
  (m57_6 R (Value.int IntKind.i64 1) w)
  (m57_3 R w)
def m57_2 (R : VP) (l0 : Value) (w : World) : Prop :=
  builtinP Tryz.prog Builtin.len #[22] 3 #[false] #[l0] w fun t36 w =>
  valP Tryz.prog (binS BinOp.gtr 3 (Operand.tmp 36) (Operand.const (Value.int IntKind.i64 4096)) t36 (Value.int IntKind.i64 4096)) w fun t37 w =>
  m57_5 R t37 w
def m57_9 (R : VP) (K1 : VP) (l0 t8 t9 t10 t11 : Value) (w : World) : Prop :=
  condP t11
  (m57_10 R K1 l0 t8 t9 t10 w)
  (m57_2 R l0 w)
def m57_8 (R : VP) (K1 : VP) (l0 t8 t9 t10 : Value) (w : World) : Prop :=
  valP Tryz.prog (binS BinOp.lss 3 (Operand.tmp 10) (Operand.tmp 9) t10 t9) w fun t11 w =>
  m57_9 R K1 l0 t8 t9 t10 t11 w
def m57_7 (R : VP) (l0 t8 t9 t10 : Value) (w : World) : Prop :=
  loopP (fun (K1 : VP) (s : Value) w => m57_8 R K1 l0 t8 t9 s w) t10 w
def m57_1 (R : VP) (l0 : Value) (w : World) : Prop :=
  builtinP Tryz.prog Builtin.len #[22] 3 #[false] #[l0] w fun t9 w =>
  m57_7 R l0 l0 t9 (Value.int IntKind.i64 0) w
def m57_0 (R : VP) (l0 : Value) (w : World) : Prop :=
  m57_1 R l0 w
abbrev W57 := cwp Tryz.prog (fun i => 0)
noncomputable def k57_0 : Code := (bodyOf Tryz.f57)
noncomputable def k57_1 : Code := (c2 k57_0)
noncomputable def k57_2 : Code := (c2 k57_1)
noncomputable def k57_3 : Code := (c2 k57_2)
noncomputable def k57_4 : Code := (c2 k57_3)
noncomputable def k57_5 : Code := (c2 (c1 k57_2))
noncomputable def k57_6 : Code := (c2 (c1 k57_5))
noncomputable def k57_7 : Code := (c2 (c1 k57_1))
noncomputable def k57_8 : Code := (c1 (c1 k57_7))
noncomputable def k57_9 : Code := (c2 k57_8)
noncomputable def k57_10 : Code := (c2 k57_9)
noncomputable def k57_11 : Code := (c2 k57_10)
noncomputable def k57_12 : Code := (c2 (c1 (c1 k57_10)))
noncomputable def k57_13 : Code := (c2 k57_12)
noncomputable def k57_14 : Code := (c2 k57_13)
noncomputable def k57_15 : Code := (c2 (c1 k57_14))
theorem s57_15 {R : VP} {K1 : VP} {Q : EQ} (hR : ∀ e w, (R (e 2) w) → Q .ret e w) (e : Env) (w : World) (h : m57_15 R K1 (e 2) w) : W57 k57_15 Q e w := by
  unfold m57_15 at h
  exact reA (hR _ _ h)
theorem s57_11 {R : VP} {K1 : VP} {Q : EQ} (hN : ∀ e w, (K1 (e 10) w) → Q .normal e w) (e : Env) (w : World) (h : m57_11 R K1 (e 0) (e 8) (e 9) (e 10) w) : W57 k57_11 Q e w := by
  unfold m57_11 at h
  exact rgA 7 (fun e w => K1 (e 10) w) h hN
theorem s57_14 {R : VP} {K1 : VP} {Q : EQ} (hN : ∀ e w, (m57_11 R K1 (e 0) (e 8) (e 9) (e 10) w) → Q .normal e w) (hR : ∀ e w, (R (e 2) w) → Q .ret e w) (e : Env) (w : World) (h : m57_14 R K1 (e 0) (e 8) (e 9) (e 10) (e 33) w) : W57 k57_14 Q e w := by
  unfold m57_14 at h
  refine coA (Operand.tmp 33) h (fun h1 => ?_) (fun h1 => ?_)
  · refine seA ?_
    have hN : ∀ e w, (m57_15 R K1 (e 2) w) → (thenE (W57 k57_15 Q) Q) .normal e w := fun e w h => then_N (s57_15 (R := R) (Q := Q) (K1 := K1) hR e w h)
    exact rgA 6 (fun e w => m57_15 R K1 (e 2) w) h1 hN
  · exact skA (hN _ _ h1)
theorem s57_13 {R : VP} {K1 : VP} {Q : EQ} (hN : ∀ e w, (m57_11 R K1 (e 0) (e 8) (e 9) (e 10) w) → Q .normal e w) (hR : ∀ e w, (R (e 2) w) → Q .ret e w) (e : Env) (w : World) (h : m57_13 R K1 (e 0) (e 4) (e 7) (e 8) (e 9) (e 10) w) : W57 k57_13 Q e w := by
  unfold m57_13 at h
  refine seA ?_
  have hN : ∀ e w, (m57_14 R K1 (e 0) (e 8) (e 9) (e 10) (e 33) w) → (thenE (W57 k57_14 Q) Q) .normal e w := fun e w h => then_N (s57_14 (R := R) (Q := Q) (K1 := K1) hN hR e w h)
  exact rgA 5 (fun e w => m57_14 R K1 (e 0) (e 8) (e 9) (e 10) (e 33) w) h hN
theorem s57_12 {R : VP} {K1 : VP} {Q : EQ} (hN : ∀ e w, (m57_11 R K1 (e 0) (e 8) (e 9) (e 10) w) → Q .normal e w) (hR : ∀ e w, (R (e 2) w) → Q .ret e w) (e : Env) (w : World) (h : m57_12 R K1 (e 0) (e 4) (e 8) (e 9) (e 10) w) : W57 k57_12 Q e w := by
  unfold m57_12 at h
  refine seA ?_
  have hN : ∀ e w, (m57_13 R K1 (e 0) (e 4) (e 7) (e 8) (e 9) (e 10) w) → (thenE (W57 k57_13 Q) Q) .normal e w := fun e w h => then_N (s57_13 (R := R) (Q := Q) (K1 := K1) hN hR e w h)
  exact rgA 4 (fun e w => m57_13 R K1 (e 0) (e 4) (e 7) (e 8) (e 9) (e 10) w) h hN
theorem s57_10 {R : VP} {K1 : VP} {Q : EQ} (hN : ∀ e w, (K1 (e 10) w) → Q .normal e w) (hR : ∀ e w, (R (e 2) w) → Q .ret e w) (e : Env) (w : World) (h : m57_10 R K1 (e 0) (e 8) (e 9) (e 10) w) : W57 k57_10 Q e w := by
  unfold m57_10 at h
  refine seA ?_
  have hN : ∀ e w, (m57_11 R K1 (e 0) (e 8) (e 9) (e 10) w) → (thenE (W57 k57_11 Q) Q) .normal e w := fun e w h => then_N (s57_11 (R := R) (Q := Q) (K1 := K1) hN e w h)
  have hR : ∀ e w, (R (e 2) w) → (thenE (W57 k57_11 Q) Q) .ret e w := fun e w h => then_R (hR e w h)
  refine block_ok 1 (by kernel_rfl) ?_
  have hN : ∀ e w, (m57_11 R K1 (e 0) (e 8) (e 9) (e 10) w) → (inBlockE 1 (thenE (W57 k57_11 Q) Q)) .normal e w := fun e w h => block_N (hN e w h)
  have hR : ∀ e w, (R (e 2) w) → (inBlockE 1 (thenE (W57 k57_11 Q) Q)) .ret e w := fun e w h => block_R (hR e w h)
  refine seA ?_
  have hN : ∀ e w, (m57_12 R K1 (e 0) (e 4) (e 8) (e 9) (e 10) w) → (thenE (W57 k57_12 (inBlockE 1 (thenE (W57 k57_11 Q) Q))) (inBlockE 1 (thenE (W57 k57_11 Q) Q))) .normal e w := fun e w h => then_N (s57_12 (R := R) (Q := (inBlockE 1 (thenE (W57 k57_11 Q) Q))) (K1 := K1) hN hR e w h)
  exact rgA 3 (fun e w => m57_12 R K1 (e 0) (e 4) (e 8) (e 9) (e 10) w) h hN
theorem s57_6 {R : VP} {Q : EQ} (hR : ∀ e w, (R (e 2) w) → Q .ret e w) (e : Env) (w : World) (h : m57_6 R (e 2) w) : W57 k57_6 Q e w := by
  unfold m57_6 at h
  exact reA (hR _ _ h)
theorem s57_4 {R : VP} {Q : EQ} (hR : ∀ e w, (R (e 2) w) → Q .ret e w) (e : Env) (w : World) (h : m57_4 R (e 2) w) : W57 k57_4 Q e w := by
  unfold m57_4 at h
  exact reA (hR _ _ h)
theorem s57_3 {R : VP} {Q : EQ} (hR : ∀ e w, (R (e 2) w) → Q .ret e w) (e : Env) (w : World) (h : m57_3 R w) : W57 k57_3 Q e w := by
  unfold m57_3 at h
  refine seA ?_
  have hN : ∀ e w, (m57_4 R (e 2) w) → (thenE (W57 k57_4 Q) Q) .normal e w := fun e w h => then_N (s57_4 (R := R) (Q := Q) hR e w h)
  exact rgA 10 (fun e w => m57_4 R (e 2) w) h hN
theorem s57_5 {R : VP} {Q : EQ} (hN : ∀ e w, (m57_3 R w) → Q .normal e w) (hR : ∀ e w, (R (e 2) w) → Q .ret e w) (e : Env) (w : World) (h : m57_5 R (e 37) w) : W57 k57_5 Q e w := by
  unfold m57_5 at h
  refine coA (Operand.tmp 37) h (fun h1 => ?_) (fun h1 => ?_)
  · refine seA ?_
    have hN : ∀ e w, (m57_6 R (e 2) w) → (thenE (W57 k57_6 Q) Q) .normal e w := fun e w h => then_N (s57_6 (R := R) (Q := Q) hR e w h)
    exact rgA 9 (fun e w => m57_6 R (e 2) w) h1 hN
  · exact skA (hN _ _ h1)
theorem s57_2 {R : VP} {Q : EQ} (hR : ∀ e w, (R (e 2) w) → Q .ret e w) (e : Env) (w : World) (h : m57_2 R (e 0) w) : W57 k57_2 Q e w := by
  unfold m57_2 at h
  refine seA ?_
  have hN : ∀ e w, (m57_3 R w) → (thenE (W57 k57_3 Q) Q) .normal e w := fun e w h => then_N (s57_3 (R := R) (Q := Q) hR e w h)
  have hR : ∀ e w, (R (e 2) w) → (thenE (W57 k57_3 Q) Q) .ret e w := fun e w h => then_R (hR e w h)
  refine seA ?_
  have hN : ∀ e w, (m57_5 R (e 37) w) → (thenE (W57 k57_5 (thenE (W57 k57_3 Q) Q)) (thenE (W57 k57_3 Q) Q)) .normal e w := fun e w h => then_N (s57_5 (R := R) (Q := (thenE (W57 k57_3 Q) Q)) hN hR e w h)
  exact rgA 8 (fun e w => m57_5 R (e 37) w) h hN
theorem s57_9 {R : VP} {K1 : VP} {Q : EQ} (hN : ∀ e w, (K1 (e 10) w) → Q .normal e w) (hR : ∀ e w, (R (e 2) w) → Q .ret e w) (hX0 : ∀ e w, (m57_2 R (e 0) w) → Q (.exit 0) e w) (e : Env) (w : World) (h : m57_9 R K1 (e 0) (e 8) (e 9) (e 10) (e 11) w) : W57 k57_9 Q e w := by
  unfold m57_9 at h
  refine seA ?_
  have hN : ∀ e w, (m57_10 R K1 (e 0) (e 8) (e 9) (e 10) w) → (thenE (W57 k57_10 Q) Q) .normal e w := fun e w h => then_N (s57_10 (R := R) (Q := Q) (K1 := K1) hN hR e w h)
  have hX0 : ∀ e w, (m57_2 R (e 0) w) → (thenE (W57 k57_10 Q) Q) (.exit 0) e w := fun e w h => then_X (hX0 e w h)
  refine coA (Operand.tmp 11) h (fun h1 => ?_) (fun h1 => ?_)
  · exact skA (hN _ _ h1)
  · exact exA 0 (hX0 _ _ h1)
theorem s57_8 {R : VP} {K1 : VP} {Q : EQ} (hN : ∀ e w, (K1 (e 10) w) → Q .normal e w) (hR : ∀ e w, (R (e 2) w) → Q .ret e w) (hX0 : ∀ e w, (m57_2 R (e 0) w) → Q (.exit 0) e w) (e : Env) (w : World) (h : m57_8 R K1 (e 0) (e 8) (e 9) (e 10) w) : W57 k57_8 Q e w := by
  unfold m57_8 at h
  refine seA ?_
  have hN : ∀ e w, (m57_9 R K1 (e 0) (e 8) (e 9) (e 10) (e 11) w) → (thenE (W57 k57_9 Q) Q) .normal e w := fun e w h => then_N (s57_9 (R := R) (Q := Q) (K1 := K1) hN hR hX0 e w h)
  exact rgA 2 (fun e w => m57_9 R K1 (e 0) (e 8) (e 9) (e 10) (e 11) w) h hN
theorem s57_7 {R : VP} {Q : EQ} (hN : ∀ e w, (m57_2 R (e 0) w) → Q .normal e w) (hR : ∀ e w, (R (e 2) w) → Q .ret e w) (e : Env) (w : World) (h : m57_7 R (e 0) (e 8) (e 9) (e 10) w) : W57 k57_7 Q e w := by
  unfold m57_7 at h
  refine block_ok 0 (by kernel_rfl) ?_
  have hX0 : ∀ e w, (m57_2 R (e 0) w) → (inBlockE 0 Q) (.exit 0) e w := fun e w h => inBlock_same (Q := Q) 0 (hN e w h)
  have hR : ∀ e w, (R (e 2) w) → (inBlockE 0 Q) .ret e w := fun e w h => block_R (hR e w h)
  refine loop_ok' (fun (e : Env) => e 10) [0, 8, 9] (by kernel_rfl) (by kernel_rfl) h (fun K e' w' hk h' => ?_)
  have r0 : e' 0 = e 0 := hk 0 (by decide)
  have r8 : e' 8 = e 8 := hk 8 (by decide)
  have r9 : e' 9 = e 9 := hk 9 (by decide)
  have hR : ∀ e w, (R (e 2) w) → (thenE (fun (e : Env) w => K (e 10) w) (inBlockE 0 Q)) .ret e w := fun e w h => then_R (hR e w h)
  have hX0 : ∀ e w, (m57_2 R (e 0) w) → (thenE (fun (e : Env) w => K (e 10) w) (inBlockE 0 Q)) (.exit 0) e w := fun e w h => then_X (hX0 e w h)
  exact s57_8 (R := R) (Q := (thenE (fun (e : Env) w => K (e 10) w) (inBlockE 0 Q))) (K1 := K) (fun _ _ h => then_N h) hR hX0 e' w' (by rw [r0, r8, r9]; exact h')
theorem s57_1 {R : VP} {Q : EQ} (hR : ∀ e w, (R (e 2) w) → Q .ret e w) (e : Env) (w : World) (h : m57_1 R (e 0) w) : W57 k57_1 Q e w := by
  unfold m57_1 at h
  refine seA ?_
  have hN : ∀ e w, (m57_2 R (e 0) w) → (thenE (W57 k57_2 Q) Q) .normal e w := fun e w h => then_N (s57_2 (R := R) (Q := Q) hR e w h)
  have hR : ∀ e w, (R (e 2) w) → (thenE (W57 k57_2 Q) Q) .ret e w := fun e w h => then_R (hR e w h)
  refine seA ?_
  have hN : ∀ e w, (m57_7 R (e 0) (e 8) (e 9) (e 10) w) → (thenE (W57 k57_7 (thenE (W57 k57_2 Q) Q)) (thenE (W57 k57_2 Q) Q)) .normal e w := fun e w h => then_N (s57_7 (R := R) (Q := (thenE (W57 k57_2 Q) Q)) hN hR e w h)
  exact rgA 1 (fun e w => m57_7 R (e 0) (e 8) (e 9) (e 10) w) h hN
theorem s57_0 {R : VP} {Q : EQ} (hR : ∀ e w, (R (e 2) w) → Q .ret e w) (e : Env) (w : World) (h : m57_0 R (e 0) w) : W57 k57_0 Q e w := by
  unfold m57_0 at h
  refine seA ?_
  have hN : ∀ e w, (m57_1 R (e 0) w) → (thenE (W57 k57_1 Q) Q) .normal e w := fun e w h => then_N (s57_1 (R := R) (Q := Q) hR e w h)
  exact rgA 0 (fun e w => m57_1 R (e 0) w) h hN
abbrev m57 (R : VP) (l0 : Value) (w : World) : Prop := m57_0 R l0 w
theorem s57 (l0 : Value) {R : VP} {w : World} (h : m57 R l0 w) :
    Calls Tryz.prog 57 #[l0] w fun e w' => ∃ v, e = .returned v ∧ R v w' :=
  calls_of_cwp (st := (fun i => 0)) (c := k57_0) (by kernel_rfl) Tryz.func57 (by kernel_rfl) (Nat.le_of_ble_eq_true (by kernel_rfl)) (by kernel_rfl)
    (s57_0 (R := R) (Q := endE Tryz.prog Tryz.f57 R) (fun e w h => kcast (by kernel_rfl) h) (argsE #[l0]) w (kcast (by kernel_rfl) h))
def m11_9 (R : VP) (K1 : VP) (t2 : Value) (w : World) : Prop :=
  R t2 w
def m11_7 (R : VP) (K1 : VP) (l0 i3 : Value) (w : World) : Prop :=
  valP Tryz.prog (binS BinOp.add 3 (Operand.tmp 8) (Operand.const (Value.int IntKind.i64 1)) i3 (Value.int IntKind.i64 1)) w fun t9 w =>
  K1 t9 w
def m11_8 (R : VP) (K1 : VP) (l0 i3 t32 : Value) (w : World) : Prop :=
  condP t32
  (m11_9 R K1 (Value.bool false) w)
  (m11_7 R K1 l0 i3 w)
def m11_6 (R : VP) (K1 : VP) (l0 i3 : Value) (w : World) : Prop :=
  valP Tryz.prog (Instr.indexAt 22 l0 i3) w fun t12 w =>
  valP Tryz.prog (Instr.fieldAt 58 t12 0) w fun t13 w =>
  valP Tryz.prog (Instr.loadAt 3 t13) w fun t14 w =>
  valP Tryz.prog (binS BinOp.lss 3 (Operand.tmp 14) (Operand.const (Value.int IntKind.i64 0)) t14 (Value.int IntKind.i64 0)) w fun t15 w =>
  condP t15
  (pickP t15 (Value.bool true) undef fun t23 =>
  condP t23
  (pickP t23 (Value.bool true) undef fun t32 =>
  m11_8 R K1 l0 i3 t32 w)
  (valP Tryz.prog (Instr.indexAt 22 l0 i3) w fun t27 w =>
  valP Tryz.prog (Instr.fieldAt 58 t27 1) w fun t28 w =>
  valP Tryz.prog (Instr.loadAt 56 t28) w fun t29 w =>
  callP Tryz.prog (fnV 35) #[t29] w fun t30 w =>
  valP Tryz.prog (Op.unary UnOp.not t30) w fun t31 w =>
  pickP t23 (Value.bool true) t31 fun t32 =>
  m11_8 R K1 l0 i3 t32 w))
  (valP Tryz.prog (Instr.indexAt 22 l0 i3) w fun t19 w =>
  valP Tryz.prog (Instr.fieldAt 58 t19 0) w fun t20 w =>
  valP Tryz.prog (Instr.loadAt 3 t20) w fun t21 w =>
  valP Tryz.prog (binS BinOp.gtr 3 (Operand.tmp 21) (Operand.const (Value.int IntKind.i64 1099511627776)) t21 (Value.int IntKind.i64 1099511627776)) w fun t22 w =>
  pickP t15 (Value.bool true) t22 fun t23 =>
  condP t23
  (pickP t23 (Value.bool true) undef fun t32 =>
  m11_8 R K1 l0 i3 t32 w)
  (valP Tryz.prog (Instr.indexAt 22 l0 i3) w fun t27 w =>
  valP Tryz.prog (Instr.fieldAt 58 t27 1) w fun t28 w =>
  valP Tryz.prog (Instr.loadAt 56 t28) w fun t29 w =>
  callP Tryz.prog (fnV 35) #[t29] w fun t30 w =>
  valP Tryz.prog (Op.unary UnOp.not t30) w fun t31 w =>
  pickP t23 (Value.bool true) t31 fun t32 =>
  m11_8 R K1 l0 i3 t32 w))
def m11_3 (R : VP) (t2 : Value) (w : World) : Prop :=
  R t2 w
def m11_2 (R : VP) (l0 : Value) (w : World) : Prop :=
  builtinP Tryz.prog Builtin.len #[22] 3 #[false] #[l0] w fun t34 w =>
  valP Tryz.prog (binS BinOp.leq 3 (Operand.tmp 34) (Operand.const (Value.int IntKind.i64 4096)) t34 (Value.int IntKind.i64 4096)) w fun t35 w =>
  m11_3 R t35 w
def m11_10 (R : VP) (K1 : VP) (l0 i3 t7 : Value) (w : World) : Prop :=
  condP t7
  (m11_6 R K1 l0 i3 w)
  (m11_2 R l0 w)
def m11_5 (R : VP) (K1 : VP) (l0 i3 : Value) (w : World) : Prop :=
  builtinP Tryz.prog Builtin.len #[22] 3 #[false] #[l0] w fun t6 w =>
  valP Tryz.prog (binS BinOp.lss 3 (Operand.tmp 4) (Operand.tmp 6) i3 t6) w fun t7 w =>
  m11_10 R K1 l0 i3 t7 w
def m11_4 (R : VP) (l0 i3 : Value) (w : World) : Prop :=
  loopP (fun (K1 : VP) (s : Value) w => m11_5 R K1 l0 s w) i3 w
def m11_1 (R : VP) (l0 : Value) (w : World) : Prop :=
  m11_4 R l0 (Value.int IntKind.i64 0) w
def m11_0 (R : VP) (l0 : Value) (w : World) : Prop :=
  m11_1 R l0 w
abbrev W11 := cwp Tryz.prog (fun i => 0)
noncomputable def k11_0 : Code := (bodyOf Tryz.f11)
noncomputable def k11_1 : Code := (c2 k11_0)
noncomputable def k11_2 : Code := (c2 k11_1)
noncomputable def k11_3 : Code := (c2 k11_2)
noncomputable def k11_4 : Code := (c2 (c1 k11_1))
noncomputable def k11_5 : Code := (c1 (c1 k11_4))
noncomputable def k11_6 : Code := (c2 k11_5)
noncomputable def k11_7 : Code := (c2 k11_6)
noncomputable def k11_8 : Code := (c2 (c1 (c1 k11_6)))
noncomputable def k11_9 : Code := (c2 (c1 k11_8))
noncomputable def k11_10 : Code := (c2 (c1 k11_5))
theorem s11_9 {R : VP} {K1 : VP} {Q : EQ} (hR : ∀ e w, (R (e 2) w) → Q .ret e w) (e : Env) (w : World) (h : m11_9 R K1 (e 2) w) : W11 k11_9 Q e w := by
  unfold m11_9 at h
  exact reA (hR _ _ h)
theorem s11_7 {R : VP} {K1 : VP} {Q : EQ} (hN : ∀ e w, (K1 (e 3) w) → Q .normal e w) (e : Env) (w : World) (h : m11_7 R K1 (e 0) (e 3) w) : W11 k11_7 Q e w := by
  unfold m11_7 at h
  exact rgA 3 (fun e w => K1 (e 3) w) h hN
theorem s11_8 {R : VP} {K1 : VP} {Q : EQ} (hN : ∀ e w, (m11_7 R K1 (e 0) (e 3) w) → Q .normal e w) (hR : ∀ e w, (R (e 2) w) → Q .ret e w) (e : Env) (w : World) (h : m11_8 R K1 (e 0) (e 3) (e 32) w) : W11 k11_8 Q e w := by
  unfold m11_8 at h
  refine coA (Operand.tmp 32) h (fun h1 => ?_) (fun h1 => ?_)
  · refine seA ?_
    have hN : ∀ e w, (m11_9 R K1 (e 2) w) → (thenE (W11 k11_9 Q) Q) .normal e w := fun e w h => then_N (s11_9 (R := R) (Q := Q) (K1 := K1) hR e w h)
    exact rgA 5 (fun e w => m11_9 R K1 (e 2) w) h1 hN
  · exact skA (hN _ _ h1)
theorem s11_6 {R : VP} {K1 : VP} {Q : EQ} (hN : ∀ e w, (K1 (e 3) w) → Q .normal e w) (hR : ∀ e w, (R (e 2) w) → Q .ret e w) (e : Env) (w : World) (h : m11_6 R K1 (e 0) (e 3) w) : W11 k11_6 Q e w := by
  unfold m11_6 at h
  refine seA ?_
  have hN : ∀ e w, (m11_7 R K1 (e 0) (e 3) w) → (thenE (W11 k11_7 Q) Q) .normal e w := fun e w h => then_N (s11_7 (R := R) (Q := Q) (K1 := K1) hN e w h)
  have hR : ∀ e w, (R (e 2) w) → (thenE (W11 k11_7 Q) Q) .ret e w := fun e w h => then_R (hR e w h)
  refine block_ok 1 (by kernel_rfl) ?_
  have hN : ∀ e w, (m11_7 R K1 (e 0) (e 3) w) → (inBlockE 1 (thenE (W11 k11_7 Q) Q)) .normal e w := fun e w h => block_N (hN e w h)
  have hR : ∀ e w, (R (e 2) w) → (inBlockE 1 (thenE (W11 k11_7 Q) Q)) .ret e w := fun e w h => block_R (hR e w h)
  refine seA ?_
  have hN : ∀ e w, (m11_8 R K1 (e 0) (e 3) (e 32) w) → (thenE (W11 k11_8 (inBlockE 1 (thenE (W11 k11_7 Q) Q))) (inBlockE 1 (thenE (W11 k11_7 Q) Q))) .normal e w := fun e w h => then_N (s11_8 (R := R) (Q := (inBlockE 1 (thenE (W11 k11_7 Q) Q))) (K1 := K1) hN hR e w h)
  exact rgA 4 (fun e w => m11_8 R K1 (e 0) (e 3) (e 32) w) h hN
theorem s11_3 {R : VP} {Q : EQ} (hR : ∀ e w, (R (e 2) w) → Q .ret e w) (e : Env) (w : World) (h : m11_3 R (e 2) w) : W11 k11_3 Q e w := by
  unfold m11_3 at h
  exact reA (hR _ _ h)
theorem s11_2 {R : VP} {Q : EQ} (hR : ∀ e w, (R (e 2) w) → Q .ret e w) (e : Env) (w : World) (h : m11_2 R (e 0) w) : W11 k11_2 Q e w := by
  unfold m11_2 at h
  refine seA ?_
  have hN : ∀ e w, (m11_3 R (e 2) w) → (thenE (W11 k11_3 Q) Q) .normal e w := fun e w h => then_N (s11_3 (R := R) (Q := Q) hR e w h)
  exact rgA 6 (fun e w => m11_3 R (e 2) w) h hN
theorem s11_10 {R : VP} {K1 : VP} {Q : EQ} (hN : ∀ e w, (m11_6 R K1 (e 0) (e 3) w) → Q .normal e w) (hX0 : ∀ e w, (m11_2 R (e 0) w) → Q (.exit 0) e w) (e : Env) (w : World) (h : m11_10 R K1 (e 0) (e 3) (e 7) w) : W11 k11_10 Q e w := by
  unfold m11_10 at h
  refine coA (Operand.tmp 7) h (fun h1 => ?_) (fun h1 => ?_)
  · exact skA (hN _ _ h1)
  · exact exA 0 (hX0 _ _ h1)
theorem s11_5 {R : VP} {K1 : VP} {Q : EQ} (hN : ∀ e w, (K1 (e 3) w) → Q .normal e w) (hR : ∀ e w, (R (e 2) w) → Q .ret e w) (hX0 : ∀ e w, (m11_2 R (e 0) w) → Q (.exit 0) e w) (e : Env) (w : World) (h : m11_5 R K1 (e 0) (e 3) w) : W11 k11_5 Q e w := by
  unfold m11_5 at h
  refine seA ?_
  have hN : ∀ e w, (m11_6 R K1 (e 0) (e 3) w) → (thenE (W11 k11_6 Q) Q) .normal e w := fun e w h => then_N (s11_6 (R := R) (Q := Q) (K1 := K1) hN hR e w h)
  have hX0 : ∀ e w, (m11_2 R (e 0) w) → (thenE (W11 k11_6 Q) Q) (.exit 0) e w := fun e w h => then_X (hX0 e w h)
  refine seA ?_
  have hN : ∀ e w, (m11_10 R K1 (e 0) (e 3) (e 7) w) → (thenE (W11 k11_10 (thenE (W11 k11_6 Q) Q)) (thenE (W11 k11_6 Q) Q)) .normal e w := fun e w h => then_N (s11_10 (R := R) (Q := (thenE (W11 k11_6 Q) Q)) (K1 := K1) hN hX0 e w h)
  exact rgA 2 (fun e w => m11_10 R K1 (e 0) (e 3) (e 7) w) h hN
theorem s11_4 {R : VP} {Q : EQ} (hN : ∀ e w, (m11_2 R (e 0) w) → Q .normal e w) (hR : ∀ e w, (R (e 2) w) → Q .ret e w) (e : Env) (w : World) (h : m11_4 R (e 0) (e 3) w) : W11 k11_4 Q e w := by
  unfold m11_4 at h
  refine block_ok 0 (by kernel_rfl) ?_
  have hX0 : ∀ e w, (m11_2 R (e 0) w) → (inBlockE 0 Q) (.exit 0) e w := fun e w h => inBlock_same (Q := Q) 0 (hN e w h)
  have hR : ∀ e w, (R (e 2) w) → (inBlockE 0 Q) .ret e w := fun e w h => block_R (hR e w h)
  refine loop_ok' (fun (e : Env) => e 3) [0] (by kernel_rfl) (by kernel_rfl) h (fun K e' w' hk h' => ?_)
  have r0 : e' 0 = e 0 := hk 0 (by decide)
  have hR : ∀ e w, (R (e 2) w) → (thenE (fun (e : Env) w => K (e 3) w) (inBlockE 0 Q)) .ret e w := fun e w h => then_R (hR e w h)
  have hX0 : ∀ e w, (m11_2 R (e 0) w) → (thenE (fun (e : Env) w => K (e 3) w) (inBlockE 0 Q)) (.exit 0) e w := fun e w h => then_X (hX0 e w h)
  exact s11_5 (R := R) (Q := (thenE (fun (e : Env) w => K (e 3) w) (inBlockE 0 Q))) (K1 := K) (fun _ _ h => then_N h) hR hX0 e' w' (by rw [r0]; exact h')
theorem s11_1 {R : VP} {Q : EQ} (hR : ∀ e w, (R (e 2) w) → Q .ret e w) (e : Env) (w : World) (h : m11_1 R (e 0) w) : W11 k11_1 Q e w := by
  unfold m11_1 at h
  refine seA ?_
  have hN : ∀ e w, (m11_2 R (e 0) w) → (thenE (W11 k11_2 Q) Q) .normal e w := fun e w h => then_N (s11_2 (R := R) (Q := Q) hR e w h)
  have hR : ∀ e w, (R (e 2) w) → (thenE (W11 k11_2 Q) Q) .ret e w := fun e w h => then_R (hR e w h)
  refine seA ?_
  have hN : ∀ e w, (m11_4 R (e 0) (e 3) w) → (thenE (W11 k11_4 (thenE (W11 k11_2 Q) Q)) (thenE (W11 k11_2 Q) Q)) .normal e w := fun e w h => then_N (s11_4 (R := R) (Q := (thenE (W11 k11_2 Q) Q)) hN hR e w h)
  exact rgA 1 (fun e w => m11_4 R (e 0) (e 3) w) h hN
theorem s11_0 {R : VP} {Q : EQ} (hR : ∀ e w, (R (e 2) w) → Q .ret e w) (e : Env) (w : World) (h : m11_0 R (e 0) w) : W11 k11_0 Q e w := by
  unfold m11_0 at h
  refine seA ?_
  have hN : ∀ e w, (m11_1 R (e 0) w) → (thenE (W11 k11_1 Q) Q) .normal e w := fun e w h => then_N (s11_1 (R := R) (Q := Q) hR e w h)
  exact rgA 0 (fun e w => m11_1 R (e 0) w) h hN
abbrev m11 (R : VP) (l0 : Value) (w : World) : Prop := m11_0 R l0 w
theorem s11 (l0 : Value) {R : VP} {w : World} (h : m11 R l0 w) :
    Calls Tryz.prog 11 #[l0] w fun e w' => ∃ v, e = .returned v ∧ R v w' :=
  calls_of_cwp (st := (fun i => 0)) (c := k11_0) (by kernel_rfl) Tryz.func11 (by kernel_rfl) (Nat.le_of_ble_eq_true (by kernel_rfl)) (by kernel_rfl)
    (s11_0 (R := R) (Q := endE Tryz.prog Tryz.f11 R) (fun e w h => kcast (by kernel_rfl) h) (argsE #[l0]) w (kcast (by kernel_rfl) h))
end Go.Proofs.YtcldjjmfpmkldaaGreatDoor.M
namespace Go.Proofs.YtcldjjmfpmkldaaGreatDoor.M
open Go.Proofs.YtcldjjmfpmkldaaGreatDoor.F Go.RowKit
set_option linter.unusedVariables false
set_option linter.unusedSimpArgs false
set_option maxRecDepth 100000
set_option maxHeartbeats 2000000
attribute [local irreducible] Res.cells Res.row Res.map Res.any World.cell? World.frozen? Instr.fieldAt Instr.loadAt Instr.storeAt Instr.indexAt Instr.lookup Instr.mapUpdate Instr.box Instr.build Instr.buildSlice Instr.extract Instr.alloc Instr.field Instr.index Instr.sliceAt Instr.makeSlice Instr.makeMap Instr.makeFunc binS Op.unary Sem.run
def MayG (g : Gt) : Prop := InM g.off ∧ MayR g.r
instance (g : Gt) : Decidable (MayG g) := by unfold MayG; infer_instance
def MayL (l : List Gt) : Prop := (∀ g ∈ l, MayG g) ∧ l.length ≤ 4096
instance (l : List Gt) : Decidable (MayL l) := by unfold MayL; infer_instance
/-- what a record's fields are at the most. -/
def GtS (g : Gt) : Prop := GtOk g ∧ g.r.text.size ≤ 1000
theorem add_empty (a : ByteArray) : a ++ ⟨#[]⟩ = a := bytesN_inj (by rw [bytesN_append]; exact List.append_nil _)
theorem empty_add (a : ByteArray) : ⟨#[]⟩ ++ a = a := bytesN_inj (by rw [bytesN_append]; rfl)
theorem add_assoc' (a b c : ByteArray) : a ++ b ++ c = a ++ (b ++ c) := bytesN_inj (by simp only [bytesN_append, List.append_assoc])
theorem add_take (a b : ByteArray) : (a ++ b).extract 0 a.size = a := bytesN_inj (by rw [bytesN_take, bytesN_append, ← bytesN_length, List.take_left])
theorem add_drop (a b : ByteArray) : (a ++ b).extract a.size (a ++ b).size = b := bytesN_inj (by rw [bytesN_drop, bytesN_append, ← bytesN_length, List.drop_left])
theorem textS_put {x q : ByteArray} (hx : x.size ≤ 1000000) : textS (putTextS x ++ q) 512 = if x.size ≤ 512 then some (x, q) else none := by
  unfold textS putTextS
  rw [add_assoc', takeS_put (by omega)]
  have hz : (x ++ q).size = x.size + q.size := ByteArray.size_append
  simp only
  by_cases h : x.size ≤ 512
  · rw [if_pos (by omega), if_pos h, Int.toNat_natCast, add_take, add_drop]
  · rw [if_neg (by omega), if_neg h]
theorem takeRec_put {r : Rc} {q : ByteArray} (hk : -9223372036854775808 ≤ r.key ∧ r.key ≤ 9223372036854775807) (ht : -9223372036854775808 ≤ r.time ∧ r.time ≤ 9223372036854775807) (hs : r.text.size ≤ 1000000) : takeRec (recS r ++ q) = if MayR r then some (r, q) else none := by
  unfold takeRec recS
  rw [add_assoc', add_assoc', takeS_put hk]
  simp only
  rw [takeS_put ht]
  simp only
  rw [textS_put hs]
  by_cases h : r.text.size ≤ 512
  · rw [if_pos h]
  · rw [if_neg h]
    simp only
    rw [if_neg (fun h1 => h h1.2.2.2)]
theorem recV_put {r : Rc} (hk : -9223372036854775808 ≤ r.key ∧ r.key ≤ 9223372036854775807) (ht : -9223372036854775808 ≤ r.time ∧ r.time ≤ 9223372036854775807) (hs : r.text.size ≤ 1000000) : recV (recS r) = if MayR r then .tuple #[rv r, .string ⟨#[]⟩, .int .i64 0] else noRec := by
  have := takeRec_put (q := ⟨#[]⟩) hk ht hs
  rw [add_empty] at this
  unfold recV
  rw [this]
  by_cases h : MayR r
  · rw [if_pos h, if_pos h]
  · rw [if_neg h, if_neg h]
/-- each change's bytes. -/
def bodyL : List Gt → ByteArray
  | [] => ⟨#[]⟩
  | g :: l => (putS g.off ++ recS g.r) ++ bodyL l
theorem bodyL_take {l : List Gt} {i : Nat} (h : i < l.length) : bodyL (l.take (i + 1)) = bodyL (l.take i) ++ (putS l[i].off ++ recS l[i].r) := by
  induction l generalizing i with
  | nil => simp at h
  | cons g l ih =>
    cases i with
    | zero =>
      simp only [List.take_succ_cons, List.take_zero, bodyL, List.getElem_cons_zero]
      rw [add_empty, empty_add]
    | succ i =>
      simp only [List.take_succ_cons, List.getElem_cons_succ, bodyL]
      rw [ih (by simpa using h), add_assoc' (putS g.off ++ recS g.r)]
def encL (l : List Gt) : ByteArray := putS l.length ++ bodyL l
theorem recS_size {r : Rc} (h : MayR r) : (recS r).size ≤ 550 := by
  have h1 := putS_size (n := r.key) (by unfold MayR InM at h; omega)
  have h2 := putS_size (n := r.time) (by unfold MayR InM at h; omega)
  have h3 := putS_size (n := (r.text.size : Int)) (by unfold MayR at h; omega)
  unfold MayR at h
  unfold recS putTextS
  simp only [ByteArray.size_append]
  omega
theorem bodyL_size {l : List Gt} (h : ∀ g ∈ l, MayG g) : (bodyL l).size ≤ 600 * l.length := by
  induction l with
  | nil => exact Nat.le_refl _
  | cons g l ih =>
    have h1 := ih (fun g hg => h g (.tail _ hg))
    have hg := h g (.head _)
    have h2 := recS_size hg.2
    have h3 := putS_size (n := g.off) (by unfold MayG InM at hg; omega)
    simp only [bodyL, ByteArray.size_append, List.length_cons]
    omega
theorem encL_size {l : List Gt} (h : MayL l) : (encL l).size ≤ 3000000 := by
  have h1 := bodyL_size h.1
  have h2 := putS_size (n := (l.length : Int)) (by have := h.2; omega)
  have h3 := h.2
  unfold encL
  rw [ByteArray.size_append]
  omega
/-- so many changes. -/
def takeGs : Nat → ByteArray → Option (List Gt × ByteArray)
  | 0, s => some ([], s)
  | n + 1, s => match takeS s with
    | none => none
    | some (off, a) => match takeRec a with
      | none => none
      | some (r, b) => (takeGs n b).map fun p => (⟨off, r⟩ :: p.1, p.2)
theorem takeGs_succ (n : Nat) (s : ByteArray) : takeGs (n + 1) s = match takeS s with
    | none => none
    | some (off, a) => match takeRec a with
      | none => none
      | some (r, b) => (takeGs n b).map fun p => (⟨off, r⟩ :: p.1, p.2) := rfl
def decS (s : ByteArray) : Option (List Gt) := match unsealS s with
  | none => none
  | some t => match takeS t with
    | none => none
    | some (n, r) => if 0 ≤ n ∧ n ≤ 4096 then (match takeGs n.toNat r with
      | none => none
      | some (l, q) => if q = ⟨#[]⟩ ∧ MayL l then some l else none) else none
theorem takeGs_body {l : List Gt} (h : ∀ g ∈ l, MayG g) (q : ByteArray) : takeGs l.length (bodyL l ++ q) = some (l, q) := by
  induction l with
  | nil => simp only [bodyL, List.length_nil]; rw [empty_add]; rfl
  | cons g l ih =>
    have hg := h g (.head _)
    have e1 : -9223372036854775808 ≤ g.off ∧ g.off ≤ 9223372036854775807 := by unfold MayG InM at hg; omega
    have e2 : -9223372036854775808 ≤ g.r.key ∧ g.r.key ≤ 9223372036854775807 := by unfold MayG MayR InM at hg; omega
    have e3 : -9223372036854775808 ≤ g.r.time ∧ g.r.time ≤ 9223372036854775807 := by unfold MayG MayR InM at hg; omega
    have e4 : g.r.text.size ≤ 1000000 := by unfold MayG MayR at hg; omega
    rw [List.length_cons, takeGs_succ, bodyL, add_assoc', add_assoc', takeS_put e1]
    simp only
    rw [takeRec_put e2 e3 e4, if_pos hg.2]
    simp only
    rw [ih (fun g hg => h g (.tail _ hg))]
    rfl
theorem dec_enc {l : List Gt} (h : MayL l) : decS (sealS (encL l)) = some l := by
  unfold decS
  rw [unseal_seal]
  simp only
  unfold encL
  have hl := h.2
  rw [takeS_put (by omega)]
  simp only
  have := takeGs_body h.1 ⟨#[]⟩
  rw [add_empty] at this
  rw [if_pos (by omega), Int.toNat_natCast, this]
  simp only
  rw [if_pos ⟨trivial, h⟩]
theorem takeGs_ok {n : Nat} {s q : ByteArray} {l : List Gt} (h : takeGs n s = some (l, q)) : l.length = n ∧ ∀ g ∈ l, GtS g := by
  induction n generalizing s l q with
  | zero =>
    obtain ⟨rfl, rfl⟩ := Prod.mk.inj (Option.some.inj h)
    exact ⟨rfl, by simp⟩
  | succ n ih =>
    rw [takeGs_succ] at h
    cases h1 : takeS s with
    | none => rw [h1] at h; cases h
    | some p =>
      obtain ⟨off, a⟩ := p
      rw [h1] at h
      simp only at h
      cases h2 : takeRec a with
      | none => rw [h2] at h; cases h
      | some p =>
        obtain ⟨r, b⟩ := p
        rw [h2] at h
        simp only at h
        cases h3 : takeGs n b with
        | none => rw [h3] at h; cases h
        | some p =>
          obtain ⟨l', q'⟩ := p
          rw [h3] at h
          obtain ⟨rfl, rfl⟩ := Prod.mk.inj (Option.some.inj h)
          obtain ⟨i1, i2⟩ := ih h3
          refine ⟨by simp [i1], fun g hg => ?_⟩
          rcases List.mem_cons.1 hg with rfl | hg
          · have hm : MayR r := by
              unfold takeRec at h2
              split at h2
              · cases h2
              · split at h2
                · cases h2
                · split at h2
                  · cases h2
                  · split at h2
                    · obtain ⟨rfl, _⟩ := Prod.mk.inj (Option.some.inj h2)
                      assumption
                    · cases h2
            unfold MayR InM at hm
            exact ⟨⟨by simp only; omega, by simp only; omega⟩, by simp only; omega⟩
          · exact i2 g hg
end Go.Proofs.YtcldjjmfpmkldaaGreatDoor.M
namespace Go.Proofs.YtcldjjmfpmkldaaGreatDoor.M
open Go.Proofs.YtcldjjmfpmkldaaGreatDoor.F
set_option linter.unusedVariables false
set_option maxRecDepth 100000
def m63_12 (R : VP) (t4 : Value) (w : World) : Prop :=
  R t4 w
def m63_10 (R : VP) (t4 : Value) (w : World) : Prop :=
  R t4 w
def m63_8 (R : VP) (t4 : Value) (w : World) : Prop :=
  R t4 w
def m63_5 (R : VP) (t4 : Value) (w : World) : Prop :=
  R t4 w
def m63_4 (R : VP) (s0 cutset1 : Value) (w : World) : Prop :=
  callP Tryz.prog (fnV 97) #[s0, cutset1] w fun t40 w =>
  callP Tryz.prog (fnV 96) #[t40, cutset1] w fun t42 w =>
  m63_5 R t42 w
def m63_7 (R : VP) (s0 cutset1 as5 t34 : Value) (w : World) : Prop :=
  condP t34
  (callP Tryz.prog (fnV 95) #[s0, as5] w fun t36 w =>
  callP Tryz.prog (fnV 94) #[t36, as5] w fun t37 w =>
  m63_8 R t37 w)
  (m63_4 R s0 cutset1 w)
def m63_6 (R : VP) (s0 cutset1 as5 ok6 : Value) (w : World) : Prop :=
  m63_7 R s0 cutset1 as5 ok6 w
def m63_3 (R : VP) (s0 cutset1 : Value) (w : World) : Prop :=
  callP Tryz.prog (fnV 93) #[cutset1] w fun t31 w =>
  valP Tryz.prog (Instr.extract t31 0) w fun t32 w =>
  valP Tryz.prog (Instr.extract t31 1) w fun t33 w =>
  valP Tryz.prog (Instr.alloc 134 true (.tuple #[])) w fun as5 w =>
  unitP Tryz.prog (Instr.storeAt 134 as5 t32) w fun _ w =>
  m63_6 R s0 cutset1 as5 t33 w
def m63_9 (R : VP) (s0 cutset1 t21 : Value) (w : World) : Prop :=
  condP t21
  (anyDraw w fun w =>
  pureP Tryz.prog (Instr.index 9 cutset1 (Value.int IntKind.i64 0)) fun t24 =>
  pureP Tryz.prog (Instr.index 9 cutset1 (Value.int IntKind.i64 0)) fun t27 =>
  callP Tryz.prog (fnV 92) #[s0, t24] w fun t25 w =>
  callP Tryz.prog (fnV 91) #[t25, t27] w fun t28 w =>
  m63_10 R t28 w)
  (m63_3 R s0 cutset1 w)
def m63_2 (R : VP) (s0 cutset1 : Value) (w : World) : Prop :=
  builtinP Tryz.prog Builtin.len #[9] 3 #[false] #[cutset1] w fun t15 w =>
  valP Tryz.prog (binS BinOp.eql 3 (Operand.tmp 15) (Operand.const (Value.int IntKind.i64 1)) t15 (Value.int IntKind.i64 1)) w fun t16 w =>
  condP t16
  (valP Tryz.prog (Instr.index 9 cutset1 (Value.int IntKind.i64 0)) w fun t19 w =>
  valP Tryz.prog (binS BinOp.lss 5 (Operand.tmp 19) (Operand.const (Value.int IntKind.u8 128)) t19 (Value.int IntKind.u8 128)) w fun t20 w =>
  pickP t16 t20 (Value.bool false) fun t21 =>
  m63_9 R s0 cutset1 t21 w)
  (pickP t16 undef (Value.bool false) fun t21 =>
  m63_9 R s0 cutset1 t21 w)
def m63_11 (R : VP) (s0 cutset1 t12 : Value) (w : World) : Prop :=
  condP t12
  (m63_12 R s0 w)
  (m63_2 R s0 cutset1 w)
def m63_1 (R : VP) (s0 cutset1 : Value) (w : World) : Prop :=
  valP Tryz.prog (binS BinOp.eql 9 (Operand.tmp 7) (Operand.const (Value.string ⟨#[]⟩)) s0 (Value.string ⟨#[]⟩)) w fun t8 w =>
  condP t8
  (pickP t8 (Value.bool true) undef fun t12 =>
  m63_11 R s0 cutset1 t12 w)
  (valP Tryz.prog (binS BinOp.eql 9 (Operand.tmp 10) (Operand.const (Value.string ⟨#[]⟩)) cutset1 (Value.string ⟨#[]⟩)) w fun t11 w =>
  pickP t8 (Value.bool true) t11 fun t12 =>
  m63_11 R s0 cutset1 t12 w)
def m63_0 (R : VP) (s0 cutset1 : Value) (w : World) : Prop :=
  m63_1 R s0 cutset1 w
abbrev W63 := cwp Tryz.prog (fun i => 0)
noncomputable def k63_0 : Code := (bodyOf Tryz.f63)
noncomputable def k63_1 : Code := (c2 k63_0)
noncomputable def k63_2 : Code := (c2 k63_1)
noncomputable def k63_3 : Code := (c2 k63_2)
noncomputable def k63_4 : Code := (c2 k63_3)
noncomputable def k63_5 : Code := (c2 k63_4)
noncomputable def k63_6 : Code := (c2 (c1 k63_3))
noncomputable def k63_7 : Code := (c2 k63_6)
noncomputable def k63_8 : Code := (c2 (c1 k63_7))
noncomputable def k63_9 : Code := (c2 (c1 k63_2))
noncomputable def k63_10 : Code := (c2 (c1 k63_9))
noncomputable def k63_11 : Code := (c2 (c1 k63_1))
noncomputable def k63_12 : Code := (c2 (c1 k63_11))
theorem s63_12 {R : VP} {Q : EQ} (hR : ∀ e w, (R (e 4) w) → Q .ret e w) (e : Env) (w : World) (h : m63_12 R (e 4) w) : W63 k63_12 Q e w := by
  unfold m63_12 at h
  exact reA (hR _ _ h)
theorem s63_10 {R : VP} {Q : EQ} (hR : ∀ e w, (R (e 4) w) → Q .ret e w) (e : Env) (w : World) (h : m63_10 R (e 4) w) : W63 k63_10 Q e w := by
  unfold m63_10 at h
  exact reA (hR _ _ h)
theorem s63_8 {R : VP} {Q : EQ} (hR : ∀ e w, (R (e 4) w) → Q .ret e w) (e : Env) (w : World) (h : m63_8 R (e 4) w) : W63 k63_8 Q e w := by
  unfold m63_8 at h
  exact reA (hR _ _ h)
theorem s63_5 {R : VP} {Q : EQ} (hR : ∀ e w, (R (e 4) w) → Q .ret e w) (e : Env) (w : World) (h : m63_5 R (e 4) w) : W63 k63_5 Q e w := by
  unfold m63_5 at h
  exact reA (hR _ _ h)
theorem s63_4 {R : VP} {Q : EQ} (hR : ∀ e w, (R (e 4) w) → Q .ret e w) (e : Env) (w : World) (h : m63_4 R (e 0) (e 1) w) : W63 k63_4 Q e w := by
  unfold m63_4 at h
  refine seA ?_
  have hN : ∀ e w, (m63_5 R (e 4) w) → (thenE (W63 k63_5 Q) Q) .normal e w := fun e w h => then_N (s63_5 (R := R) (Q := Q) hR e w h)
  exact rgA 8 (fun e w => m63_5 R (e 4) w) h hN
theorem s63_7 {R : VP} {Q : EQ} (hN : ∀ e w, (m63_4 R (e 0) (e 1) w) → Q .normal e w) (hR : ∀ e w, (R (e 4) w) → Q .ret e w) (e : Env) (w : World) (h : m63_7 R (e 0) (e 1) (e 5) (e 34) w) : W63 k63_7 Q e w := by
  unfold m63_7 at h
  refine coA (Operand.tmp 34) h (fun h1 => ?_) (fun h1 => ?_)
  · refine seA ?_
    have hN : ∀ e w, (m63_8 R (e 4) w) → (thenE (W63 k63_8 Q) Q) .normal e w := fun e w h => then_N (s63_8 (R := R) (Q := Q) hR e w h)
    exact rgA 7 (fun e w => m63_8 R (e 4) w) h1 hN
  · exact skA (hN _ _ h1)
theorem s63_6 {R : VP} {Q : EQ} (hN : ∀ e w, (m63_4 R (e 0) (e 1) w) → Q .normal e w) (hR : ∀ e w, (R (e 4) w) → Q .ret e w) (e : Env) (w : World) (h : m63_6 R (e 0) (e 1) (e 5) (e 6) w) : W63 k63_6 Q e w := by
  unfold m63_6 at h
  refine seA ?_
  have hN : ∀ e w, (m63_7 R (e 0) (e 1) (e 5) (e 34) w) → (thenE (W63 k63_7 Q) Q) .normal e w := fun e w h => then_N (s63_7 (R := R) (Q := Q) hN hR e w h)
  exact rgA 6 (fun e w => m63_7 R (e 0) (e 1) (e 5) (e 34) w) h hN
theorem s63_3 {R : VP} {Q : EQ} (hR : ∀ e w, (R (e 4) w) → Q .ret e w) (e : Env) (w : World) (h : m63_3 R (e 0) (e 1) w) : W63 k63_3 Q e w := by
  unfold m63_3 at h
  refine seA ?_
  have hN : ∀ e w, (m63_4 R (e 0) (e 1) w) → (thenE (W63 k63_4 Q) Q) .normal e w := fun e w h => then_N (s63_4 (R := R) (Q := Q) hR e w h)
  have hR : ∀ e w, (R (e 4) w) → (thenE (W63 k63_4 Q) Q) .ret e w := fun e w h => then_R (hR e w h)
  refine seA ?_
  have hN : ∀ e w, (m63_6 R (e 0) (e 1) (e 5) (e 6) w) → (thenE (W63 k63_6 (thenE (W63 k63_4 Q) Q)) (thenE (W63 k63_4 Q) Q)) .normal e w := fun e w h => then_N (s63_6 (R := R) (Q := (thenE (W63 k63_4 Q) Q)) hN hR e w h)
  exact rgA 5 (fun e w => m63_6 R (e 0) (e 1) (e 5) (e 6) w) h hN
theorem s63_9 {R : VP} {Q : EQ} (hN : ∀ e w, (m63_3 R (e 0) (e 1) w) → Q .normal e w) (hR : ∀ e w, (R (e 4) w) → Q .ret e w) (e : Env) (w : World) (h : m63_9 R (e 0) (e 1) (e 21) w) : W63 k63_9 Q e w := by
  unfold m63_9 at h
  refine coA (Operand.tmp 21) h (fun h1 => ?_) (fun h1 => ?_)
  · refine seA ?_
    have hN : ∀ e w, (m63_10 R (e 4) w) → (thenE (W63 k63_10 Q) Q) .normal e w := fun e w h => then_N (s63_10 (R := R) (Q := Q) hR e w h)
    exact tree_ok 4 8 [false, false, false, false, false, false, false, false] (.take 0 [true, false, false, false, false, false, false, false] (.take 1 [true, true, false, false, false, false, false, false] (.take 2 [true, true, true, false, false, false, false, false] (.take 4 [true, true, true, false, true, false, false, false] (.take 5 [true, true, true, false, true, true, false, false] (.alt 3 [true, true, true, true, true, true, false, false] (.alt 6 [true, true, true, true, true, true, true, false] (.take 7 [true, true, true, true, true, true, true, true] .done) .stop) .stop)))))) (fun e w => m63_10 R (e 4) w) (by kernel_rfl) (by kernel_rfl) (by kernel_rfl) (by kernel_rfl) (by kernel_rfl) (by kernel_rfl) (kcast (by kernel_rfl) h1) hN (by kernel_rfl)
  · exact skA (hN _ _ h1)
theorem s63_2 {R : VP} {Q : EQ} (hR : ∀ e w, (R (e 4) w) → Q .ret e w) (e : Env) (w : World) (h : m63_2 R (e 0) (e 1) w) : W63 k63_2 Q e w := by
  unfold m63_2 at h
  refine seA ?_
  have hN : ∀ e w, (m63_3 R (e 0) (e 1) w) → (thenE (W63 k63_3 Q) Q) .normal e w := fun e w h => then_N (s63_3 (R := R) (Q := Q) hR e w h)
  have hR : ∀ e w, (R (e 4) w) → (thenE (W63 k63_3 Q) Q) .ret e w := fun e w h => then_R (hR e w h)
  refine seA ?_
  have hN : ∀ e w, (m63_9 R (e 0) (e 1) (e 21) w) → (thenE (W63 k63_9 (thenE (W63 k63_3 Q) Q)) (thenE (W63 k63_3 Q) Q)) .normal e w := fun e w h => then_N (s63_9 (R := R) (Q := (thenE (W63 k63_3 Q) Q)) hN hR e w h)
  exact rgA 3 (fun e w => m63_9 R (e 0) (e 1) (e 21) w) h hN
theorem s63_11 {R : VP} {Q : EQ} (hN : ∀ e w, (m63_2 R (e 0) (e 1) w) → Q .normal e w) (hR : ∀ e w, (R (e 4) w) → Q .ret e w) (e : Env) (w : World) (h : m63_11 R (e 0) (e 1) (e 12) w) : W63 k63_11 Q e w := by
  unfold m63_11 at h
  refine coA (Operand.tmp 12) h (fun h1 => ?_) (fun h1 => ?_)
  · refine seA ?_
    have hN : ∀ e w, (m63_12 R (e 4) w) → (thenE (W63 k63_12 Q) Q) .normal e w := fun e w h => then_N (s63_12 (R := R) (Q := Q) hR e w h)
    exact rgA 2 (fun e w => m63_12 R (e 4) w) h1 hN
  · exact skA (hN _ _ h1)
theorem s63_1 {R : VP} {Q : EQ} (hR : ∀ e w, (R (e 4) w) → Q .ret e w) (e : Env) (w : World) (h : m63_1 R (e 0) (e 1) w) : W63 k63_1 Q e w := by
  unfold m63_1 at h
  refine seA ?_
  have hN : ∀ e w, (m63_2 R (e 0) (e 1) w) → (thenE (W63 k63_2 Q) Q) .normal e w := fun e w h => then_N (s63_2 (R := R) (Q := Q) hR e w h)
  have hR : ∀ e w, (R (e 4) w) → (thenE (W63 k63_2 Q) Q) .ret e w := fun e w h => then_R (hR e w h)
  refine seA ?_
  have hN : ∀ e w, (m63_11 R (e 0) (e 1) (e 12) w) → (thenE (W63 k63_11 (thenE (W63 k63_2 Q) Q)) (thenE (W63 k63_2 Q) Q)) .normal e w := fun e w h => then_N (s63_11 (R := R) (Q := (thenE (W63 k63_2 Q) Q)) hN hR e w h)
  exact rgA 1 (fun e w => m63_11 R (e 0) (e 1) (e 12) w) h hN
theorem s63_0 {R : VP} {Q : EQ} (hR : ∀ e w, (R (e 4) w) → Q .ret e w) (e : Env) (w : World) (h : m63_0 R (e 0) (e 1) w) : W63 k63_0 Q e w := by
  unfold m63_0 at h
  refine seA ?_
  have hN : ∀ e w, (m63_1 R (e 0) (e 1) w) → (thenE (W63 k63_1 Q) Q) .normal e w := fun e w h => then_N (s63_1 (R := R) (Q := Q) hR e w h)
  exact rgA 0 (fun e w => m63_1 R (e 0) (e 1) w) h hN
abbrev m63 (R : VP) (s0 cutset1 : Value) (w : World) : Prop := m63_0 R s0 cutset1 w
theorem s63 (s0 cutset1 : Value) {R : VP} {w : World} (h : m63 R s0 cutset1 w) :
    Calls Tryz.prog 63 #[s0, cutset1] w fun e w' => ∃ v, e = .returned v ∧ R v w' :=
  calls_of_cwp (st := (fun i => 0)) (c := k63_0) (by kernel_rfl) Tryz.func63 (by kernel_rfl) (Nat.le_of_ble_eq_true (by kernel_rfl)) (by kernel_rfl)
    (s63_0 (R := R) (Q := endE Tryz.prog Tryz.f63 R) (fun e w h => kcast (by kernel_rfl) h) (argsE #[s0, cutset1]) w (kcast (by kernel_rfl) h))
def m94_3 (R : VP) (t4 : Value) (w : World) : Prop :=
  R t4 w
def m94_2 (R : VP) (s0 : Value) (w : World) : Prop :=
  m94_3 R s0 w
def m94_6 (R : VP) (K1 : VP) (s0 as1 : Value) (w : World) : Prop :=
  valP Tryz.prog (Instr.sliceAt 9 s0 (some (Value.int IntKind.i64 1)) none none) w fun t14 w =>
  K1 t14 w
def m94_7 (R : VP) (K1 : VP) (s0 as1 t12 : Value) (w : World) : Prop :=
  condP t12
  (m94_2 R s0 w)
  (m94_6 R K1 s0 as1 w)
def m94_5 (R : VP) (K1 : VP) (s0 as1 : Value) (w : World) : Prop :=
  valP Tryz.prog (Instr.index 9 s0 (Value.int IntKind.i64 0)) w fun t10 w =>
  callP Tryz.prog (fnV 110) #[as1, t10] w fun t11 w =>
  valP Tryz.prog (Op.unary UnOp.not t11) w fun t12 w =>
  m94_7 R K1 s0 as1 t12 w
def m94_8 (R : VP) (K1 : VP) (s0 as1 t7 : Value) (w : World) : Prop :=
  condP t7
  (m94_5 R K1 s0 as1 w)
  (m94_2 R s0 w)
def m94_4 (R : VP) (K1 : VP) (s0 as1 : Value) (w : World) : Prop :=
  builtinP Tryz.prog Builtin.len #[9] 3 #[false] #[s0] w fun t6 w =>
  valP Tryz.prog (binS BinOp.gtr 3 (Operand.tmp 6) (Operand.const (Value.int IntKind.i64 0)) t6 (Value.int IntKind.i64 0)) w fun t7 w =>
  m94_8 R K1 s0 as1 t7 w
def m94_1 (R : VP) (s0 as1 : Value) (w : World) : Prop :=
  loopP (fun (K1 : VP) (s : Value) w => m94_4 R K1 s as1 w) s0 w
def m94_0 (R : VP) (s0 as1 : Value) (w : World) : Prop :=
  m94_1 R s0 as1 w
abbrev W94 := cwp Tryz.prog (fun i => 0)
noncomputable def k94_0 : Code := (bodyOf Tryz.f94)
noncomputable def k94_1 : Code := (c2 k94_0)
noncomputable def k94_2 : Code := (c2 k94_1)
noncomputable def k94_3 : Code := (c2 k94_2)
noncomputable def k94_4 : Code := (c1 (c1 (c1 k94_1)))
noncomputable def k94_5 : Code := (c2 k94_4)
noncomputable def k94_6 : Code := (c2 (c1 k94_5))
noncomputable def k94_7 : Code := (c2 (c1 (c1 k94_5)))
noncomputable def k94_8 : Code := (c2 (c1 k94_4))
theorem s94_3 {R : VP} {Q : EQ} (hR : ∀ e w, (R (e 4) w) → Q .ret e w) (e : Env) (w : World) (h : m94_3 R (e 4) w) : W94 k94_3 Q e w := by
  unfold m94_3 at h
  exact reA (hR _ _ h)
theorem s94_2 {R : VP} {Q : EQ} (hR : ∀ e w, (R (e 4) w) → Q .ret e w) (e : Env) (w : World) (h : m94_2 R (e 0) w) : W94 k94_2 Q e w := by
  unfold m94_2 at h
  refine seA ?_
  have hN : ∀ e w, (m94_3 R (e 4) w) → (thenE (W94 k94_3 Q) Q) .normal e w := fun e w h => then_N (s94_3 (R := R) (Q := Q) hR e w h)
  exact rgA 4 (fun e w => m94_3 R (e 4) w) h hN
theorem s94_6 {R : VP} {K1 : VP} {Q : EQ} (hN : ∀ e w, (K1 (e 0) w) → Q .normal e w) (e : Env) (w : World) (h : m94_6 R K1 (e 0) (e 1) w) : W94 k94_6 Q e w := by
  unfold m94_6 at h
  exact rgA 3 (fun e w => K1 (e 0) w) h hN
theorem s94_7 {R : VP} {K1 : VP} {Q : EQ} (hN : ∀ e w, (m94_6 R K1 (e 0) (e 1) w) → Q .normal e w) (hX0 : ∀ e w, (m94_2 R (e 0) w) → Q (.exit 0) e w) (e : Env) (w : World) (h : m94_7 R K1 (e 0) (e 1) (e 12) w) : W94 k94_7 Q e w := by
  unfold m94_7 at h
  refine coA (Operand.tmp 12) h (fun h1 => ?_) (fun h1 => ?_)
  · exact exA 0 (hX0 _ _ h1)
  · exact skA (hN _ _ h1)
theorem s94_5 {R : VP} {K1 : VP} {Q : EQ} (hN : ∀ e w, (K1 (e 0) w) → Q .normal e w) (hX0 : ∀ e w, (m94_2 R (e 0) w) → Q (.exit 0) e w) (e : Env) (w : World) (h : m94_5 R K1 (e 0) (e 1) w) : W94 k94_5 Q e w := by
  unfold m94_5 at h
  refine block_ok 1 (by kernel_rfl) ?_
  have hX0 : ∀ e w, (m94_2 R (e 0) w) → (inBlockE 1 Q) (.exit 0) e w := fun e w h => inBlock_other (Q := Q) 1 0 (by kernel_rfl) (hX0 e w h)
  have hN : ∀ e w, (K1 (e 0) w) → (inBlockE 1 Q) .normal e w := fun e w h => block_N (hN e w h)
  refine seA ?_
  have hN : ∀ e w, (m94_6 R K1 (e 0) (e 1) w) → (thenE (W94 k94_6 (inBlockE 1 Q)) (inBlockE 1 Q)) .normal e w := fun e w h => then_N (s94_6 (R := R) (Q := (inBlockE 1 Q)) (K1 := K1) hN e w h)
  have hX0 : ∀ e w, (m94_2 R (e 0) w) → (thenE (W94 k94_6 (inBlockE 1 Q)) (inBlockE 1 Q)) (.exit 0) e w := fun e w h => then_X (hX0 e w h)
  refine seA ?_
  have hN : ∀ e w, (m94_7 R K1 (e 0) (e 1) (e 12) w) → (thenE (W94 k94_7 (thenE (W94 k94_6 (inBlockE 1 Q)) (inBlockE 1 Q))) (thenE (W94 k94_6 (inBlockE 1 Q)) (inBlockE 1 Q))) .normal e w := fun e w h => then_N (s94_7 (R := R) (Q := (thenE (W94 k94_6 (inBlockE 1 Q)) (inBlockE 1 Q))) (K1 := K1) hN hX0 e w h)
  exact rgA 2 (fun e w => m94_7 R K1 (e 0) (e 1) (e 12) w) h hN
theorem s94_8 {R : VP} {K1 : VP} {Q : EQ} (hN : ∀ e w, (m94_5 R K1 (e 0) (e 1) w) → Q .normal e w) (hX0 : ∀ e w, (m94_2 R (e 0) w) → Q (.exit 0) e w) (e : Env) (w : World) (h : m94_8 R K1 (e 0) (e 1) (e 7) w) : W94 k94_8 Q e w := by
  unfold m94_8 at h
  refine coA (Operand.tmp 7) h (fun h1 => ?_) (fun h1 => ?_)
  · exact skA (hN _ _ h1)
  · exact exA 0 (hX0 _ _ h1)
theorem s94_4 {R : VP} {K1 : VP} {Q : EQ} (hN : ∀ e w, (K1 (e 0) w) → Q .normal e w) (hX0 : ∀ e w, (m94_2 R (e 0) w) → Q (.exit 0) e w) (e : Env) (w : World) (h : m94_4 R K1 (e 0) (e 1) w) : W94 k94_4 Q e w := by
  unfold m94_4 at h
  refine seA ?_
  have hN : ∀ e w, (m94_5 R K1 (e 0) (e 1) w) → (thenE (W94 k94_5 Q) Q) .normal e w := fun e w h => then_N (s94_5 (R := R) (Q := Q) (K1 := K1) hN hX0 e w h)
  have hX0 : ∀ e w, (m94_2 R (e 0) w) → (thenE (W94 k94_5 Q) Q) (.exit 0) e w := fun e w h => then_X (hX0 e w h)
  refine seA ?_
  have hN : ∀ e w, (m94_8 R K1 (e 0) (e 1) (e 7) w) → (thenE (W94 k94_8 (thenE (W94 k94_5 Q) Q)) (thenE (W94 k94_5 Q) Q)) .normal e w := fun e w h => then_N (s94_8 (R := R) (Q := (thenE (W94 k94_5 Q) Q)) (K1 := K1) hN hX0 e w h)
  exact rgA 1 (fun e w => m94_8 R K1 (e 0) (e 1) (e 7) w) h hN
theorem s94_1 {R : VP} {Q : EQ} (hR : ∀ e w, (R (e 4) w) → Q .ret e w) (e : Env) (w : World) (h : m94_1 R (e 0) (e 1) w) : W94 k94_1 Q e w := by
  unfold m94_1 at h
  refine seA ?_
  have hN : ∀ e w, (m94_2 R (e 0) w) → (thenE (W94 k94_2 Q) Q) .normal e w := fun e w h => then_N (s94_2 (R := R) (Q := Q) hR e w h)
  refine block_ok 0 (by kernel_rfl) ?_
  have hX0 : ∀ e w, (m94_2 R (e 0) w) → (inBlockE 0 (thenE (W94 k94_2 Q) Q)) (.exit 0) e w := fun e w h => inBlock_same (Q := (thenE (W94 k94_2 Q) Q)) 0 (hN e w h)
  refine loop_ok' (fun (e : Env) => e 0) [1] (by kernel_rfl) (by kernel_rfl) h (fun K e' w' hk h' => ?_)
  have r1 : e' 1 = e 1 := hk 1 (by decide)
  have hX0 : ∀ e w, (m94_2 R (e 0) w) → (thenE (fun (e : Env) w => K (e 0) w) (inBlockE 0 (thenE (W94 k94_2 Q) Q))) (.exit 0) e w := fun e w h => then_X (hX0 e w h)
  exact s94_4 (R := R) (Q := (thenE (fun (e : Env) w => K (e 0) w) (inBlockE 0 (thenE (W94 k94_2 Q) Q)))) (K1 := K) (fun _ _ h => then_N h) hX0 e' w' (by rw [r1]; exact h')
theorem s94_0 {R : VP} {Q : EQ} (hR : ∀ e w, (R (e 4) w) → Q .ret e w) (e : Env) (w : World) (h : m94_0 R (e 0) (e 1) w) : W94 k94_0 Q e w := by
  unfold m94_0 at h
  refine seA ?_
  have hN : ∀ e w, (m94_1 R (e 0) (e 1) w) → (thenE (W94 k94_1 Q) Q) .normal e w := fun e w h => then_N (s94_1 (R := R) (Q := Q) hR e w h)
  exact rgA 0 (fun e w => m94_1 R (e 0) (e 1) w) h hN
abbrev m94 (R : VP) (s0 as1 : Value) (w : World) : Prop := m94_0 R s0 as1 w
theorem s94 (s0 as1 : Value) {R : VP} {w : World} (h : m94 R s0 as1 w) :
    Calls Tryz.prog 94 #[s0, as1] w fun e w' => ∃ v, e = .returned v ∧ R v w' :=
  calls_of_cwp (st := (fun i => 0)) (c := k94_0) (by kernel_rfl) Tryz.func94 (by kernel_rfl) (Nat.le_of_ble_eq_true (by kernel_rfl)) (by kernel_rfl)
    (s94_0 (R := R) (Q := endE Tryz.prog Tryz.f94 R) (fun e w h => kcast (by kernel_rfl) h) (argsE #[s0, as1]) w (kcast (by kernel_rfl) h))
def m95_3 (R : VP) (t4 : Value) (w : World) : Prop :=
  R t4 w
def m95_2 (R : VP) (s0 : Value) (w : World) : Prop :=
  m95_3 R s0 w
def m95_6 (R : VP) (K1 : VP) (s0 as1 : Value) (w : World) : Prop :=
  builtinP Tryz.prog Builtin.len #[9] 3 #[false] #[s0] w fun t18 w =>
  valP Tryz.prog (binS BinOp.sub 3 (Operand.tmp 18) (Operand.const (Value.int IntKind.i64 1)) t18 (Value.int IntKind.i64 1)) w fun t19 w =>
  valP Tryz.prog (Instr.sliceAt 9 s0 none (some t19) none) w fun t20 w =>
  K1 t20 w
def m95_7 (R : VP) (K1 : VP) (s0 as1 t15 : Value) (w : World) : Prop :=
  condP t15
  (m95_2 R s0 w)
  (m95_6 R K1 s0 as1 w)
def m95_5 (R : VP) (K1 : VP) (s0 as1 : Value) (w : World) : Prop :=
  builtinP Tryz.prog Builtin.len #[9] 3 #[false] #[s0] w fun t11 w =>
  valP Tryz.prog (binS BinOp.sub 3 (Operand.tmp 11) (Operand.const (Value.int IntKind.i64 1)) t11 (Value.int IntKind.i64 1)) w fun t12 w =>
  valP Tryz.prog (Instr.index 9 s0 t12) w fun t13 w =>
  callP Tryz.prog (fnV 110) #[as1, t13] w fun t14 w =>
  valP Tryz.prog (Op.unary UnOp.not t14) w fun t15 w =>
  m95_7 R K1 s0 as1 t15 w
def m95_8 (R : VP) (K1 : VP) (s0 as1 t7 : Value) (w : World) : Prop :=
  condP t7
  (m95_5 R K1 s0 as1 w)
  (m95_2 R s0 w)
def m95_4 (R : VP) (K1 : VP) (s0 as1 : Value) (w : World) : Prop :=
  builtinP Tryz.prog Builtin.len #[9] 3 #[false] #[s0] w fun t6 w =>
  valP Tryz.prog (binS BinOp.gtr 3 (Operand.tmp 6) (Operand.const (Value.int IntKind.i64 0)) t6 (Value.int IntKind.i64 0)) w fun t7 w =>
  m95_8 R K1 s0 as1 t7 w
def m95_1 (R : VP) (s0 as1 : Value) (w : World) : Prop :=
  loopP (fun (K1 : VP) (s : Value) w => m95_4 R K1 s as1 w) s0 w
def m95_0 (R : VP) (s0 as1 : Value) (w : World) : Prop :=
  m95_1 R s0 as1 w
abbrev W95 := cwp Tryz.prog (fun i => 0)
noncomputable def k95_0 : Code := (bodyOf Tryz.f95)
noncomputable def k95_1 : Code := (c2 k95_0)
noncomputable def k95_2 : Code := (c2 k95_1)
noncomputable def k95_3 : Code := (c2 k95_2)
noncomputable def k95_4 : Code := (c1 (c1 (c1 k95_1)))
noncomputable def k95_5 : Code := (c2 k95_4)
noncomputable def k95_6 : Code := (c2 (c1 k95_5))
noncomputable def k95_7 : Code := (c2 (c1 (c1 k95_5)))
noncomputable def k95_8 : Code := (c2 (c1 k95_4))
theorem s95_3 {R : VP} {Q : EQ} (hR : ∀ e w, (R (e 4) w) → Q .ret e w) (e : Env) (w : World) (h : m95_3 R (e 4) w) : W95 k95_3 Q e w := by
  unfold m95_3 at h
  exact reA (hR _ _ h)
theorem s95_2 {R : VP} {Q : EQ} (hR : ∀ e w, (R (e 4) w) → Q .ret e w) (e : Env) (w : World) (h : m95_2 R (e 0) w) : W95 k95_2 Q e w := by
  unfold m95_2 at h
  refine seA ?_
  have hN : ∀ e w, (m95_3 R (e 4) w) → (thenE (W95 k95_3 Q) Q) .normal e w := fun e w h => then_N (s95_3 (R := R) (Q := Q) hR e w h)
  exact rgA 4 (fun e w => m95_3 R (e 4) w) h hN
theorem s95_6 {R : VP} {K1 : VP} {Q : EQ} (hN : ∀ e w, (K1 (e 0) w) → Q .normal e w) (e : Env) (w : World) (h : m95_6 R K1 (e 0) (e 1) w) : W95 k95_6 Q e w := by
  unfold m95_6 at h
  exact rgA 3 (fun e w => K1 (e 0) w) h hN
theorem s95_7 {R : VP} {K1 : VP} {Q : EQ} (hN : ∀ e w, (m95_6 R K1 (e 0) (e 1) w) → Q .normal e w) (hX0 : ∀ e w, (m95_2 R (e 0) w) → Q (.exit 0) e w) (e : Env) (w : World) (h : m95_7 R K1 (e 0) (e 1) (e 15) w) : W95 k95_7 Q e w := by
  unfold m95_7 at h
  refine coA (Operand.tmp 15) h (fun h1 => ?_) (fun h1 => ?_)
  · exact exA 0 (hX0 _ _ h1)
  · exact skA (hN _ _ h1)
theorem s95_5 {R : VP} {K1 : VP} {Q : EQ} (hN : ∀ e w, (K1 (e 0) w) → Q .normal e w) (hX0 : ∀ e w, (m95_2 R (e 0) w) → Q (.exit 0) e w) (e : Env) (w : World) (h : m95_5 R K1 (e 0) (e 1) w) : W95 k95_5 Q e w := by
  unfold m95_5 at h
  refine block_ok 1 (by kernel_rfl) ?_
  have hX0 : ∀ e w, (m95_2 R (e 0) w) → (inBlockE 1 Q) (.exit 0) e w := fun e w h => inBlock_other (Q := Q) 1 0 (by kernel_rfl) (hX0 e w h)
  have hN : ∀ e w, (K1 (e 0) w) → (inBlockE 1 Q) .normal e w := fun e w h => block_N (hN e w h)
  refine seA ?_
  have hN : ∀ e w, (m95_6 R K1 (e 0) (e 1) w) → (thenE (W95 k95_6 (inBlockE 1 Q)) (inBlockE 1 Q)) .normal e w := fun e w h => then_N (s95_6 (R := R) (Q := (inBlockE 1 Q)) (K1 := K1) hN e w h)
  have hX0 : ∀ e w, (m95_2 R (e 0) w) → (thenE (W95 k95_6 (inBlockE 1 Q)) (inBlockE 1 Q)) (.exit 0) e w := fun e w h => then_X (hX0 e w h)
  refine seA ?_
  have hN : ∀ e w, (m95_7 R K1 (e 0) (e 1) (e 15) w) → (thenE (W95 k95_7 (thenE (W95 k95_6 (inBlockE 1 Q)) (inBlockE 1 Q))) (thenE (W95 k95_6 (inBlockE 1 Q)) (inBlockE 1 Q))) .normal e w := fun e w h => then_N (s95_7 (R := R) (Q := (thenE (W95 k95_6 (inBlockE 1 Q)) (inBlockE 1 Q))) (K1 := K1) hN hX0 e w h)
  exact rgA 2 (fun e w => m95_7 R K1 (e 0) (e 1) (e 15) w) h hN
theorem s95_8 {R : VP} {K1 : VP} {Q : EQ} (hN : ∀ e w, (m95_5 R K1 (e 0) (e 1) w) → Q .normal e w) (hX0 : ∀ e w, (m95_2 R (e 0) w) → Q (.exit 0) e w) (e : Env) (w : World) (h : m95_8 R K1 (e 0) (e 1) (e 7) w) : W95 k95_8 Q e w := by
  unfold m95_8 at h
  refine coA (Operand.tmp 7) h (fun h1 => ?_) (fun h1 => ?_)
  · exact skA (hN _ _ h1)
  · exact exA 0 (hX0 _ _ h1)
theorem s95_4 {R : VP} {K1 : VP} {Q : EQ} (hN : ∀ e w, (K1 (e 0) w) → Q .normal e w) (hX0 : ∀ e w, (m95_2 R (e 0) w) → Q (.exit 0) e w) (e : Env) (w : World) (h : m95_4 R K1 (e 0) (e 1) w) : W95 k95_4 Q e w := by
  unfold m95_4 at h
  refine seA ?_
  have hN : ∀ e w, (m95_5 R K1 (e 0) (e 1) w) → (thenE (W95 k95_5 Q) Q) .normal e w := fun e w h => then_N (s95_5 (R := R) (Q := Q) (K1 := K1) hN hX0 e w h)
  have hX0 : ∀ e w, (m95_2 R (e 0) w) → (thenE (W95 k95_5 Q) Q) (.exit 0) e w := fun e w h => then_X (hX0 e w h)
  refine seA ?_
  have hN : ∀ e w, (m95_8 R K1 (e 0) (e 1) (e 7) w) → (thenE (W95 k95_8 (thenE (W95 k95_5 Q) Q)) (thenE (W95 k95_5 Q) Q)) .normal e w := fun e w h => then_N (s95_8 (R := R) (Q := (thenE (W95 k95_5 Q) Q)) (K1 := K1) hN hX0 e w h)
  exact rgA 1 (fun e w => m95_8 R K1 (e 0) (e 1) (e 7) w) h hN
theorem s95_1 {R : VP} {Q : EQ} (hR : ∀ e w, (R (e 4) w) → Q .ret e w) (e : Env) (w : World) (h : m95_1 R (e 0) (e 1) w) : W95 k95_1 Q e w := by
  unfold m95_1 at h
  refine seA ?_
  have hN : ∀ e w, (m95_2 R (e 0) w) → (thenE (W95 k95_2 Q) Q) .normal e w := fun e w h => then_N (s95_2 (R := R) (Q := Q) hR e w h)
  refine block_ok 0 (by kernel_rfl) ?_
  have hX0 : ∀ e w, (m95_2 R (e 0) w) → (inBlockE 0 (thenE (W95 k95_2 Q) Q)) (.exit 0) e w := fun e w h => inBlock_same (Q := (thenE (W95 k95_2 Q) Q)) 0 (hN e w h)
  refine loop_ok' (fun (e : Env) => e 0) [1] (by kernel_rfl) (by kernel_rfl) h (fun K e' w' hk h' => ?_)
  have r1 : e' 1 = e 1 := hk 1 (by decide)
  have hX0 : ∀ e w, (m95_2 R (e 0) w) → (thenE (fun (e : Env) w => K (e 0) w) (inBlockE 0 (thenE (W95 k95_2 Q) Q))) (.exit 0) e w := fun e w h => then_X (hX0 e w h)
  exact s95_4 (R := R) (Q := (thenE (fun (e : Env) w => K (e 0) w) (inBlockE 0 (thenE (W95 k95_2 Q) Q)))) (K1 := K) (fun _ _ h => then_N h) hX0 e' w' (by rw [r1]; exact h')
theorem s95_0 {R : VP} {Q : EQ} (hR : ∀ e w, (R (e 4) w) → Q .ret e w) (e : Env) (w : World) (h : m95_0 R (e 0) (e 1) w) : W95 k95_0 Q e w := by
  unfold m95_0 at h
  refine seA ?_
  have hN : ∀ e w, (m95_1 R (e 0) (e 1) w) → (thenE (W95 k95_1 Q) Q) .normal e w := fun e w h => then_N (s95_1 (R := R) (Q := Q) hR e w h)
  exact rgA 0 (fun e w => m95_1 R (e 0) (e 1) w) h hN
abbrev m95 (R : VP) (s0 as1 : Value) (w : World) : Prop := m95_0 R s0 as1 w
theorem s95 (s0 as1 : Value) {R : VP} {w : World} (h : m95 R s0 as1 w) :
    Calls Tryz.prog 95 #[s0, as1] w fun e w' => ∃ v, e = .returned v ∧ R v w' :=
  calls_of_cwp (st := (fun i => 0)) (c := k95_0) (by kernel_rfl) Tryz.func95 (by kernel_rfl) (Nat.le_of_ble_eq_true (by kernel_rfl)) (by kernel_rfl)
    (s95_0 (R := R) (Q := endE Tryz.prog Tryz.f95 R) (fun e w h => kcast (by kernel_rfl) h) (argsE #[s0, as1]) w (kcast (by kernel_rfl) h))
def m82_2 (R : VP) (t2 : Value) (w : World) : Prop :=
  R t2 w
def m82_1 (R : VP) (name0 : Value) (w : World) : Prop :=
  valP Tryz.prog (binS BinOp.neq 9 (Operand.tmp 3) (Operand.const (Value.string ⟨#[]⟩)) name0 (Value.string ⟨#[]⟩)) w fun t4 w =>
  condP t4
  (builtinP Tryz.prog Builtin.len #[9] 3 #[false] #[name0] w fun t7 w =>
  valP Tryz.prog (binS BinOp.leq 3 (Operand.tmp 7) (Operand.const (Value.int IntKind.i64 24)) t7 (Value.int IntKind.i64 24)) w fun t8 w =>
  pickP t4 t8 (Value.bool false) fun t9 =>
  condP t9
  (callP Tryz.prog (fnV 63) #[name0, (Value.string ⟨#[97, 98, 99, 100, 101, 102, 103, 104, 105, 106, 107, 108, 109, 110, 111, 112, 113, 114, 115, 116, 117, 118, 119, 120, 121, 122, 48, 49, 50, 51, 52, 53, 54, 55, 56, 57, 46, 45]⟩)] w fun t12 w =>
  valP Tryz.prog (binS BinOp.eql 9 (Operand.tmp 12) (Operand.const (Value.string ⟨#[]⟩)) t12 (Value.string ⟨#[]⟩)) w fun t13 w =>
  pickP t9 t13 (Value.bool false) fun t14 =>
  m82_2 R t14 w)
  (pickP t9 undef (Value.bool false) fun t14 =>
  m82_2 R t14 w))
  (pickP t4 undef (Value.bool false) fun t9 =>
  condP t9
  (callP Tryz.prog (fnV 63) #[name0, (Value.string ⟨#[97, 98, 99, 100, 101, 102, 103, 104, 105, 106, 107, 108, 109, 110, 111, 112, 113, 114, 115, 116, 117, 118, 119, 120, 121, 122, 48, 49, 50, 51, 52, 53, 54, 55, 56, 57, 46, 45]⟩)] w fun t12 w =>
  valP Tryz.prog (binS BinOp.eql 9 (Operand.tmp 12) (Operand.const (Value.string ⟨#[]⟩)) t12 (Value.string ⟨#[]⟩)) w fun t13 w =>
  pickP t9 t13 (Value.bool false) fun t14 =>
  m82_2 R t14 w)
  (pickP t9 undef (Value.bool false) fun t14 =>
  m82_2 R t14 w))
def m82_0 (R : VP) (name0 : Value) (w : World) : Prop :=
  m82_1 R name0 w
abbrev W82 := cwp Tryz.prog (fun i => 0)
noncomputable def k82_0 : Code := (bodyOf Tryz.f82)
noncomputable def k82_1 : Code := (c2 k82_0)
noncomputable def k82_2 : Code := (c2 k82_1)
theorem s82_2 {R : VP} {Q : EQ} (hR : ∀ e w, (R (e 2) w) → Q .ret e w) (e : Env) (w : World) (h : m82_2 R (e 2) w) : W82 k82_2 Q e w := by
  unfold m82_2 at h
  exact reA (hR _ _ h)
theorem s82_1 {R : VP} {Q : EQ} (hR : ∀ e w, (R (e 2) w) → Q .ret e w) (e : Env) (w : World) (h : m82_1 R (e 0) w) : W82 k82_1 Q e w := by
  unfold m82_1 at h
  refine seA ?_
  have hN : ∀ e w, (m82_2 R (e 2) w) → (thenE (W82 k82_2 Q) Q) .normal e w := fun e w h => then_N (s82_2 (R := R) (Q := Q) hR e w h)
  exact rgA 1 (fun e w => m82_2 R (e 2) w) h hN
theorem s82_0 {R : VP} {Q : EQ} (hR : ∀ e w, (R (e 2) w) → Q .ret e w) (e : Env) (w : World) (h : m82_0 R (e 0) w) : W82 k82_0 Q e w := by
  unfold m82_0 at h
  refine seA ?_
  have hN : ∀ e w, (m82_1 R (e 0) w) → (thenE (W82 k82_1 Q) Q) .normal e w := fun e w h => then_N (s82_1 (R := R) (Q := Q) hR e w h)
  exact rgA 0 (fun e w => m82_1 R (e 0) w) h hN
abbrev m82 (R : VP) (name0 : Value) (w : World) : Prop := m82_0 R name0 w
theorem s82 (name0 : Value) {R : VP} {w : World} (h : m82 R name0 w) :
    Calls Tryz.prog 82 #[name0] w fun e w' => ∃ v, e = .returned v ∧ R v w' :=
  calls_of_cwp (st := (fun i => 0)) (c := k82_0) (by kernel_rfl) Tryz.func82 (by kernel_rfl) (Nat.le_of_ble_eq_true (by kernel_rfl)) (by kernel_rfl)
    (s82_0 (R := R) (Q := endE Tryz.prog Tryz.f82 R) (fun e w h => kcast (by kernel_rfl) h) (argsE #[name0]) w (kcast (by kernel_rfl) h))
end Go.Proofs.YtcldjjmfpmkldaaGreatDoor.M
namespace Go.Proofs.YtcldjjmfpmkldaaGreatDoor.M
open Go.Proofs.YtcldjjmfpmkldaaGreatDoor.F Go.RowKit
set_option linter.unusedVariables false
set_option linter.unusedSimpArgs false
set_option maxRecDepth 100000
set_option maxHeartbeats 2000000
attribute [local irreducible] Res.cells Res.row Res.map Res.any World.cell? World.frozen? Instr.fieldAt Instr.loadAt Instr.storeAt Instr.indexAt Instr.lookup Instr.mapUpdate Instr.box Instr.build Instr.buildSlice Instr.extract Instr.alloc Instr.field Instr.index Instr.sliceAt Instr.makeSlice Instr.makeMap Instr.makeFunc binS Op.unary Sem.run
section
variable (x y : Operand) (w : World)
end
theorem zero81 (w : World) : (zeroValue 134).run Tryz.prog w = .ok (.agg (Array.replicate 256 (.bool false))) w := by
  have e : (Tryz.prog.info? 134).map (·.zero) = some (some (.agg (Array.replicate 256 (.bool false)))) := by kernel_rfl
  obtain ⟨i, h1, h2⟩ := Option.map_eq_some_iff.1 e
  exact zeroValue_ok h1 h2 w
theorem size81 : (Tryz.prog.info? 134).map (·.size) = some 256 := by kernel_rfl
theorem alo81 (w : World) : (Instr.alloc 134 true (.tuple #[])).run Tryz.prog w = .ok (.pointer (some ⟨w.heap.size, 0, none⟩)) (w.alloc (.cells (Array.replicate 256 (.bool false)) 134)) := by
  have e : Tryz.zeroCells134 = Array.replicate 256 (.bool false) := by kernel_rfl
  simp [go_sem, zero81, Value.cells, e]
abbrev letters : ByteArray := ⟨#[97, 98, 99, 100, 101, 102, 103, 104, 105, 106, 107, 108, 109, 110, 111, 112, 113, 114, 115, 116, 117, 118, 119, 120, 121, 122, 48, 49, 50, 51, 52, 53, 54, 55, 56, 57, 46, 45]⟩
abbrev setL : List Value := (Go.Lib.setCells letters.data.toList).toList
/-- is it one of the letters of names? -/
def inL (b : UInt8) : Bool := letters.data.toList.contains b
theorem setL_at (b : UInt8) : setL[b.toNat]? = some (.bool (inL b)) := by
  have := Go.Lib.setCells_at letters.data.toList b
  unfold setL inL
  rw [Array.getElem?_toList]
  exact this
theorem sto81 (w : World) : (Instr.storeAt 134 (.pointer (some ⟨w.heap.size, 0, none⟩)) (.agg (Go.Lib.setCells letters.data.toList))).run Tryz.prog (w.alloc (.cells (Array.replicate 256 (.bool false)) 134)) = .ok () (w.alloc (.cells setL.toArray 134)) := by
  have := run_storeVar_new (P := Tryz.prog) w 134 (Array.replicate 256 (.bool false)) (Go.Lib.setCells letters.data.toList) (by rw [Go.Lib.setCells_size]; exact size81) (by rw [Go.Lib.setCells_size]; simp) (Go.Lib.setCells_one _)
  unfold setL
  rw [Array.toArray_toList]
  simpa [go_sem] using this
section
variable {w0 w : World} {F : List Nat} {L : List Res} {s : ByteArray}
theorem contains_ret {b : Nat} (x : UInt8) (hS : St w0 F w (Res.cells b 134 setL :: L)) : Ret Tryz.prog 110 #[.pointer (some ⟨b, 0, none⟩), .int .u8 (x.toNat : Int)] w fun v w' => v = .bool (inL x) ∧ St w0 F w' (Res.cells b 134 setL :: L) :=
  Calls.mono (Tryz.asciiSet_contains b x (inL x) w (hS.cell 0 rfl (setL_at x))) fun e w' ⟨he, hw⟩ => ⟨_, he, rfl, hw ▸ hS⟩
theorem ext_size (s : ByteArray) (i j : Nat) (h : j ≤ s.size) : (s.extract i j).size = j - i := by
  rw [ByteArray.size_extract]
  omega
theorem ext_get (s : ByteArray) (i j k : Nat) (h : j ≤ s.size) (hk : k < (s.extract i j).size) : (s.extract i j)[k] = s[i + k]'(by rw [ext_size s i j h] at hk; omega) := by
  simp [ByteArray.getElem_eq_getElem_data, ByteArray.data_extract]
theorem ext_ext (s : ByteArray) (i j k : Nat) (h : j ≤ s.size) (hk : i + k ≤ j) : (s.extract i j).extract k (s.extract i j).size = s.extract (i + k) j := by
  rw [ext_size s i j h]
  apply ByteArray.ext
  simp only [ByteArray.data_extract, Array.extract_extract]
  congr 1
  omega
theorem ext_take (s : ByteArray) (j k : Nat) (hk : k ≤ j) : (s.extract 0 j).extract 0 k = s.extract 0 k := by
  apply ByteArray.ext
  simp only [ByteArray.data_extract, Array.extract_extract]
  congr 1
  omega
theorem ext_all (s : ByteArray) : s.extract 0 s.size = s := by
  apply ByteArray.ext
  rw [ByteArray.data_extract]
  exact Array.extract_size
/-- all its bytes are letters. -/
def AllL (s : ByteArray) : Prop := ∀ i (h : i < s.size), inL s[i] = true
theorem right_ret {b : Nat} (hs : s.size ≤ 1000000) (hS : St w0 F w (Res.cells b 134 setL :: L)) : Ret Tryz.prog 95 #[.string s, .pointer (some ⟨b, 0, none⟩)] w fun v w' => (∃ k, v = .string (s.extract 0 k) ∧ k ≤ s.size ∧ (∀ i (h : i < s.size), k ≤ i → inL s[i] = true) ∧ (∀ h : k - 1 < s.size, 0 < k → inL s[k - 1] = false)) ∧ St w0 F w' (Res.cells b 134 setL :: L) := by
  refine s95 _ _ ?_
  unfold m95 m95_0 m95_1
  refine loop_in (fun u w' => ∃ k : Nat, u = .string (s.extract 0 k) ∧ k ≤ s.size ∧ (∀ i (h : i < s.size), k ≤ i → inL s[i] = true) ∧ St w0 F w' (Res.cells b 134 setL :: L)) (fun u _ => match u with | .string t => t.size | _ => 0) ⟨s.size, by rw [ext_all], Nat.le_refl _, fun i h h2 => by omega, hS⟩ ?_
  clear hS
  rintro u w ⟨k, rfl, hk, hall, hS⟩
  have hz := ext_size s 0 k hk
  unfold m95_4
  refine builtin_ok (len9 _) ?_
  refine valP_ok (gtr_ok _ _ _ _ _ _ _) ?_
  unfold m95_8
  refine cond_split (fun h => ?_) (fun h => ?_)
  · have hk0 : 0 < k := by omega
    have hk1 : k - 1 < s.size := by omega
    unfold m95_5
    refine builtin_ok (len9 _) ?_
    refine valP_ok (sub_ok _ _ _ (by omega) (by omega) _) ?_
    rw [show (((s.extract 0 k).size : Int) - 1) = ((k - 1 : Nat) : Int) by omega]
    refine valP_ok (sidx _ (by omega)) ?_
    rw [ext_get s 0 k (k - 1) hk (by omega)]
    refine callR (by kernel_rfl) (contains_ret _ hS) ?_
    rintro _ w ⟨rfl, hS⟩
    first | refine valP_ok (not_ok _ _) ?_ | refine valP_ok (notb_ok _ _) ?_
    have e0 : s[0 + (k - 1)]'(by omega) = s[k - 1] := by congr 1; omega
    rw [e0]
    unfold m95_7
    cases hb : inL s[k - 1] with
    | false =>
      refine cond_t rfl ?_
      unfold m95_2 m95_3
      exact ⟨⟨k, rfl, hk, hall, fun _ _ => hb⟩, hS⟩
    | true =>
      refine cond_f rfl ?_
      unfold m95_6
      refine builtin_ok (len9 _) ?_
      refine valP_ok (sub_ok _ _ _ (by omega) (by omega) _) ?_
      rw [show (((s.extract 0 k).size : Int) - 1) = ((k - 1 : Nat) : Int) by omega]
      refine valP_ok (sto _ (by omega)) ?_
      rw [ext_take s k (k - 1) (by omega)]
      refine ⟨⟨k - 1, rfl, by omega, fun i h1 h2 => ?_, hS⟩, ?_⟩
      · rcases Nat.lt_or_ge i k with g | g
        · obtain rfl : i = k - 1 := by omega
          exact hb
        · exact hall i h1 g
      · simp only
        rw [ext_size s 0 (k - 1) (by omega), hz]
        omega
  · obtain rfl : k = 0 := by omega
    unfold m95_2 m95_3
    exact ⟨⟨0, rfl, hk, hall, fun _ h => by omega⟩, hS⟩
theorem left_ret {b : Nat} (hS : St w0 F w (Res.cells b 134 setL :: L)) : Ret Tryz.prog 94 #[.string s, .pointer (some ⟨b, 0, none⟩)] w fun v w' => (∃ k, v = .string (s.extract k s.size) ∧ k ≤ s.size ∧ (∀ i (h : i < s.size), i < k → inL s[i] = true)) ∧ St w0 F w' (Res.cells b 134 setL :: L) := by
  refine s94 _ _ ?_
  unfold m94 m94_0 m94_1
  refine loop_in (fun u w' => ∃ k : Nat, u = .string (s.extract k s.size) ∧ k ≤ s.size ∧ (∀ i (h : i < s.size), i < k → inL s[i] = true) ∧ St w0 F w' (Res.cells b 134 setL :: L)) (fun u _ => match u with | .string t => t.size | _ => 0) ⟨0, by rw [ext_all], Nat.zero_le _, fun i h h2 => by omega, hS⟩ ?_
  clear hS
  rintro u w ⟨k, rfl, hk, hall, hS⟩
  have hz := ext_size s k s.size (Nat.le_refl _)
  unfold m94_4
  refine builtin_ok (len9 _) ?_
  refine valP_ok (gtr_ok _ _ _ _ _ _ _) ?_
  unfold m94_8
  refine cond_split (fun h => ?_) (fun h => ?_)
  · have hk1 : k < s.size := by omega
    unfold m94_5
    refine valP_ok (sidx (k := 0) _ (by omega)) ?_
    rw [ext_get s k s.size 0 (Nat.le_refl _) (by omega)]
    refine callR (by kernel_rfl) (contains_ret _ hS) ?_
    rintro _ w ⟨rfl, hS⟩
    first | refine valP_ok (not_ok _ _) ?_ | refine valP_ok (notb_ok _ _) ?_
    have e0 : s[k + 0]'(by omega) = s[k] := rfl
    rw [e0]
    unfold m94_7
    cases hb : inL s[k] with
    | false =>
      refine cond_t rfl ?_
      unfold m94_2 m94_3
      exact ⟨⟨k, rfl, hk, hall⟩, hS⟩
    | true =>
      refine cond_f rfl ?_
      unfold m94_6
      refine valP_ok (sfrom (k := 1) _ (by omega)) ?_
      rw [ext_ext s k s.size 1 (Nat.le_refl _) (by omega)]
      refine ⟨⟨k + 1, rfl, by omega, fun i h1 h2 => ?_, hS⟩, ?_⟩
      · rcases Nat.lt_or_ge i k with g | g
        · exact hall i h1 g
        · obtain rfl : i = k := by omega
          exact hb
      · simp only
        rw [ext_size s (k + 1) s.size (Nat.le_refl _), hz]
        omega
  · unfold m94_2 m94_3
    exact ⟨⟨k, rfl, hk, hall⟩, hS⟩
theorem empty_iff (s : ByteArray) : s = ⟨#[]⟩ ↔ s.size = 0 := by
  constructor
  · rintro rfl; rfl
  · intro h
    apply ByteArray.ext
    exact Array.eq_empty_of_size_eq_zero h
theorem trim_ret (h0 : 0 < s.size) (hs : s.size ≤ 1000000) (hS : St w0 F w L) : Ret Tryz.prog 63 #[.string s, .string letters] w fun v w' => (∃ t, v = .string t ∧ (t = ⟨#[]⟩ ↔ AllL s)) ∧ St w0 F w' L := by
  have hne : ¬ s = ⟨#[]⟩ := fun h => by rw [h] at h0; exact Nat.lt_irrefl 0 h0
  have hl : letters.size = 38 := by decide
  have hln : ¬ letters = ⟨#[]⟩ := fun h => by
    have := congrArg ByteArray.size h
    rw [hl] at this
    exact absurd this (by decide)
  refine s63 _ _ ?_
  unfold m63
  unfold m63_0
  unfold m63_1
  refine valP_ok (eq9 _ _ _ _ _) ?_
  refine cond_df hne ?_
  refine valP_ok (eq9 _ _ _ _ _) ?_
  first | refine pick_dt (by first | assumption | omega) ?_ | refine pick_df (by first | assumption | omega) ?_ | refine pick_t (by first | rfl | assumption) ?_ | refine pick_f (by first | rfl | assumption) ?_ | refine pick_dt rfl ?_ | refine pick_df (not_not_intro rfl) ?_
  unfold m63_11
  refine cond_df hln ?_
  unfold m63_2
  refine builtin_ok (len9 _) ?_
  refine valP_ok (eq3 _ _ _ _ _) ?_
  refine cond_df (by rw [hl]; omega) ?_
  first | refine pick_dt (by first | assumption | omega) ?_ | refine pick_df (by first | assumption | omega) ?_ | refine pick_t (by first | rfl | assumption) ?_ | refine pick_f (by first | rfl | assumption) ?_ | refine pick_dt rfl ?_ | refine pick_df (not_not_intro rfl) ?_
  unfold m63_9
  refine cond_f rfl ?_
  unfold m63_3
  refine call_ok (by kernel_rfl) (Calls.mono (Tryz.strings_makeASCIISet zero81 letters w (by rw [hl]; omega) (by
    have : (letters.data.toList.all fun b => decide (b.toNat < 128)) = true := by decide
    intro j b hb
    exact of_decide_eq_true (List.all_eq_true.1 this b (List.mem_of_getElem? hb)))) fun e w' ⟨he, hw⟩ => ⟨_, he, ?_⟩)
  subst hw
  have hS1 := (hS.alloc 134 setL).tail
  have e1 : setL.toArray = Go.Lib.setCells letters.data.toList := Array.toArray_toList
  rw [e1] at hS1
  generalize w.alloc (.cells (Go.Lib.setCells letters.data.toList) 134) = w1 at *
  refine valP_ok (extract_ok _ 0 rfl _) ?_
  refine valP_ok (extract_ok _ 1 rfl _) ?_
  refine valP_ok (alo81 _) ?_
  refine unitP_ok (sto81 _) ?_
  have hS2 := hS1.alloc 134 setL
  generalize hb : w1.heap.size = b at *
  generalize w1.alloc (.cells setL.toArray 134) = w2 at *
  unfold m63_6 m63_7
  refine cond_t rfl ?_
  refine callR (by kernel_rfl) (right_ret hs hS2) ?_
  rintro _ w ⟨⟨k, rfl, hk, hall, hnot⟩, hS⟩
  refine callR (by kernel_rfl) (left_ret hS) ?_
  rintro _ w ⟨⟨j, rfl, hj, hall2⟩, hS⟩
  unfold m63_8
  refine ⟨⟨_, rfl, ?_⟩, hS.tail⟩
  have hz := ext_size s 0 k hk
  have hz2 := ext_size (s.extract 0 k) j (s.extract 0 k).size (Nat.le_refl _)
  rw [empty_iff, hz2]
  constructor
  · intro h i hi
    rcases Nat.lt_or_ge i k with g | g
    · have hk1 : k - 1 < s.size := by omega
      have h3 := hall2 (k - 1) (by omega) (by omega)
      rw [ext_get s 0 k (k - 1) hk (by omega)] at h3
      have e0 : s[0 + (k - 1)]'(by omega) = s[k - 1] := by congr 1; omega
      rw [e0, hnot hk1 (by omega)] at h3
      cases h3
    · exact hall i hi g
  · intro h
    rcases Nat.eq_zero_or_pos k with g | g
    · omega
    · have hk1 : k - 1 < s.size := by omega
      have := h (k - 1) hk1
      rw [hnot hk1 g] at this
      cases this
/-- may a file have that name? -/
def Named (s : ByteArray) : Prop := 0 < s.size ∧ s.size ≤ 24 ∧ AllL s
instance (s : ByteArray) : Decidable (AllL s) := by unfold AllL; infer_instance
instance (s : ByteArray) : Decidable (Named s) := by unfold Named; infer_instance
theorem named_ret (hS : St w0 F w L) : Ret Tryz.prog 82 #[.string s] w fun v w' => v = .bool (decide (Named s)) ∧ St w0 F w' L := by
  refine s82 _ ?_
  unfold m82
  unfold m82_0
  have leaf : ∀ t : Bool, (t = true ↔ Named s) → ∀ w, St w0 F w L → m82_2 (fun v w' => v = .bool (decide (Named s)) ∧ St w0 F w' L) (.bool t) w := fun t ht w hS => by
    unfold m82_2
    refine ⟨congrArg Value.bool ?_, hS⟩
    cases t with
    | true => exact (decide_eq_true (ht.1 rfl)).symm
    | false => exact (decide_eq_false fun h => by have := ht.2 h; cases this).symm
  unfold m82_1
  refine valP_ok (ne9 _ _ _ _ _) ?_
  refine cond_split (fun h => ?_) (fun h => ?_)
  · refine builtin_ok (len9 _) ?_
    refine valP_ok (leq_ok _ _ _ _ _ _ _) ?_
    first | refine pick_dt (by first | assumption | omega) ?_ | refine pick_df (by first | assumption | omega) ?_ | refine pick_t (by first | rfl | assumption) ?_ | refine pick_f (by first | rfl | assumption) ?_ | refine pick_dt rfl ?_ | refine pick_df (not_not_intro rfl) ?_
    refine cond_split (fun h1 => ?_) (fun h1 => ?_)
    · have h0 : 0 < s.size := by
        rcases Nat.eq_zero_or_pos s.size with g | g
        · exact absurd ((empty_iff s).2 g) h
        · exact g
      refine callR (by kernel_rfl) (trim_ret h0 (by omega) hS) ?_
      rintro _ w ⟨⟨t, rfl, ht⟩, hS⟩
      refine valP_ok (eq9 _ _ _ _ _) ?_
      first | refine pick_dt (by first | assumption | omega) ?_ | refine pick_df (by first | assumption | omega) ?_ | refine pick_t (by first | rfl | assumption) ?_ | refine pick_f (by first | rfl | assumption) ?_ | refine pick_dt rfl ?_ | refine pick_df (not_not_intro rfl) ?_
      refine leaf _ ?_ _ hS
      rw [decide_eq_true_eq, ht]
      unfold Named
      exact ⟨fun h => ⟨h0, by omega, h⟩, fun h => h.2.2⟩
    · first | refine pick_dt (by first | assumption | omega) ?_ | refine pick_df (by first | assumption | omega) ?_ | refine pick_t (by first | rfl | assumption) ?_ | refine pick_f (by first | rfl | assumption) ?_ | refine pick_dt rfl ?_ | refine pick_df (not_not_intro rfl) ?_
      exact leaf _ (by unfold Named; exact ⟨fun h => (by cases h), fun h => by omega⟩) _ hS
  · first | refine pick_dt (by first | assumption | omega) ?_ | refine pick_df (by first | assumption | omega) ?_ | refine pick_t (by first | rfl | assumption) ?_ | refine pick_f (by first | rfl | assumption) ?_ | refine pick_dt rfl ?_ | refine pick_df (not_not_intro rfl) ?_
    refine cond_f rfl ?_
    first | refine pick_dt (by first | assumption | omega) ?_ | refine pick_df (by first | assumption | omega) ?_ | refine pick_t (by first | rfl | assumption) ?_ | refine pick_f (by first | rfl | assumption) ?_ | refine pick_dt rfl ?_ | refine pick_df (not_not_intro rfl) ?_
    refine leaf _ ⟨fun h => (by cases h), fun h1 => ?_⟩ _ hS
    exact absurd h1.1 (by rw [(empty_iff s).1 (Classical.not_not.1 h)]; omega)
end
end Go.Proofs.YtcldjjmfpmkldaaGreatDoor.M
namespace Go.Proofs.YtcldjjmfpmkldaaGreatDoor.M
open Go.Proofs.YtcldjjmfpmkldaaGreatDoor.F Go.RowKit
set_option linter.unusedVariables false
set_option linter.unusedSimpArgs false
set_option maxRecDepth 100000
set_option maxHeartbeats 2000000
attribute [local irreducible] Res.cells Res.row Res.map Res.any World.cell? World.frozen? Instr.fieldAt Instr.loadAt Instr.storeAt Instr.indexAt Instr.lookup Instr.mapUpdate Instr.box Instr.build Instr.buildSlice Instr.extract Instr.alloc Instr.field Instr.index Instr.sliceAt Instr.makeSlice Instr.makeMap Instr.makeFunc binS Op.unary Sem.run
section
variable (x y : Operand) (w : World)
end
abbrev lettersB : ByteArray := ⟨#[97, 98, 99, 100, 101, 102, 103, 104, 105, 106, 107, 108, 109, 110, 111, 112, 113, 114, 115, 116, 117, 118, 119, 120, 121, 122, 48, 49, 50, 51, 52, 53, 54, 55, 56, 57, 45]⟩
abbrev setLB : List Value := (Go.Lib.setCells lettersB.data.toList).toList
/-- is it one of the lettersB of names? -/
def inLB (b : UInt8) : Bool := lettersB.data.toList.contains b
theorem setL_atB (b : UInt8) : setLB[b.toNat]? = some (.bool (inLB b)) := by
  have := Go.Lib.setCells_at lettersB.data.toList b
  unfold setLB inLB
  rw [Array.getElem?_toList]
  exact this
theorem sto81B (w : World) : (Instr.storeAt 134 (.pointer (some ⟨w.heap.size, 0, none⟩)) (.agg (Go.Lib.setCells lettersB.data.toList))).run Tryz.prog (w.alloc (.cells (Array.replicate 256 (.bool false)) 134)) = .ok () (w.alloc (.cells setLB.toArray 134)) := by
  have := run_storeVar_new (P := Tryz.prog) w 134 (Array.replicate 256 (.bool false)) (Go.Lib.setCells lettersB.data.toList) (by rw [Go.Lib.setCells_size]; exact size81) (by rw [Go.Lib.setCells_size]; simp) (Go.Lib.setCells_one _)
  unfold setLB
  rw [Array.toArray_toList]
  simpa [go_sem] using this
section
variable {w0 w : World} {F : List Nat} {L : List Res} {s : ByteArray}
theorem contains_retB {b : Nat} (x : UInt8) (hS : St w0 F w (Res.cells b 134 setLB :: L)) : Ret Tryz.prog 110 #[.pointer (some ⟨b, 0, none⟩), .int .u8 (x.toNat : Int)] w fun v w' => v = .bool (inLB x) ∧ St w0 F w' (Res.cells b 134 setLB :: L) :=
  Calls.mono (Tryz.asciiSet_contains b x (inLB x) w (hS.cell 0 rfl (setL_atB x))) fun e w' ⟨he, hw⟩ => ⟨_, he, rfl, hw ▸ hS⟩
theorem ext_sizeB (s : ByteArray) (i j : Nat) (h : j ≤ s.size) : (s.extract i j).size = j - i := by
  rw [ByteArray.size_extract]
  omega
theorem ext_getB (s : ByteArray) (i j k : Nat) (h : j ≤ s.size) (hk : k < (s.extract i j).size) : (s.extract i j)[k] = s[i + k]'(by rw [ext_sizeB s i j h] at hk; omega) := by
  simp [ByteArray.getElem_eq_getElem_data, ByteArray.data_extract]
theorem ext_extB (s : ByteArray) (i j k : Nat) (h : j ≤ s.size) (hk : i + k ≤ j) : (s.extract i j).extract k (s.extract i j).size = s.extract (i + k) j := by
  rw [ext_sizeB s i j h]
  apply ByteArray.ext
  simp only [ByteArray.data_extract, Array.extract_extract]
  congr 1
  omega
theorem ext_takeB (s : ByteArray) (j k : Nat) (hk : k ≤ j) : (s.extract 0 j).extract 0 k = s.extract 0 k := by
  apply ByteArray.ext
  simp only [ByteArray.data_extract, Array.extract_extract]
  congr 1
  omega
theorem ext_allB (s : ByteArray) : s.extract 0 s.size = s := by
  apply ByteArray.ext
  rw [ByteArray.data_extract]
  exact Array.extract_size
/-- all its bytes are lettersB. -/
def AllLB (s : ByteArray) : Prop := ∀ i (h : i < s.size), inLB s[i] = true
theorem right_retB {b : Nat} (hs : s.size ≤ 1000000) (hS : St w0 F w (Res.cells b 134 setLB :: L)) : Ret Tryz.prog 95 #[.string s, .pointer (some ⟨b, 0, none⟩)] w fun v w' => (∃ k, v = .string (s.extract 0 k) ∧ k ≤ s.size ∧ (∀ i (h : i < s.size), k ≤ i → inLB s[i] = true) ∧ (∀ h : k - 1 < s.size, 0 < k → inLB s[k - 1] = false)) ∧ St w0 F w' (Res.cells b 134 setLB :: L) := by
  refine s95 _ _ ?_
  unfold m95 m95_0 m95_1
  refine loop_in (fun u w' => ∃ k : Nat, u = .string (s.extract 0 k) ∧ k ≤ s.size ∧ (∀ i (h : i < s.size), k ≤ i → inLB s[i] = true) ∧ St w0 F w' (Res.cells b 134 setLB :: L)) (fun u _ => match u with | .string t => t.size | _ => 0) ⟨s.size, by rw [ext_allB], Nat.le_refl _, fun i h h2 => by omega, hS⟩ ?_
  clear hS
  rintro u w ⟨k, rfl, hk, hall, hS⟩
  have hz := ext_sizeB s 0 k hk
  unfold m95_4
  refine builtin_ok (len9 _) ?_
  refine valP_ok (gtr_ok _ _ _ _ _ _ _) ?_
  unfold m95_8
  refine cond_split (fun h => ?_) (fun h => ?_)
  · have hk0 : 0 < k := by omega
    have hk1 : k - 1 < s.size := by omega
    unfold m95_5
    refine builtin_ok (len9 _) ?_
    refine valP_ok (sub_ok _ _ _ (by omega) (by omega) _) ?_
    rw [show (((s.extract 0 k).size : Int) - 1) = ((k - 1 : Nat) : Int) by omega]
    refine valP_ok (sidx _ (by omega)) ?_
    rw [ext_getB s 0 k (k - 1) hk (by omega)]
    refine callR (by kernel_rfl) (contains_retB _ hS) ?_
    rintro _ w ⟨rfl, hS⟩
    first | refine valP_ok (not_ok _ _) ?_ | refine valP_ok (notb_ok _ _) ?_
    have e0 : s[0 + (k - 1)]'(by omega) = s[k - 1] := by congr 1; omega
    rw [e0]
    unfold m95_7
    cases hb : inLB s[k - 1] with
    | false =>
      refine cond_t rfl ?_
      unfold m95_2 m95_3
      exact ⟨⟨k, rfl, hk, hall, fun _ _ => hb⟩, hS⟩
    | true =>
      refine cond_f rfl ?_
      unfold m95_6
      refine builtin_ok (len9 _) ?_
      refine valP_ok (sub_ok _ _ _ (by omega) (by omega) _) ?_
      rw [show (((s.extract 0 k).size : Int) - 1) = ((k - 1 : Nat) : Int) by omega]
      refine valP_ok (sto _ (by omega)) ?_
      rw [ext_takeB s k (k - 1) (by omega)]
      refine ⟨⟨k - 1, rfl, by omega, fun i h1 h2 => ?_, hS⟩, ?_⟩
      · rcases Nat.lt_or_ge i k with g | g
        · obtain rfl : i = k - 1 := by omega
          exact hb
        · exact hall i h1 g
      · simp only
        rw [ext_sizeB s 0 (k - 1) (by omega), hz]
        omega
  · obtain rfl : k = 0 := by omega
    unfold m95_2 m95_3
    exact ⟨⟨0, rfl, hk, hall, fun _ h => by omega⟩, hS⟩
theorem left_retB {b : Nat} (hS : St w0 F w (Res.cells b 134 setLB :: L)) : Ret Tryz.prog 94 #[.string s, .pointer (some ⟨b, 0, none⟩)] w fun v w' => (∃ k, v = .string (s.extract k s.size) ∧ k ≤ s.size ∧ (∀ i (h : i < s.size), i < k → inLB s[i] = true)) ∧ St w0 F w' (Res.cells b 134 setLB :: L) := by
  refine s94 _ _ ?_
  unfold m94 m94_0 m94_1
  refine loop_in (fun u w' => ∃ k : Nat, u = .string (s.extract k s.size) ∧ k ≤ s.size ∧ (∀ i (h : i < s.size), i < k → inLB s[i] = true) ∧ St w0 F w' (Res.cells b 134 setLB :: L)) (fun u _ => match u with | .string t => t.size | _ => 0) ⟨0, by rw [ext_allB], Nat.zero_le _, fun i h h2 => by omega, hS⟩ ?_
  clear hS
  rintro u w ⟨k, rfl, hk, hall, hS⟩
  have hz := ext_sizeB s k s.size (Nat.le_refl _)
  unfold m94_4
  refine builtin_ok (len9 _) ?_
  refine valP_ok (gtr_ok _ _ _ _ _ _ _) ?_
  unfold m94_8
  refine cond_split (fun h => ?_) (fun h => ?_)
  · have hk1 : k < s.size := by omega
    unfold m94_5
    refine valP_ok (sidx (k := 0) _ (by omega)) ?_
    rw [ext_getB s k s.size 0 (Nat.le_refl _) (by omega)]
    refine callR (by kernel_rfl) (contains_retB _ hS) ?_
    rintro _ w ⟨rfl, hS⟩
    first | refine valP_ok (not_ok _ _) ?_ | refine valP_ok (notb_ok _ _) ?_
    have e0 : s[k + 0]'(by omega) = s[k] := rfl
    rw [e0]
    unfold m94_7
    cases hb : inLB s[k] with
    | false =>
      refine cond_t rfl ?_
      unfold m94_2 m94_3
      exact ⟨⟨k, rfl, hk, hall⟩, hS⟩
    | true =>
      refine cond_f rfl ?_
      unfold m94_6
      refine valP_ok (sfrom (k := 1) _ (by omega)) ?_
      rw [ext_extB s k s.size 1 (Nat.le_refl _) (by omega)]
      refine ⟨⟨k + 1, rfl, by omega, fun i h1 h2 => ?_, hS⟩, ?_⟩
      · rcases Nat.lt_or_ge i k with g | g
        · exact hall i h1 g
        · obtain rfl : i = k := by omega
          exact hb
      · simp only
        rw [ext_sizeB s (k + 1) s.size (Nat.le_refl _), hz]
        omega
  · unfold m94_2 m94_3
    exact ⟨⟨k, rfl, hk, hall⟩, hS⟩
theorem empty_iffB (s : ByteArray) : s = ⟨#[]⟩ ↔ s.size = 0 := by
  constructor
  · rintro rfl; rfl
  · intro h
    apply ByteArray.ext
    exact Array.eq_empty_of_size_eq_zero h
theorem trim_retB (h0 : 0 < s.size) (hs : s.size ≤ 1000000) (hS : St w0 F w L) : Ret Tryz.prog 63 #[.string s, .string lettersB] w fun v w' => (∃ t, v = .string t ∧ (t = ⟨#[]⟩ ↔ AllLB s)) ∧ St w0 F w' L := by
  have hne : ¬ s = ⟨#[]⟩ := fun h => by rw [h] at h0; exact Nat.lt_irrefl 0 h0
  have hl : lettersB.size = 37 := by decide
  have hln : ¬ lettersB = ⟨#[]⟩ := fun h => by
    have := congrArg ByteArray.size h
    rw [hl] at this
    exact absurd this (by decide)
  refine s63 _ _ ?_
  unfold m63
  unfold m63_0
  unfold m63_1
  refine valP_ok (eq9 _ _ _ _ _) ?_
  refine cond_df hne ?_
  refine valP_ok (eq9 _ _ _ _ _) ?_
  first | refine pick_dt (by first | assumption | omega) ?_ | refine pick_df (by first | assumption | omega) ?_ | refine pick_t (by first | rfl | assumption) ?_ | refine pick_f (by first | rfl | assumption) ?_ | refine pick_dt rfl ?_ | refine pick_df (not_not_intro rfl) ?_
  unfold m63_11
  refine cond_df hln ?_
  unfold m63_2
  refine builtin_ok (len9 _) ?_
  refine valP_ok (eq3 _ _ _ _ _) ?_
  refine cond_df (by rw [hl]; omega) ?_
  first | refine pick_dt (by first | assumption | omega) ?_ | refine pick_df (by first | assumption | omega) ?_ | refine pick_t (by first | rfl | assumption) ?_ | refine pick_f (by first | rfl | assumption) ?_ | refine pick_dt rfl ?_ | refine pick_df (not_not_intro rfl) ?_
  unfold m63_9
  refine cond_f rfl ?_
  unfold m63_3
  refine call_ok (by kernel_rfl) (Calls.mono (Tryz.strings_makeASCIISet zero81 lettersB w (by rw [hl]; omega) (by
    have : (lettersB.data.toList.all fun b => decide (b.toNat < 128)) = true := by decide
    intro j b hb
    exact of_decide_eq_true (List.all_eq_true.1 this b (List.mem_of_getElem? hb)))) fun e w' ⟨he, hw⟩ => ⟨_, he, ?_⟩)
  subst hw
  have hS1 := (hS.alloc 134 setLB).tail
  have e1 : setLB.toArray = Go.Lib.setCells lettersB.data.toList := Array.toArray_toList
  rw [e1] at hS1
  generalize w.alloc (.cells (Go.Lib.setCells lettersB.data.toList) 134) = w1 at *
  refine valP_ok (extract_ok _ 0 rfl _) ?_
  refine valP_ok (extract_ok _ 1 rfl _) ?_
  refine valP_ok (alo81 _) ?_
  refine unitP_ok (sto81B _) ?_
  have hS2 := hS1.alloc 134 setLB
  generalize hb : w1.heap.size = b at *
  generalize w1.alloc (.cells setLB.toArray 134) = w2 at *
  unfold m63_6 m63_7
  refine cond_t rfl ?_
  refine callR (by kernel_rfl) (right_retB hs hS2) ?_
  rintro _ w ⟨⟨k, rfl, hk, hall, hnot⟩, hS⟩
  refine callR (by kernel_rfl) (left_retB hS) ?_
  rintro _ w ⟨⟨j, rfl, hj, hall2⟩, hS⟩
  unfold m63_8
  refine ⟨⟨_, rfl, ?_⟩, hS.tail⟩
  have hz := ext_sizeB s 0 k hk
  have hz2 := ext_sizeB (s.extract 0 k) j (s.extract 0 k).size (Nat.le_refl _)
  rw [empty_iffB, hz2]
  constructor
  · intro h i hi
    rcases Nat.lt_or_ge i k with g | g
    · have hk1 : k - 1 < s.size := by omega
      have h3 := hall2 (k - 1) (by omega) (by omega)
      rw [ext_getB s 0 k (k - 1) hk (by omega)] at h3
      have e0 : s[0 + (k - 1)]'(by omega) = s[k - 1] := by congr 1; omega
      rw [e0, hnot hk1 (by omega)] at h3
      cases h3
    · exact hall i hi g
  · intro h
    rcases Nat.eq_zero_or_pos k with g | g
    · omega
    · have hk1 : k - 1 < s.size := by omega
      have := h (k - 1) hk1
      rw [hnot hk1 g] at this
      cases this
end
end Go.Proofs.YtcldjjmfpmkldaaGreatDoor.M
namespace Go.Proofs.YtcldjjmfpmkldaaGreatDoor.M
open Go.Proofs.YtcldjjmfpmkldaaGreatDoor.F
set_option linter.unusedVariables false
set_option maxRecDepth 100000
def m7_19 (R : VP) (t6 : Value) (w : World) : Prop :=
  R t6 w
def m7_17 (R : VP) (t6 : Value) (w : World) : Prop :=
  R t6 w
def m7_13 (R : VP) (t6 : Value) (w : World) : Prop :=
  R t6 w
def m7_10 (R : VP) (t6 : Value) (w : World) : Prop :=
  R t6 w
def m7_7 (R : VP) (t6 : Value) (w : World) : Prop :=
  R t6 w
def m7_6 (R : VP) (d0 name4 : Value) (w : World) : Prop :=
  valP Tryz.prog (Instr.loadAt 9 name4) w fun t55 w =>
  valP Tryz.prog (binS BinOp.add 9 (Operand.tmp 55) (Operand.const (Value.string ⟨#[46, 110, 101, 119]⟩)) t55 (Value.string ⟨#[46, 110, 101, 119]⟩)) w fun t56 w =>
  valP Tryz.prog (Instr.loadAt 9 name4) w fun t57 w =>
  callP Tryz.prog (fnV 28) #[d0, t56, t57] w fun t58 w =>
  m7_7 R t58 w
def m7_9 (R : VP) (d0 name4 e11 t52 : Value) (w : World) : Prop :=
  condP t52
  (m7_10 R e11 w)
  (m7_6 R d0 name4 w)
def m7_8 (R : VP) (d0 name4 e11 : Value) (w : World) : Prop :=
  valP Tryz.prog (binS BinOp.neq 26 (Operand.tmp 51) (Operand.const (Value.int IntKind.i64 0)) e11 (Value.int IntKind.i64 0)) w fun t52 w =>
  m7_9 R d0 name4 e11 t52 w
def m7_5 (R : VP) (d0 name4 : Value) (w : World) : Prop :=
  valP Tryz.prog (Instr.loadAt 9 name4) w fun t48 w =>
  valP Tryz.prog (binS BinOp.add 9 (Operand.tmp 48) (Operand.const (Value.string ⟨#[46, 110, 101, 119]⟩)) t48 (Value.string ⟨#[46, 110, 101, 119]⟩)) w fun t49 w =>
  callP Tryz.prog (fnV 27) #[d0, t49] w fun t50 w =>
  m7_8 R d0 name4 t50 w
def m7_12 (R : VP) (d0 name4 e10 t45 : Value) (w : World) : Prop :=
  condP t45
  (m7_13 R e10 w)
  (m7_5 R d0 name4 w)
def m7_11 (R : VP) (d0 name4 e10 : Value) (w : World) : Prop :=
  valP Tryz.prog (binS BinOp.neq 26 (Operand.tmp 44) (Operand.const (Value.int IntKind.i64 0)) e10 (Value.int IntKind.i64 0)) w fun t45 w =>
  m7_12 R d0 name4 e10 t45 w
def m7_4 (R : VP) (d0 name4 s7 : Value) (w : World) : Prop :=
  valP Tryz.prog (Instr.loadAt 9 name4) w fun t40 w =>
  valP Tryz.prog (binS BinOp.add 9 (Operand.tmp 40) (Operand.const (Value.string ⟨#[46, 110, 101, 119]⟩)) t40 (Value.string ⟨#[46, 110, 101, 119]⟩)) w fun t41 w =>
  callP Tryz.prog (fnV 17) #[d0, t41, s7] w fun t43 w =>
  m7_11 R d0 name4 t43 w
def m7_16 (R : VP) (d0 name4 s7 e9 t37 : Value) (w : World) : Prop :=
  condP t37
  (m7_17 R e9 w)
  (m7_4 R d0 name4 s7 w)
def m7_15 (R : VP) (d0 name4 s7 e9 : Value) (w : World) : Prop :=
  valP Tryz.prog (binS BinOp.neq 26 (Operand.tmp 36) (Operand.const (Value.int IntKind.i64 0)) e9 (Value.int IntKind.i64 0)) w fun t37 w =>
  m7_16 R d0 name4 s7 e9 t37 w
def m7_14 (R : VP) (d0 name4 s7 t31 : Value) (w : World) : Prop :=
  condP t31
  (valP Tryz.prog (Instr.loadAt 9 name4) w fun t33 w =>
  valP Tryz.prog (binS BinOp.add 9 (Operand.tmp 33) (Operand.const (Value.string ⟨#[46, 110, 101, 119]⟩)) t33 (Value.string ⟨#[46, 110, 101, 119]⟩)) w fun t34 w =>
  callP Tryz.prog (fnV 26) #[d0, t34] w fun t35 w =>
  m7_15 R d0 name4 s7 t35 w)
  (m7_4 R d0 name4 s7 w)
def m7_3 (R : VP) (d0 name4 s7 : Value) (w : World) : Prop :=
  callP Tryz.prog (fnV 24) #[d0] w fun t29 w =>
  valP Tryz.prog (Instr.makeFunc (Fn.func 25) #[] #[name4]) w fun t30 w =>
  callP Tryz.prog (fnV 23) #[t29, t30] w fun t31 w =>
  m7_14 R d0 name4 s7 t31 w
def m7_18 (R : VP) (d0 name4 s7 t27 : Value) (w : World) : Prop :=
  condP t27
  (m7_19 R (Value.int IntKind.i64 1) w)
  (m7_3 R d0 name4 s7 w)
def m7_2 (R : VP) (d0 name4 s7 e8 : Value) (w : World) : Prop :=
  valP Tryz.prog (binS BinOp.neq 26 (Operand.tmp 17) (Operand.const (Value.int IntKind.i64 0)) e8 (Value.int IntKind.i64 0)) w fun t18 w =>
  condP t18
  (pickP t18 (Value.bool true) undef fun t22 =>
  condP t22
  (pickP t22 (Value.bool true) undef fun t27 =>
  m7_18 R d0 name4 s7 t27 w)
  (valP Tryz.prog (Instr.loadAt 9 name4) w fun t24 w =>
  callP Tryz.prog (fnV 22) #[t24] w fun t25 w =>
  valP Tryz.prog (Op.unary UnOp.not t25) w fun t26 w =>
  pickP t22 (Value.bool true) t26 fun t27 =>
  m7_18 R d0 name4 s7 t27 w))
  (valP Tryz.prog (binS BinOp.eql 25 (Operand.tmp 20) (Operand.const (Value.pointer none)) d0 (Value.pointer none)) w fun t21 w =>
  pickP t18 (Value.bool true) t21 fun t22 =>
  condP t22
  (pickP t22 (Value.bool true) undef fun t27 =>
  m7_18 R d0 name4 s7 t27 w)
  (valP Tryz.prog (Instr.loadAt 9 name4) w fun t24 w =>
  callP Tryz.prog (fnV 22) #[t24] w fun t25 w =>
  valP Tryz.prog (Op.unary UnOp.not t25) w fun t26 w =>
  pickP t22 (Value.bool true) t26 fun t27 =>
  m7_18 R d0 name4 s7 t27 w))
def m7_1 (R : VP) (d0 l2 name4 : Value) (w : World) : Prop :=
  callP Tryz.prog (fnV 21) #[l2] w fun t14 w =>
  valP Tryz.prog (Instr.extract t14 0) w fun t15 w =>
  valP Tryz.prog (Instr.extract t14 1) w fun t16 w =>
  m7_2 R d0 name4 t15 t16 w
def m7_0 (R : VP) (d0 name1 l2 : Value) (w : World) : Prop :=
  valP Tryz.prog (Instr.box 9 name1) w fun name4 w =>
  m7_1 R d0 l2 name4 w
abbrev W7 := cwp Tryz.prog (fun i => 0)
noncomputable def k7_0 : Code := (bodyOf Tryz.f7)
noncomputable def k7_1 : Code := (c2 k7_0)
noncomputable def k7_2 : Code := (c2 k7_1)
noncomputable def k7_3 : Code := (c2 k7_2)
noncomputable def k7_4 : Code := (c2 k7_3)
noncomputable def k7_5 : Code := (c2 k7_4)
noncomputable def k7_6 : Code := (c2 k7_5)
noncomputable def k7_7 : Code := (c2 k7_6)
noncomputable def k7_8 : Code := (c2 (c1 k7_5))
noncomputable def k7_9 : Code := (c2 k7_8)
noncomputable def k7_10 : Code := (c2 (c1 k7_9))
noncomputable def k7_11 : Code := (c2 (c1 k7_4))
noncomputable def k7_12 : Code := (c2 k7_11)
noncomputable def k7_13 : Code := (c2 (c1 k7_12))
noncomputable def k7_14 : Code := (c2 (c1 k7_3))
noncomputable def k7_15 : Code := (c2 (c1 k7_14))
noncomputable def k7_16 : Code := (c2 k7_15)
noncomputable def k7_17 : Code := (c2 (c1 k7_16))
noncomputable def k7_18 : Code := (c2 (c1 k7_2))
noncomputable def k7_19 : Code := (c2 (c1 k7_18))
theorem s7_19 {R : VP} {Q : EQ} (hR : ∀ e w, (R (e 6) w) → Q .ret e w) (e : Env) (w : World) (h : m7_19 R (e 6) w) : W7 k7_19 Q e w := by
  unfold m7_19 at h
  exact reA (hR _ _ h)
theorem s7_17 {R : VP} {Q : EQ} (hR : ∀ e w, (R (e 6) w) → Q .ret e w) (e : Env) (w : World) (h : m7_17 R (e 6) w) : W7 k7_17 Q e w := by
  unfold m7_17 at h
  exact reA (hR _ _ h)
theorem s7_13 {R : VP} {Q : EQ} (hR : ∀ e w, (R (e 6) w) → Q .ret e w) (e : Env) (w : World) (h : m7_13 R (e 6) w) : W7 k7_13 Q e w := by
  unfold m7_13 at h
  exact reA (hR _ _ h)
theorem s7_10 {R : VP} {Q : EQ} (hR : ∀ e w, (R (e 6) w) → Q .ret e w) (e : Env) (w : World) (h : m7_10 R (e 6) w) : W7 k7_10 Q e w := by
  unfold m7_10 at h
  exact reA (hR _ _ h)
theorem s7_7 {R : VP} {Q : EQ} (hR : ∀ e w, (R (e 6) w) → Q .ret e w) (e : Env) (w : World) (h : m7_7 R (e 6) w) : W7 k7_7 Q e w := by
  unfold m7_7 at h
  exact reA (hR _ _ h)
theorem s7_6 {R : VP} {Q : EQ} (hR : ∀ e w, (R (e 6) w) → Q .ret e w) (e : Env) (w : World) (h : m7_6 R (e 0) (e 4) w) : W7 k7_6 Q e w := by
  unfold m7_6 at h
  refine seA ?_
  have hN : ∀ e w, (m7_7 R (e 6) w) → (thenE (W7 k7_7 Q) Q) .normal e w := fun e w h => then_N (s7_7 (R := R) (Q := Q) hR e w h)
  exact rgA 14 (fun e w => m7_7 R (e 6) w) h hN
theorem s7_9 {R : VP} {Q : EQ} (hN : ∀ e w, (m7_6 R (e 0) (e 4) w) → Q .normal e w) (hR : ∀ e w, (R (e 6) w) → Q .ret e w) (e : Env) (w : World) (h : m7_9 R (e 0) (e 4) (e 11) (e 52) w) : W7 k7_9 Q e w := by
  unfold m7_9 at h
  refine coA (Operand.tmp 52) h (fun h1 => ?_) (fun h1 => ?_)
  · refine seA ?_
    have hN : ∀ e w, (m7_10 R (e 6) w) → (thenE (W7 k7_10 Q) Q) .normal e w := fun e w h => then_N (s7_10 (R := R) (Q := Q) hR e w h)
    exact rgA 13 (fun e w => m7_10 R (e 6) w) h1 hN
  · exact skA (hN _ _ h1)
theorem s7_8 {R : VP} {Q : EQ} (hN : ∀ e w, (m7_6 R (e 0) (e 4) w) → Q .normal e w) (hR : ∀ e w, (R (e 6) w) → Q .ret e w) (e : Env) (w : World) (h : m7_8 R (e 0) (e 4) (e 11) w) : W7 k7_8 Q e w := by
  unfold m7_8 at h
  refine seA ?_
  have hN : ∀ e w, (m7_9 R (e 0) (e 4) (e 11) (e 52) w) → (thenE (W7 k7_9 Q) Q) .normal e w := fun e w h => then_N (s7_9 (R := R) (Q := Q) hN hR e w h)
  exact rgA 12 (fun e w => m7_9 R (e 0) (e 4) (e 11) (e 52) w) h hN
theorem s7_5 {R : VP} {Q : EQ} (hR : ∀ e w, (R (e 6) w) → Q .ret e w) (e : Env) (w : World) (h : m7_5 R (e 0) (e 4) w) : W7 k7_5 Q e w := by
  unfold m7_5 at h
  refine seA ?_
  have hN : ∀ e w, (m7_6 R (e 0) (e 4) w) → (thenE (W7 k7_6 Q) Q) .normal e w := fun e w h => then_N (s7_6 (R := R) (Q := Q) hR e w h)
  have hR : ∀ e w, (R (e 6) w) → (thenE (W7 k7_6 Q) Q) .ret e w := fun e w h => then_R (hR e w h)
  refine seA ?_
  have hN : ∀ e w, (m7_8 R (e 0) (e 4) (e 11) w) → (thenE (W7 k7_8 (thenE (W7 k7_6 Q) Q)) (thenE (W7 k7_6 Q) Q)) .normal e w := fun e w h => then_N (s7_8 (R := R) (Q := (thenE (W7 k7_6 Q) Q)) hN hR e w h)
  exact rgA 11 (fun e w => m7_8 R (e 0) (e 4) (e 11) w) h hN
theorem s7_12 {R : VP} {Q : EQ} (hN : ∀ e w, (m7_5 R (e 0) (e 4) w) → Q .normal e w) (hR : ∀ e w, (R (e 6) w) → Q .ret e w) (e : Env) (w : World) (h : m7_12 R (e 0) (e 4) (e 10) (e 45) w) : W7 k7_12 Q e w := by
  unfold m7_12 at h
  refine coA (Operand.tmp 45) h (fun h1 => ?_) (fun h1 => ?_)
  · refine seA ?_
    have hN : ∀ e w, (m7_13 R (e 6) w) → (thenE (W7 k7_13 Q) Q) .normal e w := fun e w h => then_N (s7_13 (R := R) (Q := Q) hR e w h)
    exact rgA 10 (fun e w => m7_13 R (e 6) w) h1 hN
  · exact skA (hN _ _ h1)
theorem s7_11 {R : VP} {Q : EQ} (hN : ∀ e w, (m7_5 R (e 0) (e 4) w) → Q .normal e w) (hR : ∀ e w, (R (e 6) w) → Q .ret e w) (e : Env) (w : World) (h : m7_11 R (e 0) (e 4) (e 10) w) : W7 k7_11 Q e w := by
  unfold m7_11 at h
  refine seA ?_
  have hN : ∀ e w, (m7_12 R (e 0) (e 4) (e 10) (e 45) w) → (thenE (W7 k7_12 Q) Q) .normal e w := fun e w h => then_N (s7_12 (R := R) (Q := Q) hN hR e w h)
  exact rgA 9 (fun e w => m7_12 R (e 0) (e 4) (e 10) (e 45) w) h hN
theorem s7_4 {R : VP} {Q : EQ} (hR : ∀ e w, (R (e 6) w) → Q .ret e w) (e : Env) (w : World) (h : m7_4 R (e 0) (e 4) (e 7) w) : W7 k7_4 Q e w := by
  unfold m7_4 at h
  refine seA ?_
  have hN : ∀ e w, (m7_5 R (e 0) (e 4) w) → (thenE (W7 k7_5 Q) Q) .normal e w := fun e w h => then_N (s7_5 (R := R) (Q := Q) hR e w h)
  have hR : ∀ e w, (R (e 6) w) → (thenE (W7 k7_5 Q) Q) .ret e w := fun e w h => then_R (hR e w h)
  refine seA ?_
  have hN : ∀ e w, (m7_11 R (e 0) (e 4) (e 10) w) → (thenE (W7 k7_11 (thenE (W7 k7_5 Q) Q)) (thenE (W7 k7_5 Q) Q)) .normal e w := fun e w h => then_N (s7_11 (R := R) (Q := (thenE (W7 k7_5 Q) Q)) hN hR e w h)
  exact rgA 8 (fun e w => m7_11 R (e 0) (e 4) (e 10) w) h hN
theorem s7_16 {R : VP} {Q : EQ} (hN : ∀ e w, (m7_4 R (e 0) (e 4) (e 7) w) → Q .normal e w) (hR : ∀ e w, (R (e 6) w) → Q .ret e w) (e : Env) (w : World) (h : m7_16 R (e 0) (e 4) (e 7) (e 9) (e 37) w) : W7 k7_16 Q e w := by
  unfold m7_16 at h
  refine coA (Operand.tmp 37) h (fun h1 => ?_) (fun h1 => ?_)
  · refine seA ?_
    have hN : ∀ e w, (m7_17 R (e 6) w) → (thenE (W7 k7_17 Q) Q) .normal e w := fun e w h => then_N (s7_17 (R := R) (Q := Q) hR e w h)
    exact rgA 7 (fun e w => m7_17 R (e 6) w) h1 hN
  · exact skA (hN _ _ h1)
theorem s7_15 {R : VP} {Q : EQ} (hN : ∀ e w, (m7_4 R (e 0) (e 4) (e 7) w) → Q .normal e w) (hR : ∀ e w, (R (e 6) w) → Q .ret e w) (e : Env) (w : World) (h : m7_15 R (e 0) (e 4) (e 7) (e 9) w) : W7 k7_15 Q e w := by
  unfold m7_15 at h
  refine seA ?_
  have hN : ∀ e w, (m7_16 R (e 0) (e 4) (e 7) (e 9) (e 37) w) → (thenE (W7 k7_16 Q) Q) .normal e w := fun e w h => then_N (s7_16 (R := R) (Q := Q) hN hR e w h)
  exact rgA 6 (fun e w => m7_16 R (e 0) (e 4) (e 7) (e 9) (e 37) w) h hN
theorem s7_14 {R : VP} {Q : EQ} (hN : ∀ e w, (m7_4 R (e 0) (e 4) (e 7) w) → Q .normal e w) (hR : ∀ e w, (R (e 6) w) → Q .ret e w) (e : Env) (w : World) (h : m7_14 R (e 0) (e 4) (e 7) (e 31) w) : W7 k7_14 Q e w := by
  unfold m7_14 at h
  refine coA (Operand.tmp 31) h (fun h1 => ?_) (fun h1 => ?_)
  · refine seA ?_
    have hN : ∀ e w, (m7_15 R (e 0) (e 4) (e 7) (e 9) w) → (thenE (W7 k7_15 Q) Q) .normal e w := fun e w h => then_N (s7_15 (R := R) (Q := Q) hN hR e w h)
    exact rgA 5 (fun e w => m7_15 R (e 0) (e 4) (e 7) (e 9) w) h1 hN
  · exact skA (hN _ _ h1)
theorem s7_3 {R : VP} {Q : EQ} (hR : ∀ e w, (R (e 6) w) → Q .ret e w) (e : Env) (w : World) (h : m7_3 R (e 0) (e 4) (e 7) w) : W7 k7_3 Q e w := by
  unfold m7_3 at h
  refine seA ?_
  have hN : ∀ e w, (m7_4 R (e 0) (e 4) (e 7) w) → (thenE (W7 k7_4 Q) Q) .normal e w := fun e w h => then_N (s7_4 (R := R) (Q := Q) hR e w h)
  have hR : ∀ e w, (R (e 6) w) → (thenE (W7 k7_4 Q) Q) .ret e w := fun e w h => then_R (hR e w h)
  refine seA ?_
  have hN : ∀ e w, (m7_14 R (e 0) (e 4) (e 7) (e 31) w) → (thenE (W7 k7_14 (thenE (W7 k7_4 Q) Q)) (thenE (W7 k7_4 Q) Q)) .normal e w := fun e w h => then_N (s7_14 (R := R) (Q := (thenE (W7 k7_4 Q) Q)) hN hR e w h)
  exact rgA 4 (fun e w => m7_14 R (e 0) (e 4) (e 7) (e 31) w) h hN
theorem s7_18 {R : VP} {Q : EQ} (hN : ∀ e w, (m7_3 R (e 0) (e 4) (e 7) w) → Q .normal e w) (hR : ∀ e w, (R (e 6) w) → Q .ret e w) (e : Env) (w : World) (h : m7_18 R (e 0) (e 4) (e 7) (e 27) w) : W7 k7_18 Q e w := by
  unfold m7_18 at h
  refine coA (Operand.tmp 27) h (fun h1 => ?_) (fun h1 => ?_)
  · refine seA ?_
    have hN : ∀ e w, (m7_19 R (e 6) w) → (thenE (W7 k7_19 Q) Q) .normal e w := fun e w h => then_N (s7_19 (R := R) (Q := Q) hR e w h)
    exact rgA 3 (fun e w => m7_19 R (e 6) w) h1 hN
  · exact skA (hN _ _ h1)
theorem s7_2 {R : VP} {Q : EQ} (hR : ∀ e w, (R (e 6) w) → Q .ret e w) (e : Env) (w : World) (h : m7_2 R (e 0) (e 4) (e 7) (e 8) w) : W7 k7_2 Q e w := by
  unfold m7_2 at h
  refine seA ?_
  have hN : ∀ e w, (m7_3 R (e 0) (e 4) (e 7) w) → (thenE (W7 k7_3 Q) Q) .normal e w := fun e w h => then_N (s7_3 (R := R) (Q := Q) hR e w h)
  have hR : ∀ e w, (R (e 6) w) → (thenE (W7 k7_3 Q) Q) .ret e w := fun e w h => then_R (hR e w h)
  refine seA ?_
  have hN : ∀ e w, (m7_18 R (e 0) (e 4) (e 7) (e 27) w) → (thenE (W7 k7_18 (thenE (W7 k7_3 Q) Q)) (thenE (W7 k7_3 Q) Q)) .normal e w := fun e w h => then_N (s7_18 (R := R) (Q := (thenE (W7 k7_3 Q) Q)) hN hR e w h)
  exact rgA 2 (fun e w => m7_18 R (e 0) (e 4) (e 7) (e 27) w) h hN
theorem s7_1 {R : VP} {Q : EQ} (hR : ∀ e w, (R (e 6) w) → Q .ret e w) (e : Env) (w : World) (h : m7_1 R (e 0) (e 2) (e 4) w) : W7 k7_1 Q e w := by
  unfold m7_1 at h
  refine seA ?_
  have hN : ∀ e w, (m7_2 R (e 0) (e 4) (e 7) (e 8) w) → (thenE (W7 k7_2 Q) Q) .normal e w := fun e w h => then_N (s7_2 (R := R) (Q := Q) hR e w h)
  exact rgA 1 (fun e w => m7_2 R (e 0) (e 4) (e 7) (e 8) w) h hN
theorem s7_0 {R : VP} {Q : EQ} (hR : ∀ e w, (R (e 6) w) → Q .ret e w) (e : Env) (w : World) (h : m7_0 R (e 0) (e 1) (e 2) w) : W7 k7_0 Q e w := by
  unfold m7_0 at h
  refine seA ?_
  have hN : ∀ e w, (m7_1 R (e 0) (e 2) (e 4) w) → (thenE (W7 k7_1 Q) Q) .normal e w := fun e w h => then_N (s7_1 (R := R) (Q := Q) hR e w h)
  exact rgA 0 (fun e w => m7_1 R (e 0) (e 2) (e 4) w) h hN
abbrev m7 (R : VP) (d0 name1 l2 : Value) (w : World) : Prop := m7_0 R d0 name1 l2 w
theorem s7 (d0 name1 l2 : Value) {R : VP} {w : World} (h : m7 R d0 name1 l2 w) :
    Calls Tryz.prog 7 #[d0, name1, l2] w fun e w' => ∃ v, e = .returned v ∧ R v w' :=
  calls_of_cwp (st := (fun i => 0)) (c := k7_0) (by kernel_rfl) Tryz.func7 (by kernel_rfl) (Nat.le_of_ble_eq_true (by kernel_rfl)) (by kernel_rfl)
    (s7_0 (R := R) (Q := endE Tryz.prog Tryz.f7 R) (fun e w h => kcast (by kernel_rfl) h) (argsE #[d0, name1, l2]) w (kcast (by kernel_rfl) h))
def m25_2 (R : VP) (t3 : Value) (w : World) : Prop :=
  R t3 w
def m25_1 (R : VP) (t1 f2 : Value) (w : World) : Prop :=
  valP Tryz.prog (Instr.fieldAt 67 f2 0) w fun t4 w =>
  valP Tryz.prog (Instr.loadAt 9 t4) w fun t5 w =>
  valP Tryz.prog (Instr.loadAt 9 t1) w fun t6 w =>
  valP Tryz.prog (binS BinOp.add 9 (Operand.tmp 6) (Operand.const (Value.string ⟨#[46, 110, 101, 119]⟩)) t6 (Value.string ⟨#[46, 110, 101, 119]⟩)) w fun t7 w =>
  valP Tryz.prog (binS BinOp.eql 9 (Operand.tmp 5) (Operand.tmp 7) t5 t7) w fun t8 w =>
  m25_2 R t8 w
def m25_0 (R : VP) (f0 t1 : Value) (w : World) : Prop :=
  valP Tryz.prog (Instr.box 67 f0) w fun f2 w =>
  m25_1 R t1 f2 w
abbrev W25 := cwp Tryz.prog (fun i => 0)
noncomputable def k25_0 : Code := (bodyOf Tryz.f25)
noncomputable def k25_1 : Code := (c2 k25_0)
noncomputable def k25_2 : Code := (c2 k25_1)
theorem s25_2 {R : VP} {Q : EQ} (hR : ∀ e w, (R (e 3) w) → Q .ret e w) (e : Env) (w : World) (h : m25_2 R (e 3) w) : W25 k25_2 Q e w := by
  unfold m25_2 at h
  exact reA (hR _ _ h)
theorem s25_1 {R : VP} {Q : EQ} (hR : ∀ e w, (R (e 3) w) → Q .ret e w) (e : Env) (w : World) (h : m25_1 R (e 1) (e 2) w) : W25 k25_1 Q e w := by
  unfold m25_1 at h
  refine seA ?_
  have hN : ∀ e w, (m25_2 R (e 3) w) → (thenE (W25 k25_2 Q) Q) .normal e w := fun e w h => then_N (s25_2 (R := R) (Q := Q) hR e w h)
  exact rgA 1 (fun e w => m25_2 R (e 3) w) h hN
theorem s25_0 {R : VP} {Q : EQ} (hR : ∀ e w, (R (e 3) w) → Q .ret e w) (e : Env) (w : World) (h : m25_0 R (e 0) (e 1) w) : W25 k25_0 Q e w := by
  unfold m25_0 at h
  refine seA ?_
  have hN : ∀ e w, (m25_1 R (e 1) (e 2) w) → (thenE (W25 k25_1 Q) Q) .normal e w := fun e w h => then_N (s25_1 (R := R) (Q := Q) hR e w h)
  exact rgA 0 (fun e w => m25_1 R (e 1) (e 2) w) h hN
abbrev m25 (R : VP) (f0 t1 : Value) (w : World) : Prop := m25_0 R f0 t1 w
theorem s25 (f0 t1 : Value) {R : VP} {w : World} (h : m25 R f0 t1 w) :
    Calls Tryz.prog 25 #[f0, t1] w fun e w' => ∃ v, e = .returned v ∧ R v w' :=
  calls_of_cwp (st := (fun i => 0)) (c := k25_0) (by kernel_rfl) Tryz.func25 (by kernel_rfl) (Nat.le_of_ble_eq_true (by kernel_rfl)) (by kernel_rfl)
    (s25_0 (R := R) (Q := endE Tryz.prog Tryz.f25 R) (fun e w h => kcast (by kernel_rfl) h) (argsE #[f0, t1]) w (kcast (by kernel_rfl) h))
def m22_2 (R : VP) (t2 : Value) (w : World) : Prop :=
  R t2 w
def m22_1 (R : VP) (name0 : Value) (w : World) : Prop :=
  valP Tryz.prog (binS BinOp.neq 9 (Operand.tmp 3) (Operand.const (Value.string ⟨#[]⟩)) name0 (Value.string ⟨#[]⟩)) w fun t4 w =>
  condP t4
  (builtinP Tryz.prog Builtin.len #[9] 3 #[false] #[name0] w fun t7 w =>
  valP Tryz.prog (binS BinOp.leq 3 (Operand.tmp 7) (Operand.const (Value.int IntKind.i64 16)) t7 (Value.int IntKind.i64 16)) w fun t8 w =>
  pickP t4 t8 (Value.bool false) fun t9 =>
  condP t9
  (callP Tryz.prog (fnV 63) #[name0, (Value.string ⟨#[97, 98, 99, 100, 101, 102, 103, 104, 105, 106, 107, 108, 109, 110, 111, 112, 113, 114, 115, 116, 117, 118, 119, 120, 121, 122, 48, 49, 50, 51, 52, 53, 54, 55, 56, 57, 45]⟩)] w fun t12 w =>
  valP Tryz.prog (binS BinOp.eql 9 (Operand.tmp 12) (Operand.const (Value.string ⟨#[]⟩)) t12 (Value.string ⟨#[]⟩)) w fun t13 w =>
  pickP t9 t13 (Value.bool false) fun t14 =>
  m22_2 R t14 w)
  (pickP t9 undef (Value.bool false) fun t14 =>
  m22_2 R t14 w))
  (pickP t4 undef (Value.bool false) fun t9 =>
  condP t9
  (callP Tryz.prog (fnV 63) #[name0, (Value.string ⟨#[97, 98, 99, 100, 101, 102, 103, 104, 105, 106, 107, 108, 109, 110, 111, 112, 113, 114, 115, 116, 117, 118, 119, 120, 121, 122, 48, 49, 50, 51, 52, 53, 54, 55, 56, 57, 45]⟩)] w fun t12 w =>
  valP Tryz.prog (binS BinOp.eql 9 (Operand.tmp 12) (Operand.const (Value.string ⟨#[]⟩)) t12 (Value.string ⟨#[]⟩)) w fun t13 w =>
  pickP t9 t13 (Value.bool false) fun t14 =>
  m22_2 R t14 w)
  (pickP t9 undef (Value.bool false) fun t14 =>
  m22_2 R t14 w))
def m22_0 (R : VP) (name0 : Value) (w : World) : Prop :=
  m22_1 R name0 w
abbrev W22 := cwp Tryz.prog (fun i => 0)
noncomputable def k22_0 : Code := (bodyOf Tryz.f22)
noncomputable def k22_1 : Code := (c2 k22_0)
noncomputable def k22_2 : Code := (c2 k22_1)
theorem s22_2 {R : VP} {Q : EQ} (hR : ∀ e w, (R (e 2) w) → Q .ret e w) (e : Env) (w : World) (h : m22_2 R (e 2) w) : W22 k22_2 Q e w := by
  unfold m22_2 at h
  exact reA (hR _ _ h)
theorem s22_1 {R : VP} {Q : EQ} (hR : ∀ e w, (R (e 2) w) → Q .ret e w) (e : Env) (w : World) (h : m22_1 R (e 0) w) : W22 k22_1 Q e w := by
  unfold m22_1 at h
  refine seA ?_
  have hN : ∀ e w, (m22_2 R (e 2) w) → (thenE (W22 k22_2 Q) Q) .normal e w := fun e w h => then_N (s22_2 (R := R) (Q := Q) hR e w h)
  exact rgA 1 (fun e w => m22_2 R (e 2) w) h hN
theorem s22_0 {R : VP} {Q : EQ} (hR : ∀ e w, (R (e 2) w) → Q .ret e w) (e : Env) (w : World) (h : m22_0 R (e 0) w) : W22 k22_0 Q e w := by
  unfold m22_0 at h
  refine seA ?_
  have hN : ∀ e w, (m22_1 R (e 0) w) → (thenE (W22 k22_1 Q) Q) .normal e w := fun e w h => then_N (s22_1 (R := R) (Q := Q) hR e w h)
  exact rgA 0 (fun e w => m22_1 R (e 0) w) h hN
abbrev m22 (R : VP) (name0 : Value) (w : World) : Prop := m22_0 R name0 w
theorem s22 (name0 : Value) {R : VP} {w : World} (h : m22 R name0 w) :
    Calls Tryz.prog 22 #[name0] w fun e w' => ∃ v, e = .returned v ∧ R v w' :=
  calls_of_cwp (st := (fun i => 0)) (c := k22_0) (by kernel_rfl) Tryz.func22 (by kernel_rfl) (Nat.le_of_ble_eq_true (by kernel_rfl)) (by kernel_rfl)
    (s22_0 (R := R) (Q := endE Tryz.prog Tryz.f22 R) (fun e w h => kcast (by kernel_rfl) h) (argsE #[name0]) w (kcast (by kernel_rfl) h))
def m10_9 (R : VP) (t4 t5 : Value) (w : World) : Prop :=
  R (Value.tuple #[t4, t5]) w
def m10_7 (R : VP) (t4 t5 : Value) (w : World) : Prop :=
  R (Value.tuple #[t4, t5]) w
def m10_5 (R : VP) (t4 t5 : Value) (w : World) : Prop :=
  R (Value.tuple #[t4, t5]) w
def m10_4 (R : VP) (s6 : Value) (w : World) : Prop :=
  callP Tryz.prog (fnV 34) #[s6] w fun t25 w =>
  valP Tryz.prog (Instr.extract t25 0) w fun t26 w =>
  valP Tryz.prog (Instr.extract t25 1) w fun t27 w =>
  m10_5 R t26 t27 w
def m10_6 (R : VP) (s6 e7 t22 : Value) (w : World) : Prop :=
  condP t22
  (m10_7 R (Value.slice none 0 0) e7 w)
  (m10_4 R s6 w)
def m10_3 (R : VP) (s6 e7 : Value) (w : World) : Prop :=
  valP Tryz.prog (binS BinOp.neq 26 (Operand.tmp 21) (Operand.const (Value.int IntKind.i64 0)) e7 (Value.int IntKind.i64 0)) w fun t22 w =>
  m10_6 R s6 e7 t22 w
def m10_2 (R : VP) (d0 name1 : Value) (w : World) : Prop :=
  callP Tryz.prog (fnV 33) #[d0, name1] w fun t18 w =>
  valP Tryz.prog (Instr.extract t18 0) w fun t19 w =>
  valP Tryz.prog (Instr.extract t18 1) w fun t20 w =>
  m10_3 R t19 t20 w
def m10_8 (R : VP) (d0 name1 t14 : Value) (w : World) : Prop :=
  condP t14
  (m10_9 R (Value.slice none 0 0) (Value.int IntKind.i64 1) w)
  (m10_2 R d0 name1 w)
def m10_1 (R : VP) (d0 name1 : Value) (w : World) : Prop :=
  valP Tryz.prog (binS BinOp.eql 25 (Operand.tmp 8) (Operand.const (Value.pointer none)) d0 (Value.pointer none)) w fun t9 w =>
  condP t9
  (pickP t9 (Value.bool true) undef fun t14 =>
  m10_8 R d0 name1 t14 w)
  (callP Tryz.prog (fnV 22) #[name1] w fun t12 w =>
  valP Tryz.prog (Op.unary UnOp.not t12) w fun t13 w =>
  pickP t9 (Value.bool true) t13 fun t14 =>
  m10_8 R d0 name1 t14 w)
def m10_0 (R : VP) (d0 name1 : Value) (w : World) : Prop :=
  m10_1 R d0 name1 w
abbrev W10 := cwp Tryz.prog (fun i => 0)
noncomputable def k10_0 : Code := (bodyOf Tryz.f10)
noncomputable def k10_1 : Code := (c2 k10_0)
noncomputable def k10_2 : Code := (c2 k10_1)
noncomputable def k10_3 : Code := (c2 k10_2)
noncomputable def k10_4 : Code := (c2 k10_3)
noncomputable def k10_5 : Code := (c2 k10_4)
noncomputable def k10_6 : Code := (c2 (c1 k10_3))
noncomputable def k10_7 : Code := (c2 (c1 k10_6))
noncomputable def k10_8 : Code := (c2 (c1 k10_1))
noncomputable def k10_9 : Code := (c2 (c1 k10_8))
theorem s10_9 {R : VP} {Q : EQ} (hR : ∀ e w, (R (Value.tuple #[(e 4), (e 5)]) w) → Q .ret e w) (e : Env) (w : World) (h : m10_9 R (e 4) (e 5) w) : W10 k10_9 Q e w := by
  unfold m10_9 at h
  exact reA (hR _ _ h)
theorem s10_7 {R : VP} {Q : EQ} (hR : ∀ e w, (R (Value.tuple #[(e 4), (e 5)]) w) → Q .ret e w) (e : Env) (w : World) (h : m10_7 R (e 4) (e 5) w) : W10 k10_7 Q e w := by
  unfold m10_7 at h
  exact reA (hR _ _ h)
theorem s10_5 {R : VP} {Q : EQ} (hR : ∀ e w, (R (Value.tuple #[(e 4), (e 5)]) w) → Q .ret e w) (e : Env) (w : World) (h : m10_5 R (e 4) (e 5) w) : W10 k10_5 Q e w := by
  unfold m10_5 at h
  exact reA (hR _ _ h)
theorem s10_4 {R : VP} {Q : EQ} (hR : ∀ e w, (R (Value.tuple #[(e 4), (e 5)]) w) → Q .ret e w) (e : Env) (w : World) (h : m10_4 R (e 6) w) : W10 k10_4 Q e w := by
  unfold m10_4 at h
  refine seA ?_
  have hN : ∀ e w, (m10_5 R (e 4) (e 5) w) → (thenE (W10 k10_5 Q) Q) .normal e w := fun e w h => then_N (s10_5 (R := R) (Q := Q) hR e w h)
  exact rgA 6 (fun e w => m10_5 R (e 4) (e 5) w) h hN
theorem s10_6 {R : VP} {Q : EQ} (hN : ∀ e w, (m10_4 R (e 6) w) → Q .normal e w) (hR : ∀ e w, (R (Value.tuple #[(e 4), (e 5)]) w) → Q .ret e w) (e : Env) (w : World) (h : m10_6 R (e 6) (e 7) (e 22) w) : W10 k10_6 Q e w := by
  unfold m10_6 at h
  refine coA (Operand.tmp 22) h (fun h1 => ?_) (fun h1 => ?_)
  · refine seA ?_
    have hN : ∀ e w, (m10_7 R (e 4) (e 5) w) → (thenE (W10 k10_7 Q) Q) .normal e w := fun e w h => then_N (s10_7 (R := R) (Q := Q) hR e w h)
    exact rgA 5 (fun e w => m10_7 R (e 4) (e 5) w) h1 hN
  · exact skA (hN _ _ h1)
theorem s10_3 {R : VP} {Q : EQ} (hR : ∀ e w, (R (Value.tuple #[(e 4), (e 5)]) w) → Q .ret e w) (e : Env) (w : World) (h : m10_3 R (e 6) (e 7) w) : W10 k10_3 Q e w := by
  unfold m10_3 at h
  refine seA ?_
  have hN : ∀ e w, (m10_4 R (e 6) w) → (thenE (W10 k10_4 Q) Q) .normal e w := fun e w h => then_N (s10_4 (R := R) (Q := Q) hR e w h)
  have hR : ∀ e w, (R (Value.tuple #[(e 4), (e 5)]) w) → (thenE (W10 k10_4 Q) Q) .ret e w := fun e w h => then_R (hR e w h)
  refine seA ?_
  have hN : ∀ e w, (m10_6 R (e 6) (e 7) (e 22) w) → (thenE (W10 k10_6 (thenE (W10 k10_4 Q) Q)) (thenE (W10 k10_4 Q) Q)) .normal e w := fun e w h => then_N (s10_6 (R := R) (Q := (thenE (W10 k10_4 Q) Q)) hN hR e w h)
  exact rgA 4 (fun e w => m10_6 R (e 6) (e 7) (e 22) w) h hN
theorem s10_2 {R : VP} {Q : EQ} (hR : ∀ e w, (R (Value.tuple #[(e 4), (e 5)]) w) → Q .ret e w) (e : Env) (w : World) (h : m10_2 R (e 0) (e 1) w) : W10 k10_2 Q e w := by
  unfold m10_2 at h
  refine seA ?_
  have hN : ∀ e w, (m10_3 R (e 6) (e 7) w) → (thenE (W10 k10_3 Q) Q) .normal e w := fun e w h => then_N (s10_3 (R := R) (Q := Q) hR e w h)
  exact rgA 3 (fun e w => m10_3 R (e 6) (e 7) w) h hN
theorem s10_8 {R : VP} {Q : EQ} (hN : ∀ e w, (m10_2 R (e 0) (e 1) w) → Q .normal e w) (hR : ∀ e w, (R (Value.tuple #[(e 4), (e 5)]) w) → Q .ret e w) (e : Env) (w : World) (h : m10_8 R (e 0) (e 1) (e 14) w) : W10 k10_8 Q e w := by
  unfold m10_8 at h
  refine coA (Operand.tmp 14) h (fun h1 => ?_) (fun h1 => ?_)
  · refine seA ?_
    have hN : ∀ e w, (m10_9 R (e 4) (e 5) w) → (thenE (W10 k10_9 Q) Q) .normal e w := fun e w h => then_N (s10_9 (R := R) (Q := Q) hR e w h)
    exact rgA 2 (fun e w => m10_9 R (e 4) (e 5) w) h1 hN
  · exact skA (hN _ _ h1)
theorem s10_1 {R : VP} {Q : EQ} (hR : ∀ e w, (R (Value.tuple #[(e 4), (e 5)]) w) → Q .ret e w) (e : Env) (w : World) (h : m10_1 R (e 0) (e 1) w) : W10 k10_1 Q e w := by
  unfold m10_1 at h
  refine seA ?_
  have hN : ∀ e w, (m10_2 R (e 0) (e 1) w) → (thenE (W10 k10_2 Q) Q) .normal e w := fun e w h => then_N (s10_2 (R := R) (Q := Q) hR e w h)
  have hR : ∀ e w, (R (Value.tuple #[(e 4), (e 5)]) w) → (thenE (W10 k10_2 Q) Q) .ret e w := fun e w h => then_R (hR e w h)
  refine seA ?_
  have hN : ∀ e w, (m10_8 R (e 0) (e 1) (e 14) w) → (thenE (W10 k10_8 (thenE (W10 k10_2 Q) Q)) (thenE (W10 k10_2 Q) Q)) .normal e w := fun e w h => then_N (s10_8 (R := R) (Q := (thenE (W10 k10_2 Q) Q)) hN hR e w h)
  exact rgA 1 (fun e w => m10_8 R (e 0) (e 1) (e 14) w) h hN
theorem s10_0 {R : VP} {Q : EQ} (hR : ∀ e w, (R (Value.tuple #[(e 4), (e 5)]) w) → Q .ret e w) (e : Env) (w : World) (h : m10_0 R (e 0) (e 1) w) : W10 k10_0 Q e w := by
  unfold m10_0 at h
  refine seA ?_
  have hN : ∀ e w, (m10_1 R (e 0) (e 1) w) → (thenE (W10 k10_1 Q) Q) .normal e w := fun e w h => then_N (s10_1 (R := R) (Q := Q) hR e w h)
  exact rgA 0 (fun e w => m10_1 R (e 0) (e 1) w) h hN
abbrev m10 (R : VP) (d0 name1 : Value) (w : World) : Prop := m10_0 R d0 name1 w
theorem s10 (d0 name1 : Value) {R : VP} {w : World} (h : m10 R d0 name1 w) :
    Calls Tryz.prog 10 #[d0, name1] w fun e w' => ∃ v, e = .returned v ∧ R v w' :=
  calls_of_cwp (st := (fun i => 0)) (c := k10_0) (by kernel_rfl) Tryz.func10 (by kernel_rfl) (Nat.le_of_ble_eq_true (by kernel_rfl)) (by kernel_rfl)
    (s10_0 (R := R) (Q := endE Tryz.prog Tryz.f10 R) (fun e w h => kcast (by kernel_rfl) h) (argsE #[d0, name1]) w (kcast (by kernel_rfl) h))
def m23_2 (R : VP) (t4 : Value) (w : World) : Prop :=
  R t4 w
def m23_1 (R : VP) (s0 f1 : Value) (w : World) : Prop :=
  callP Tryz.prog (fnV 64) #[s0, f1] w fun t7 w =>
  valP Tryz.prog (binS BinOp.geq 3 (Operand.tmp 7) (Operand.const (Value.int IntKind.i64 0)) t7 (Value.int IntKind.i64 0)) w fun t8 w =>
  m23_2 R t8 w
def m23_0 (R : VP) (s0 f1 : Value) (w : World) : Prop :=
  m23_1 R s0 f1 w
abbrev W23 := cwp Tryz.prog (fun i => 0)
noncomputable def k23_0 : Code := (bodyOf Tryz.f23)
noncomputable def k23_1 : Code := (c2 k23_0)
noncomputable def k23_2 : Code := (c2 k23_1)
theorem s23_2 {R : VP} {Q : EQ} (hR : ∀ e w, (R (e 4) w) → Q .ret e w) (e : Env) (w : World) (h : m23_2 R (e 4) w) : W23 k23_2 Q e w := by
  unfold m23_2 at h
  exact reA (hR _ _ h)
theorem s23_1 {R : VP} {Q : EQ} (hR : ∀ e w, (R (e 4) w) → Q .ret e w) (e : Env) (w : World) (h : m23_1 R (e 0) (e 1) w) : W23 k23_1 Q e w := by
  unfold m23_1 at h
  refine seA ?_
  have hN : ∀ e w, (m23_2 R (e 4) w) → (thenE (W23 k23_2 Q) Q) .normal e w := fun e w h => then_N (s23_2 (R := R) (Q := Q) hR e w h)
  exact rgA 1 (fun e w => m23_2 R (e 4) w) h hN
theorem s23_0 {R : VP} {Q : EQ} (hR : ∀ e w, (R (e 4) w) → Q .ret e w) (e : Env) (w : World) (h : m23_0 R (e 0) (e 1) w) : W23 k23_0 Q e w := by
  unfold m23_0 at h
  refine seA ?_
  have hN : ∀ e w, (m23_1 R (e 0) (e 1) w) → (thenE (W23 k23_1 Q) Q) .normal e w := fun e w h => then_N (s23_1 (R := R) (Q := Q) hR e w h)
  exact rgA 0 (fun e w => m23_1 R (e 0) (e 1) w) h hN
abbrev m23 (R : VP) (s0 f1 : Value) (w : World) : Prop := m23_0 R s0 f1 w
theorem s23 (s0 f1 : Value) {R : VP} {w : World} (h : m23 R s0 f1 w) :
    Calls Tryz.prog 23 #[s0, f1] w fun e w' => ∃ v, e = .returned v ∧ R v w' :=
  calls_of_cwp (st := (fun i => 0)) (c := k23_0) (by kernel_rfl) Tryz.func23 (by kernel_rfl) (Nat.le_of_ble_eq_true (by kernel_rfl)) (by kernel_rfl)
    (s23_0 (R := R) (Q := endE Tryz.prog Tryz.f23 R) (fun e w h => kcast (by kernel_rfl) h) (argsE #[s0, f1]) w (kcast (by kernel_rfl) h))
def m64_11 (R : VP) (K1 : VP) (t4 : Value) (w : World) : Prop :=
  R t4 w
def m64_8 (R : VP) (K1 : VP) (s0 f1 t7 t8 : Value) (w : World) : Prop :=
  valP Tryz.prog (binS BinOp.add 3 (Operand.tmp 8) (Operand.const (Value.int IntKind.i64 1)) t8 (Value.int IntKind.i64 1)) w fun t18 w =>
  K1 t18 w
def m64_10 (R : VP) (K1 : VP) (s0 f1 i5 t7 t8 t16 : Value) (w : World) : Prop :=
  condP t16
  (m64_11 R K1 i5 w)
  (m64_8 R K1 s0 f1 t7 t8 w)
def m64_9 (R : VP) (K1 : VP) (s0 f1 i5 t7 t8 : Value) (w : World) : Prop :=
  valP Tryz.prog (Instr.indexAt 39 s0 i5) w fun t14 w =>
  valP Tryz.prog (Instr.loadAt 67 t14) w fun t15 w =>
  callP Tryz.prog f1 #[t15] w fun t16 w =>
  m64_10 R K1 s0 f1 i5 t7 t8 t16 w
def m64_7 (R : VP) (K1 : VP) (s0 f1 t7 t8 : Value) (w : World) : Prop :=
  m64_9 R K1 s0 f1 t8 t7 t8 w
def m64_3 (R : VP) (t4 : Value) (w : World) : Prop :=
  R t4 w
def m64_2 (R : VP) (w : World) : Prop :=
  m64_3 R (Value.int IntKind.i64 (-1)) w
def m64_6 (R : VP) (K1 : VP) (s0 f1 t7 t8 t9 : Value) (w : World) : Prop :=
  condP t9
  (m64_7 R K1 s0 f1 t7 t8 w)
  (m64_2 R w)
def m64_5 (R : VP) (K1 : VP) (s0 f1 t7 t8 : Value) (w : World) : Prop :=
  valP Tryz.prog (binS BinOp.lss 3 (Operand.tmp 8) (Operand.tmp 7) t8 t7) w fun t9 w =>
  m64_6 R K1 s0 f1 t7 t8 t9 w
def m64_4 (R : VP) (s0 f1 t7 t8 : Value) (w : World) : Prop :=
  loopP (fun (K1 : VP) (s : Value) w => m64_5 R K1 s0 f1 t7 s w) t8 w
def m64_1 (R : VP) (s0 f1 : Value) (w : World) : Prop :=
  builtinP Tryz.prog Builtin.len #[39] 3 #[false] #[s0] w fun t7 w =>
  m64_4 R s0 f1 t7 (Value.int IntKind.i64 0) w
def m64_0 (R : VP) (s0 f1 : Value) (w : World) : Prop :=
  m64_1 R s0 f1 w
abbrev W64 := cwp Tryz.prog (fun i => 0)
noncomputable def k64_0 : Code := (bodyOf Tryz.f64)
noncomputable def k64_1 : Code := (c2 k64_0)
noncomputable def k64_2 : Code := (c2 k64_1)
noncomputable def k64_3 : Code := (c2 k64_2)
noncomputable def k64_4 : Code := (c2 (c1 k64_1))
noncomputable def k64_5 : Code := (c1 (c1 k64_4))
noncomputable def k64_6 : Code := (c2 k64_5)
noncomputable def k64_7 : Code := (c2 k64_6)
noncomputable def k64_8 : Code := (c2 k64_7)
noncomputable def k64_9 : Code := (c2 (c1 (c1 k64_7)))
noncomputable def k64_10 : Code := (c2 k64_9)
noncomputable def k64_11 : Code := (c2 (c1 k64_10))
theorem s64_11 {R : VP} {K1 : VP} {Q : EQ} (hR : ∀ e w, (R (e 4) w) → Q .ret e w) (e : Env) (w : World) (h : m64_11 R K1 (e 4) w) : W64 k64_11 Q e w := by
  unfold m64_11 at h
  exact reA (hR _ _ h)
theorem s64_8 {R : VP} {K1 : VP} {Q : EQ} (hN : ∀ e w, (K1 (e 8) w) → Q .normal e w) (e : Env) (w : World) (h : m64_8 R K1 (e 0) (e 1) (e 7) (e 8) w) : W64 k64_8 Q e w := by
  unfold m64_8 at h
  exact rgA 6 (fun e w => K1 (e 8) w) h hN
theorem s64_10 {R : VP} {K1 : VP} {Q : EQ} (hN : ∀ e w, (m64_8 R K1 (e 0) (e 1) (e 7) (e 8) w) → Q .normal e w) (hR : ∀ e w, (R (e 4) w) → Q .ret e w) (e : Env) (w : World) (h : m64_10 R K1 (e 0) (e 1) (e 5) (e 7) (e 8) (e 16) w) : W64 k64_10 Q e w := by
  unfold m64_10 at h
  refine coA (Operand.tmp 16) h (fun h1 => ?_) (fun h1 => ?_)
  · refine seA ?_
    have hN : ∀ e w, (m64_11 R K1 (e 4) w) → (thenE (W64 k64_11 Q) Q) .normal e w := fun e w h => then_N (s64_11 (R := R) (Q := Q) (K1 := K1) hR e w h)
    exact rgA 5 (fun e w => m64_11 R K1 (e 4) w) h1 hN
  · exact skA (hN _ _ h1)
theorem s64_9 {R : VP} {K1 : VP} {Q : EQ} (hN : ∀ e w, (m64_8 R K1 (e 0) (e 1) (e 7) (e 8) w) → Q .normal e w) (hR : ∀ e w, (R (e 4) w) → Q .ret e w) (e : Env) (w : World) (h : m64_9 R K1 (e 0) (e 1) (e 5) (e 7) (e 8) w) : W64 k64_9 Q e w := by
  unfold m64_9 at h
  refine seA ?_
  have hN : ∀ e w, (m64_10 R K1 (e 0) (e 1) (e 5) (e 7) (e 8) (e 16) w) → (thenE (W64 k64_10 Q) Q) .normal e w := fun e w h => then_N (s64_10 (R := R) (Q := Q) (K1 := K1) hN hR e w h)
  exact rgA 4 (fun e w => m64_10 R K1 (e 0) (e 1) (e 5) (e 7) (e 8) (e 16) w) h hN
theorem s64_7 {R : VP} {K1 : VP} {Q : EQ} (hN : ∀ e w, (K1 (e 8) w) → Q .normal e w) (hR : ∀ e w, (R (e 4) w) → Q .ret e w) (e : Env) (w : World) (h : m64_7 R K1 (e 0) (e 1) (e 7) (e 8) w) : W64 k64_7 Q e w := by
  unfold m64_7 at h
  refine seA ?_
  have hN : ∀ e w, (m64_8 R K1 (e 0) (e 1) (e 7) (e 8) w) → (thenE (W64 k64_8 Q) Q) .normal e w := fun e w h => then_N (s64_8 (R := R) (Q := Q) (K1 := K1) hN e w h)
  have hR : ∀ e w, (R (e 4) w) → (thenE (W64 k64_8 Q) Q) .ret e w := fun e w h => then_R (hR e w h)
  refine block_ok 1 (by kernel_rfl) ?_
  have hN : ∀ e w, (m64_8 R K1 (e 0) (e 1) (e 7) (e 8) w) → (inBlockE 1 (thenE (W64 k64_8 Q) Q)) .normal e w := fun e w h => block_N (hN e w h)
  have hR : ∀ e w, (R (e 4) w) → (inBlockE 1 (thenE (W64 k64_8 Q) Q)) .ret e w := fun e w h => block_R (hR e w h)
  refine seA ?_
  have hN : ∀ e w, (m64_9 R K1 (e 0) (e 1) (e 5) (e 7) (e 8) w) → (thenE (W64 k64_9 (inBlockE 1 (thenE (W64 k64_8 Q) Q))) (inBlockE 1 (thenE (W64 k64_8 Q) Q))) .normal e w := fun e w h => then_N (s64_9 (R := R) (Q := (inBlockE 1 (thenE (W64 k64_8 Q) Q))) (K1 := K1) hN hR e w h)
  exact rgA 3 (fun e w => m64_9 R K1 (e 0) (e 1) (e 5) (e 7) (e 8) w) h hN
theorem s64_3 {R : VP} {Q : EQ} (hR : ∀ e w, (R (e 4) w) → Q .ret e w) (e : Env) (w : World) (h : m64_3 R (e 4) w) : W64 k64_3 Q e w := by
  unfold m64_3 at h
  exact reA (hR _ _ h)
theorem s64_2 {R : VP} {Q : EQ} (hR : ∀ e w, (R (e 4) w) → Q .ret e w) (e : Env) (w : World) (h : m64_2 R w) : W64 k64_2 Q e w := by
  unfold m64_2 at h
  refine seA ?_
  have hN : ∀ e w, (m64_3 R (e 4) w) → (thenE (W64 k64_3 Q) Q) .normal e w := fun e w h => then_N (s64_3 (R := R) (Q := Q) hR e w h)
  exact rgA 7 (fun e w => m64_3 R (e 4) w) h hN
theorem s64_6 {R : VP} {K1 : VP} {Q : EQ} (hN : ∀ e w, (K1 (e 8) w) → Q .normal e w) (hR : ∀ e w, (R (e 4) w) → Q .ret e w) (hX0 : ∀ e w, (m64_2 R w) → Q (.exit 0) e w) (e : Env) (w : World) (h : m64_6 R K1 (e 0) (e 1) (e 7) (e 8) (e 9) w) : W64 k64_6 Q e w := by
  unfold m64_6 at h
  refine seA ?_
  have hN : ∀ e w, (m64_7 R K1 (e 0) (e 1) (e 7) (e 8) w) → (thenE (W64 k64_7 Q) Q) .normal e w := fun e w h => then_N (s64_7 (R := R) (Q := Q) (K1 := K1) hN hR e w h)
  have hX0 : ∀ e w, (m64_2 R w) → (thenE (W64 k64_7 Q) Q) (.exit 0) e w := fun e w h => then_X (hX0 e w h)
  refine coA (Operand.tmp 9) h (fun h1 => ?_) (fun h1 => ?_)
  · exact skA (hN _ _ h1)
  · exact exA 0 (hX0 _ _ h1)
theorem s64_5 {R : VP} {K1 : VP} {Q : EQ} (hN : ∀ e w, (K1 (e 8) w) → Q .normal e w) (hR : ∀ e w, (R (e 4) w) → Q .ret e w) (hX0 : ∀ e w, (m64_2 R w) → Q (.exit 0) e w) (e : Env) (w : World) (h : m64_5 R K1 (e 0) (e 1) (e 7) (e 8) w) : W64 k64_5 Q e w := by
  unfold m64_5 at h
  refine seA ?_
  have hN : ∀ e w, (m64_6 R K1 (e 0) (e 1) (e 7) (e 8) (e 9) w) → (thenE (W64 k64_6 Q) Q) .normal e w := fun e w h => then_N (s64_6 (R := R) (Q := Q) (K1 := K1) hN hR hX0 e w h)
  exact rgA 2 (fun e w => m64_6 R K1 (e 0) (e 1) (e 7) (e 8) (e 9) w) h hN
theorem s64_4 {R : VP} {Q : EQ} (hN : ∀ e w, (m64_2 R w) → Q .normal e w) (hR : ∀ e w, (R (e 4) w) → Q .ret e w) (e : Env) (w : World) (h : m64_4 R (e 0) (e 1) (e 7) (e 8) w) : W64 k64_4 Q e w := by
  unfold m64_4 at h
  refine block_ok 0 (by kernel_rfl) ?_
  have hX0 : ∀ e w, (m64_2 R w) → (inBlockE 0 Q) (.exit 0) e w := fun e w h => inBlock_same (Q := Q) 0 (hN e w h)
  have hR : ∀ e w, (R (e 4) w) → (inBlockE 0 Q) .ret e w := fun e w h => block_R (hR e w h)
  refine loop_ok' (fun (e : Env) => e 8) [0, 1, 7] (by kernel_rfl) (by kernel_rfl) h (fun K e' w' hk h' => ?_)
  have r0 : e' 0 = e 0 := hk 0 (by decide)
  have r1 : e' 1 = e 1 := hk 1 (by decide)
  have r7 : e' 7 = e 7 := hk 7 (by decide)
  have hR : ∀ e w, (R (e 4) w) → (thenE (fun (e : Env) w => K (e 8) w) (inBlockE 0 Q)) .ret e w := fun e w h => then_R (hR e w h)
  have hX0 : ∀ e w, (m64_2 R w) → (thenE (fun (e : Env) w => K (e 8) w) (inBlockE 0 Q)) (.exit 0) e w := fun e w h => then_X (hX0 e w h)
  exact s64_5 (R := R) (Q := (thenE (fun (e : Env) w => K (e 8) w) (inBlockE 0 Q))) (K1 := K) (fun _ _ h => then_N h) hR hX0 e' w' (by rw [r0, r1, r7]; exact h')
theorem s64_1 {R : VP} {Q : EQ} (hR : ∀ e w, (R (e 4) w) → Q .ret e w) (e : Env) (w : World) (h : m64_1 R (e 0) (e 1) w) : W64 k64_1 Q e w := by
  unfold m64_1 at h
  refine seA ?_
  have hN : ∀ e w, (m64_2 R w) → (thenE (W64 k64_2 Q) Q) .normal e w := fun e w h => then_N (s64_2 (R := R) (Q := Q) hR e w h)
  have hR : ∀ e w, (R (e 4) w) → (thenE (W64 k64_2 Q) Q) .ret e w := fun e w h => then_R (hR e w h)
  refine seA ?_
  have hN : ∀ e w, (m64_4 R (e 0) (e 1) (e 7) (e 8) w) → (thenE (W64 k64_4 (thenE (W64 k64_2 Q) Q)) (thenE (W64 k64_2 Q) Q)) .normal e w := fun e w h => then_N (s64_4 (R := R) (Q := (thenE (W64 k64_2 Q) Q)) hN hR e w h)
  exact rgA 1 (fun e w => m64_4 R (e 0) (e 1) (e 7) (e 8) w) h hN
theorem s64_0 {R : VP} {Q : EQ} (hR : ∀ e w, (R (e 4) w) → Q .ret e w) (e : Env) (w : World) (h : m64_0 R (e 0) (e 1) w) : W64 k64_0 Q e w := by
  unfold m64_0 at h
  refine seA ?_
  have hN : ∀ e w, (m64_1 R (e 0) (e 1) w) → (thenE (W64 k64_1 Q) Q) .normal e w := fun e w h => then_N (s64_1 (R := R) (Q := Q) hR e w h)
  exact rgA 0 (fun e w => m64_1 R (e 0) (e 1) w) h hN
abbrev m64 (R : VP) (s0 f1 : Value) (w : World) : Prop := m64_0 R s0 f1 w
theorem s64 (s0 f1 : Value) {R : VP} {w : World} (h : m64 R s0 f1 w) :
    Calls Tryz.prog 64 #[s0, f1] w fun e w' => ∃ v, e = .returned v ∧ R v w' :=
  calls_of_cwp (st := (fun i => 0)) (c := k64_0) (by kernel_rfl) Tryz.func64 (by kernel_rfl) (Nat.le_of_ble_eq_true (by kernel_rfl)) (by kernel_rfl)
    (s64_0 (R := R) (Q := endE Tryz.prog Tryz.f64 R) (fun e w h => kcast (by kernel_rfl) h) (argsE #[s0, f1]) w (kcast (by kernel_rfl) h))
end Go.Proofs.YtcldjjmfpmkldaaGreatDoor.M
namespace Go.Proofs.YtcldjjmfpmkldaaGreatDoor.M
open Go.Proofs.YtcldjjmfpmkldaaGreatDoor.F Go.RowKit
set_option linter.unusedVariables false
set_option linter.unusedSimpArgs false
set_option maxRecDepth 100000
set_option maxHeartbeats 2000000
attribute [local irreducible] Res.cells Res.row Res.map Res.any World.cell? World.frozen? Instr.fieldAt Instr.loadAt Instr.storeAt Instr.indexAt Instr.lookup Instr.mapUpdate Instr.box Instr.build Instr.buildSlice Instr.extract Instr.alloc Instr.field Instr.index Instr.sliceAt Instr.makeSlice Instr.makeMap Instr.makeFunc binS Op.unary Sem.run
/-- may changes have a file of that name? -/
def NamedB (s : ByteArray) : Prop := 0 < s.size ∧ s.size ≤ 16 ∧ AllLB s
instance (s : ByteArray) : Decidable (AllLB s) := by unfold AllLB; infer_instance
instance (s : ByteArray) : Decidable (NamedB s) := by unfold NamedB; infer_instance
section
variable {w0 w : World} {F : List Nat} {L : List Res} {s : ByteArray}
theorem named22_ret (hS : St w0 F w L) : Ret Tryz.prog 22 #[.string s] w fun v w' => v = .bool (decide (NamedB s)) ∧ St w0 F w' L := by
  refine s22 _ ?_
  unfold m22
  unfold m22_0
  have leaf : ∀ t : Bool, (t = true ↔ NamedB s) → ∀ w, St w0 F w L → m22_2 (fun v w' => v = .bool (decide (NamedB s)) ∧ St w0 F w' L) (.bool t) w := fun t ht w hS => by
    unfold m22_2
    refine ⟨congrArg Value.bool ?_, hS⟩
    cases t with
    | true => exact (decide_eq_true (ht.1 rfl)).symm
    | false => exact (decide_eq_false fun h => by have := ht.2 h; cases this).symm
  unfold m22_1
  refine valP_ok (ne9 _ _ _ _ _) ?_
  refine cond_split (fun h => ?_) (fun h => ?_)
  · refine builtin_ok (len9 _) ?_
    refine valP_ok (leq_ok _ _ _ _ _ _ _) ?_
    first | refine pick_dt (by first | assumption | omega) ?_ | refine pick_df (by first | assumption | omega) ?_ | refine pick_t (by first | rfl | assumption) ?_ | refine pick_f (by first | rfl | assumption) ?_ | refine pick_dt rfl ?_ | refine pick_df (not_not_intro rfl) ?_
    refine cond_split (fun h1 => ?_) (fun h1 => ?_)
    · have h0 : 0 < s.size := by
        rcases Nat.eq_zero_or_pos s.size with g | g
        · exact absurd ((empty_iff s).2 g) h
        · exact g
      refine callR (by kernel_rfl) (trim_retB h0 (by omega) hS) ?_
      rintro _ w ⟨⟨t, rfl, ht⟩, hS⟩
      refine valP_ok (eq9 _ _ _ _ _) ?_
      first | refine pick_dt (by first | assumption | omega) ?_ | refine pick_df (by first | assumption | omega) ?_ | refine pick_t (by first | rfl | assumption) ?_ | refine pick_f (by first | rfl | assumption) ?_ | refine pick_dt rfl ?_ | refine pick_df (not_not_intro rfl) ?_
      refine leaf _ ?_ _ hS
      rw [decide_eq_true_eq, ht]
      unfold NamedB
      exact ⟨fun h => ⟨h0, by omega, h⟩, fun h => h.2.2⟩
    · first | refine pick_dt (by first | assumption | omega) ?_ | refine pick_df (by first | assumption | omega) ?_ | refine pick_t (by first | rfl | assumption) ?_ | refine pick_f (by first | rfl | assumption) ?_ | refine pick_dt rfl ?_ | refine pick_df (not_not_intro rfl) ?_
      exact leaf _ (by unfold NamedB; exact ⟨fun h => (by cases h), fun h => by omega⟩) _ hS
  · first | refine pick_dt (by first | assumption | omega) ?_ | refine pick_df (by first | assumption | omega) ?_ | refine pick_t (by first | rfl | assumption) ?_ | refine pick_f (by first | rfl | assumption) ?_ | refine pick_dt rfl ?_ | refine pick_df (not_not_intro rfl) ?_
    refine cond_f rfl ?_
    first | refine pick_dt (by first | assumption | omega) ?_ | refine pick_df (by first | assumption | omega) ?_ | refine pick_t (by first | rfl | assumption) ?_ | refine pick_f (by first | rfl | assumption) ?_ | refine pick_dt rfl ?_ | refine pick_df (not_not_intro rfl) ?_
    refine leaf _ ⟨fun h => (by cases h), fun h1 => ?_⟩ _ hS
    exact absurd h1.1 (by rw [(empty_iff s).1 (Classical.not_not.1 h)]; omega)
end
end Go.Proofs.YtcldjjmfpmkldaaGreatDoor.M
namespace Go.Proofs.YtcldjjmfpmkldaaGreatDoor.F
set_option linter.unusedVariables false
set_option linter.unusedSimpArgs false
open Go Go.RowKit
/-- a pointer to a block of its own, as a map's element. -/
def PtrE : Elem := fun v => match v with
  | .pointer none => some (.lit (.int .i64 (-1)), [])
  | .pointer (some ⟨b, 0, none⟩) => some (.lit (.int .i64 b), [])
  | _ => none
abbrev ptr (b : Nat) : Value := .pointer (some ⟨b, 0, none⟩)
theorem ptrE_some (b : Nat) : PtrE (ptr b) = some (.lit (.int .i64 b), []) := rfl
theorem ptrE_nil : PtrE (.pointer none) = some (.lit (.int .i64 (-1)), []) := rfl
theorem ptrE_inv {v : Value} {d : DataW Unit} {p : List MemPlace} (h : PtrE v = some (d, p)) : (v = .pointer none ∧ d = .lit (.int .i64 (-1))) ∨ ∃ b : Nat, v = ptr b ∧ d = .lit (.int .i64 b) := by
  unfold PtrE at h
  split at h
  · exact .inl ⟨rfl, ((Prod.mk.inj (Option.some.inj h)).1).symm⟩
  · exact .inr ⟨_, rfl, ((Prod.mk.inj (Option.some.inj h)).1).symm⟩
  · cases h
theorem ptrE_apart : Elem.apart PtrE := fun u v d p q h1 h2 => by
  rcases ptrE_inv h1 with ⟨rfl, e1⟩ | ⟨a, rfl, e1⟩ <;> rcases ptrE_inv h2 with ⟨rfl, e2⟩ | ⟨b, rfl, e2⟩
  · rfl
  · rw [e1] at e2
    simp only [DataW.lit.injEq, Lit.int.injEq, true_and] at e2
    omega
  · rw [e1] at e2
    simp only [DataW.lit.injEq, Lit.int.injEq, true_and] at e2
    omega
  · rw [e1] at e2
    simp only [DataW.lit.injEq, Lit.int.injEq, true_and] at e2
    obtain rfl : a = b := by omega
    rfl
abbrev Assoc := List (ByteArray × Nat)
def lst (s : ByteArray) : List UInt8 := s.data.toList
theorem lst_inj {a b : ByteArray} (h : lst a = lst b) : a = b := ByteArray.ext (Array.toList_inj.mp h)
abbrev ent (p : ByteArray × Nat) : Lit × DataW Unit := (.string (lst p.1), .lit (.int .i64 p.2))
def Assoc.find (A : Assoc) (s : ByteArray) : Option Nat := (A.find? (fun p => decide (p.1 = s))).map Prod.snd
def Assoc.Nd (A : Assoc) : Prop := A.Pairwise (fun p q => p.1 ≠ q.1)
theorem Assoc.find_mem {A : Assoc} (hn : A.Nd) {q : ByteArray × Nat} (hq : q ∈ A) : A.find q.1 = some q.2 := by
  induction A with
  | nil => cases hq
  | cons p A ih =>
    have hp := List.pairwise_cons.1 hn
    unfold Assoc.find
    rcases List.mem_cons.1 hq with rfl | h
    · simp
    · have hne : ¬ p.1 = q.1 := hp.1 q h
      rw [List.find?_cons_of_neg (by simp [hne])]
      exact ih hp.2 h
theorem Assoc.find_none {A : Assoc} {s : ByteArray} (h : A.find s = none) : ∀ p ∈ A, p.1 ≠ s := fun p hp e => by
  unfold Assoc.find at h
  rw [Option.map_eq_none_iff] at h
  have := List.find?_eq_none.1 h p hp
  simp [e] at this
theorem Assoc.find_some {A : Assoc} {s : ByteArray} {b : Nat} (h : A.find s = some b) : (s, b) ∈ A := by
  unfold Assoc.find at h
  obtain ⟨p, h1, h2⟩ := Option.map_eq_some_iff.1 h
  have h3 := List.find?_some h1
  have h4 := List.mem_of_find?_eq_some h1
  obtain ⟨k, v⟩ := p
  simp only [decide_eq_true_eq] at h3 h2
  rw [← h3, ← h2]
  exact h4
theorem Assoc.Nd.perm {A B : Assoc} (h : A.Nd) (hp : A.Perm B) : B.Nd := (hp.pairwise_iff (fun hab e => hab e.symm)).1 h
theorem Assoc.Nd.cons {A : Assoc} (h : A.Nd) (s : ByteArray) (b : Nat) : Assoc.Nd ((s, b) :: A.filter (fun p => decide (p.1 ≠ s))) := by
  refine List.pairwise_cons.2 ⟨fun q hq => ?_, h.filter _⟩
  have := (List.mem_filter.1 hq).2
  exact fun e => of_decide_eq_true this e.symm
/-- The block b holds a map of these texts and blocks. -/
def MapT (P : Program) (k : TypeId) (b : Nat) (A : Assoc) (w : World) : Prop := ∃ es, w.ownsMap P k PtrE b A.length (.map es) ∧ es.Perm (A.map ent) ∧ A.Nd ∧ ∀ p ∈ A, p.1.size ≤ maxLen
section
variable {P : Program} {k e t : TypeId} {b : Nat} {A : Assoc} {w w' : World}
theorem MapT.loc (h : w'.heap[b]? = w.heap[b]?) (hM : MapT P k b A w) : MapT P k b A w' := by
  obtain ⟨es', ⟨es, c, hb, hr⟩, h2⟩ := hM
  exact ⟨es', ⟨es, c, h.trans hb, hr⟩, h2⟩
def Res.mapT (P : Program) (k : TypeId) (b : Nat) (A : Assoc) : Res := ⟨[b], MapT P k b A, fun w w' h hM => hM.loc (h b (.head _))⟩
theorem MapT.made (w : World) : MapT P k w.heap.size [] (w.alloc (.map #[] 0)) := ⟨[], World.ownsMap_made _ _ _ _, .refl _, .nil, by simp⟩
theorem own_size {n m : Nat} {es : List (Lit × DataW Unit)} (h : w.ownsMap P k PtrE b n (.map es)) (hm : es.length = m) : w.ownsMap P k PtrE b m (.map es) := by
  obtain ⟨xs, c, hb, hF, hs, hD⟩ := h
  refine ⟨xs, c, hb, hF, ?_, hD⟩
  have := congrArg (Go.Maps.size) hD
  simp only [Go.Maps.size_eq, length_sorted, List.length_map, Array.length_toList] at this
  omega
theorem MapT.perm {B : Assoc} (h : MapT P k b A w) (hp : A.Perm B) : MapT P k b B w := by
  obtain ⟨es, h1, h2, h3, h4⟩ := h
  exact ⟨es, hp.length_eq ▸ h1, h2.trans (hp.map _), h3.perm hp, fun p hp' => h4 p (hp.mem_iff.2 hp')⟩
theorem atKey_ent {es : List (Lit × DataW Unit)} (hp : es.Perm (A.map ent)) (hn : A.Nd) (s : ByteArray) (z : DataW Unit) : (DataW.map es).atKey (.string (lst s)) z = (match A.find s with | some p => .lit (.int .i64 p) | none => z) := by
  unfold DataW.atKey
  simp only
  cases hf : es.find? (fun p => p.1.sameKey (.string (lst s))) with
  | none =>
    cases hA : A.find s with
    | none => rfl
    | some p =>
      have h1 := Assoc.find_some hA
      have h2 : ent (s, p) ∈ es := hp.mem_iff.2 (List.mem_map.2 ⟨_, h1, rfl⟩)
      have h3 := List.find?_eq_none.1 hf _ h2
      simp [Lit.sameKey] at h3
  | some x =>
    have h1 := List.mem_of_find?_eq_some hf
    have h2 := List.find?_some hf
    obtain ⟨q, hq, rfl⟩ := List.mem_map.1 (hp.mem_iff.1 h1)
    simp only [ent, Lit.sameKey, beq_iff_eq] at h2
    have h3 := lst_inj h2
    subst h3
    rw [Assoc.find_mem hn hq]
theorem keyS (hk : P.underlying k = some .string) {s : ByteArray} (hs : s.size ≤ maxLen) : keyOf P k (.string s) = some (.string (lst s)) := WideMaps.keyOf_string_mk hk hs
/-- what is found, as a pointer. -/
def found (o : Option Nat) : Value := .pointer (o.map fun b => ⟨b, 0, none⟩)
theorem MapT.lookup (h : MapT P k b A w) (hk : P.underlying k = some .string) (ht : P.underlying t = some (.map k e)) (hz : (zeroValue e).run P w = .ok (.pointer none) w) {s : ByteArray} (hs : s.size ≤ maxLen) :
    (Instr.lookup t (.map (some b)) (.string s) false).run P w = .ok (found (A.find s)) w := by
  obtain ⟨es, h1, h2, h3, _⟩ := h
  obtain ⟨v, ps, hr, hv⟩ := h1.lookup (Go.Maps.string_keyed hk) ht hz (zd := .lit (.int .i64 (-1))) (zp := []) rfl (keyS hk hs)
  rw [hr]
  rw [atKey_ent h2 h3] at hv
  congr 1
  cases hA : A.find s with
  | none =>
    rw [hA] at hv
    exact ptrE_apart _ _ _ _ _ hv ptrE_nil
  | some p =>
    rw [hA] at hv
    exact ptrE_apart _ _ _ _ _ hv (ptrE_some p)
theorem insert_perm (x : Lit × DataW Unit) : ∀ l : List (Lit × DataW Unit), (DataW.insert x l).Perm (x :: l)
  | [] => .refl _
  | y :: l => by
    unfold DataW.insert
    split
    · exact .refl _
    · exact ((insert_perm x l).cons y).trans (.swap _ _ _)
theorem filter_ent (s : ByteArray) : ∀ A : Assoc, (A.map ent).filter (fun p => !p.1.sameKey (.string (lst s))) = (A.filter (fun p => decide (p.1 ≠ s))).map ent
  | [] => rfl
  | p :: A => by
    have ih := filter_ent s A
    by_cases h : p.1 = s
    · rw [List.map_cons, List.filter_cons_of_neg (by simp [Lit.sameKey, h]), List.filter_cons_of_neg (by simp [h]), ih]
    · have h' : ¬ lst p.1 = lst s := fun e => h (lst_inj e)
      rw [List.map_cons, List.filter_cons_of_pos (by simp [Lit.sameKey, h']), List.filter_cons_of_pos (by simp [h]), ih, List.map_cons]
theorem MapT.update {B : Assoc} {v : Nat} (h : MapT P k b A w) (hk : P.underlying k = some .string) (ht : P.underlying t = some (.map k e)) (hl : A.length < maxLen) {s : ByteArray} (hs : s.size ≤ maxLen) (hB : B.Perm ((s, v) :: A.filter (fun p => decide (p.1 ≠ s)))) :
    ∃ w', (Instr.mapUpdate t (.map (some b)) (.string s) (ptr v)).run P w = .ok () w' ∧ MapT P k b B w' ∧ w.grownBy w' (some b) := by
  obtain ⟨es, h1, h2, h3, h4⟩ := h
  obtain ⟨w', hr, h5, h6⟩ := h1.update (Go.Maps.string_keyed hk) ht hl (keyS hk hs) (d := .lit (.int .i64 v)) (ps := []) (ptrE_some v)
  have h7 : ((DataW.map es).put (.string (lst s)) (.lit (.int .i64 v))) = .map (DataW.insert (ent (s, v)) (es.filter (fun p => !p.1.sameKey (.string (lst s))))) := rfl
  rw [h7] at h5
  have h8 : (DataW.insert (ent (s, v)) (es.filter (fun p => !p.1.sameKey (.string (lst s))))).Perm (((s, v) :: A.filter (fun p => decide (p.1 ≠ s))).map ent) := by
    refine (insert_perm _ _).trans ?_
    rw [List.map_cons]
    refine List.Perm.cons _ ?_
    rw [← filter_ent]
    exact h2.filter _
  refine ⟨w', hr, (MapT.perm (A := (s, v) :: A.filter (fun p => decide (p.1 ≠ s))) ⟨_, own_size h5 (by rw [h8.length_eq, List.length_map]), h8, h3.cons s v, fun p hp => ?_⟩ hB.symm), h6⟩
  rcases List.mem_cons.1 hp with rfl | hp
  · exact hs
  · exact h4 p (List.mem_filter.1 hp).1
theorem MapT.delete {B : Assoc} {ty : TypeId} (h : MapT P k b A w) (hk : P.underlying k = some .string) (ht : P.underlying t = some (.map k e)) {s : ByteArray} (hs : s.size ≤ maxLen) (hB : B.Perm (A.filter (fun p => decide (p.1 ≠ s)))) :
    ∃ w', (Builtin.delete_ #[t, k] ty #[.map (some b), .string s]).run P w = .ok (.tuple #[]) w' ∧ MapT P k b B w' ∧ w.grownBy w' (some b) := by
  obtain ⟨es, h1, h2, h3, h4⟩ := h
  obtain ⟨w', hr, h5, h6⟩ := h1.drop (Go.Maps.string_keyed hk) ht (keyS hk hs) ty
  have h7 : ((DataW.map es).del (.string (lst s))) = .map (es.filter (fun p => !p.1.sameKey (.string (lst s)))) := rfl
  rw [h7] at h5
  have h8 : (es.filter (fun p => !p.1.sameKey (.string (lst s)))).Perm ((A.filter (fun p => decide (p.1 ≠ s))).map ent) := by
    rw [← filter_ent]
    exact h2.filter _
  exact ⟨w', hr, MapT.perm (A := A.filter (fun p => decide (p.1 ≠ s))) ⟨_, own_size h5 (by rw [h8.length_eq, List.length_map]), h8, h3.filter _, fun p hp => h4 p (List.mem_filter.1 hp).1⟩ hB.symm, h6.grown⟩
theorem MapT.len {ty : TypeId} (h : MapT P k b A w) (ht : P.underlying t = some (.map k e)) : (Builtin.len_ #[t] ty #[.map (some b)]).run P w = .ok (.int .i64 (A.length : Int)) w := by
  obtain ⟨es, h1, h2, h3, _⟩ := h
  have := h1.len ht ty
  rw [Go.Maps.size_eq, h2.length_eq, List.length_map] at this
  exact this
/-- Texts in order. -/
def Up (A : Assoc) : Prop := A.Pairwise (fun p q => lst p.1 < lst q.1)
theorem Up.nd (h : Up A) : A.Nd := h.imp fun hab e => by rw [e] at hab; exact absurd hab (List.lt_irrefl _)
theorem sorted_keys (h : Up A) {ss : List (List UInt8)} (hp : ss.Perm (A.map fun p => lst p.1)) : ss.mergeSort (fun x y => decide (x ≤ y)) = A.map fun p => lst p.1 := by
  have h1 : (ss.mergeSort (fun x y => decide (x ≤ y))).Pairwise (fun x y => decide (x ≤ y) = true) := List.pairwise_mergeSort (fun a b c h1 h2 => by simp only [decide_eq_true_eq] at *; exact List.le_trans h1 h2) (fun a b => by simpa using List.le_total a b) ss
  have h2 : (A.map fun p => lst p.1).Pairwise (fun x y => decide (x ≤ y) = true) := by
    rw [List.pairwise_map]
    exact h.imp fun hab => by simpa using List.le_of_lt hab
  refine List.Perm.eq_of_pairwise (le := fun x y => decide (x ≤ y) = true) (fun a b _ _ h1 h2 => ?_) h1 h2 ((List.mergeSort_perm ss _).trans hp)
  simp only [decide_eq_true_eq] at h1 h2
  exact List.le_antisymm h1 h2
end
section
variable {P : Program} {k e t : TypeId} {b : Nat} {A B : Assoc} {w w0 : World} {F : List Nat} {L : List Res} {K : Value → World → Prop}
theorem St.mapT (j : Nat) (hS : St w0 F w L) (hj : L[j]? = some (Res.mapT P k b A)) : MapT P k b A w := hS.get j hj
theorem makeMapT_ok (k : TypeId) (hS : St w0 F w L) (h : ∀ b w', St w0 F w' (Res.mapT P k b [] :: L) → K (.map (some b)) w') : valP P (Instr.makeMap t none) w K := by
  refine valP_ok (run_makeMap t w) (h _ _ (hS.add (Chg.alloc _ _ _) (MapT.made w) (fun g hg => ?_) (fun g hg => ?_)))
  all_goals
    obtain rfl : g = w.heap.size := List.mem_singleton.1 hg
    simp
theorem putT_at (j : Nat) {v : Nat} {s : ByteArray} (B : Assoc) (hS : St w0 F w L) (hj : L[j]? = some (Res.mapT P k b A)) (hk : P.underlying k = some .string) (ht : P.underlying t = some (.map k e)) (hl : A.length < maxLen) (hs : s.size ≤ maxLen) (hB : B.Perm ((s, v) :: A.filter (fun p => decide (p.1 ≠ s))))
    (h : ∀ w', St w0 F w' (L.set j (Res.mapT P k b B)) → K undef w') : unitP P (Instr.mapUpdate t (.map (some b)) (.string s) (ptr v)) w K := by
  obtain ⟨w', hr, hm', hg⟩ := (hS.mapT j hj).update hk ht hl hs hB
  have hlt : b < w.heap.size := hS.lt _ (List.mem_of_getElem? hj) b (.head _)
  exact unitP_ok hr (h _ (hS.updk j hj ((Chg.of_grown hg).mono (by simp [Res.mapT])) hm' (fun g hg => .inl hg) (fun g' hg' => by
    obtain rfl : g' = b := List.mem_singleton.1 hg'
    exact Nat.lt_of_lt_of_le hlt hg.size)))
theorem delT_at (j : Nat) {ty : TypeId} {cs : Array Bool} {s : ByteArray} (B : Assoc) (hS : St w0 F w L) (hj : L[j]? = some (Res.mapT P k b A)) (hk : P.underlying k = some .string) (ht : P.underlying t = some (.map k e)) (hs : s.size ≤ maxLen) (hB : B.Perm (A.filter (fun p => decide (p.1 ≠ s))))
    (h : ∀ w', St w0 F w' (L.set j (Res.mapT P k b B)) → K (.tuple #[]) w') : builtinP P .delete #[t, k] ty cs #[.map (some b), .string s] w K := by
  obtain ⟨w', hr, hm', hg⟩ := (hS.mapT j hj).delete (ty := ty) hk ht hs hB
  have hlt : b < w.heap.size := hS.lt _ (List.mem_of_getElem? hj) b (.head _)
  exact builtin_ok (by simp [builtin, hr]) (h _ (hS.updk j hj ((Chg.of_grown hg).mono (by simp [Res.mapT])) hm' (fun g hg => .inl hg) (fun g' hg' => by
    obtain rfl : g' = b := List.mem_singleton.1 hg'
    exact Nat.lt_of_lt_of_le hlt hg.size)))
theorem lenT_ok (j : Nat) {ty : TypeId} {cs : Array Bool} (hS : St w0 F w L) (hj : L[j]? = some (Res.mapT P k b A)) (ht : P.underlying t = some (.map k e)) (h : K (.int .i64 (A.length : Int)) w) : builtinP P .len #[t] ty cs #[.map (some b)] w K :=
  builtin_ok (by simp [builtin, (hS.mapT j hj).len ht]) h
end
end Go.Proofs.YtcldjjmfpmkldaaGreatDoor.F
