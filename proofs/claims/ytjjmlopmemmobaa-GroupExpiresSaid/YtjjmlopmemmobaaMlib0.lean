/- What functions' texts ask of their ends, told over values that have names; printed by a program of this work. -/
import Derived.Test.YtjjmlopmemmobaaFw
import Derived.Test.YtjjmlopmemmobaaProg
namespace Go.Proofs.Ytjjmlopmemmobaa.M
open Go.Proofs.Ytjjmlopmemmobaa.F
set_option linter.unusedVariables false
set_option maxRecDepth 100000
/-! ### headgate/assign.share -/
def m99_11 (R : VP) (t4 t5 : Value) (w : World) : Prop :=
  R (Value.tuple #[t4, t5]) w
def m99_7 (R : VP) (t4 t5 : Value) (w : World) : Prop :=
  R (Value.tuple #[t4, t5]) w
def m99_6 (R : VP) (s7 : Value) (w : World) : Prop :=
  m99_7 R s7 (Value.bool true) w
def m99_9 (R : VP) (parts0 s7 n8 t28 : Value) (w : World) : Prop :=
  condP t28
  (anyDraw w fun w =>
  pureP Try.prog (binS BinOp.quo 3 (Operand.tmp 31) (Operand.tmp 32) parts0 n8) fun t33 =>
  pureP Try.prog (binS BinOp.rem 3 (Operand.tmp 34) (Operand.tmp 35) parts0 n8) fun t36 =>
  nilCheckP s7 fun t37 =>
  pureP Try.prog (Instr.fieldAt 131 t37 2) fun t38 =>
  unitP Try.prog (Instr.storeAt 3 t38 t33) w fun _ w =>
  nilCheckP s7 fun t39 =>
  pureP Try.prog (Instr.fieldAt 131 t39 3) fun t40 =>
  unitP Try.prog (Instr.storeAt 3 t40 t36) w fun _ w =>
  m99_6 R s7 w)
  (m99_6 R s7 w)
def m99_8 (R : VP) (parts0 s7 n8 : Value) (w : World) : Prop :=
  valP Try.prog (binS BinOp.gtr 3 (Operand.tmp 27) (Operand.const (Value.int IntKind.i64 0)) n8 (Value.int IntKind.i64 0)) w fun t28 w =>
  m99_9 R parts0 s7 n8 t28 w
def m99_5 (R : VP) (parts0 l6 s7 : Value) (w : World) : Prop :=
  builtinP Try.prog Builtin.len #[28] 3 #[false] #[l6] w fun t26 w =>
  m99_8 R parts0 s7 t26 w
def m99_4 (R : VP) (parts0 l6 : Value) (w : World) : Prop :=
  valP Try.prog (Instr.makeMap 129 none) w fun t22 w =>
  valP Try.prog (Instr.build 131 #[(0, l6), (1, t22)]) w fun t23 w =>
  valP Try.prog (Instr.box 131 t23) w fun t24 w =>
  m99_5 R parts0 l6 t24 w
def m99_10 (R : VP) (parts0 l6 t20 : Value) (w : World) : Prop :=
  condP t20
  (m99_11 R (Value.pointer none) (Value.bool false) w)
  (m99_4 R parts0 l6 w)
def m99_3 (R : VP) (parts0 l6 : Value) (w : World) : Prop :=
  valP Try.prog (binS BinOp.lss 3 (Operand.tmp 15) (Operand.const (Value.int IntKind.i64 1)) parts0 (Value.int IntKind.i64 1)) w fun t16 w =>
  condP t16
  (pickP t16 (Value.bool true) undef fun t20 =>
  m99_10 R parts0 l6 t20 w)
  (valP Try.prog (binS BinOp.gtr 3 (Operand.tmp 18) (Operand.const (Value.int IntKind.i64 64)) parts0 (Value.int IntKind.i64 64)) w fun t19 w =>
  pickP t16 (Value.bool true) t19 fun t20 =>
  m99_10 R parts0 l6 t20 w)
def m99_2 (R : VP) (parts0 l6 : Value) (w : World) : Prop :=
  callP Try.prog (fnV 118) #[l6] w fun t14 w =>
  m99_3 R parts0 t14 w
def m99_1 (R : VP) (parts0 members1 : Value) (w : World) : Prop :=
  callP Try.prog (fnV 59) #[members1] w fun t10 w =>
  callP Try.prog (fnV 58) #[t10] w fun t11 w =>
  callP Try.prog (fnV 65) #[t11, (fnV 117)] w fun t12 w =>
  m99_2 R parts0 t12 w
def m99_0 (R : VP) (parts0 members1 : Value) (w : World) : Prop :=
  m99_1 R parts0 members1 w
abbrev W99 := cwp Try.prog (fun i => 0)
noncomputable def k99_0 : Code := (bodyOf Try.f99)
noncomputable def k99_1 : Code := (c2 k99_0)
noncomputable def k99_2 : Code := (c2 k99_1)
noncomputable def k99_3 : Code := (c2 k99_2)
noncomputable def k99_4 : Code := (c2 k99_3)
noncomputable def k99_5 : Code := (c2 k99_4)
noncomputable def k99_6 : Code := (c2 k99_5)
noncomputable def k99_7 : Code := (c2 k99_6)
noncomputable def k99_8 : Code := (c2 (c1 k99_5))
noncomputable def k99_9 : Code := (c2 k99_8)
noncomputable def k99_10 : Code := (c2 (c1 k99_3))
noncomputable def k99_11 : Code := (c2 (c1 k99_10))
theorem s99_11 {R : VP} {Q : EQ} (hR : ∀ e w, (R (Value.tuple #[(e 4), (e 5)]) w) → Q .ret e w) (e : Env) (w : World) (h : m99_11 R (e 4) (e 5) w) : W99 k99_11 Q e w := by
  unfold m99_11 at h
  exact reA (hR _ _ h)
theorem s99_7 {R : VP} {Q : EQ} (hR : ∀ e w, (R (Value.tuple #[(e 4), (e 5)]) w) → Q .ret e w) (e : Env) (w : World) (h : m99_7 R (e 4) (e 5) w) : W99 k99_7 Q e w := by
  unfold m99_7 at h
  exact reA (hR _ _ h)
theorem s99_6 {R : VP} {Q : EQ} (hR : ∀ e w, (R (Value.tuple #[(e 4), (e 5)]) w) → Q .ret e w) (e : Env) (w : World) (h : m99_6 R (e 7) w) : W99 k99_6 Q e w := by
  unfold m99_6 at h
  refine seA ?_
  have hN : ∀ e w, (m99_7 R (e 4) (e 5) w) → (thenE (W99 k99_7 Q) Q) .normal e w := fun e w h => then_N (s99_7 (R := R) (Q := Q) hR e w h)
  exact rgA 9 (fun e w => m99_7 R (e 4) (e 5) w) h hN
theorem s99_9 {R : VP} {Q : EQ} (hN : ∀ e w, (m99_6 R (e 7) w) → Q .normal e w) (e : Env) (w : World) (h : m99_9 R (e 0) (e 7) (e 8) (e 28) w) : W99 k99_9 Q e w := by
  unfold m99_9 at h
  refine coA (Operand.tmp 28) h (fun h1 => ?_) (fun h1 => ?_)
  · exact tree_ok 8 14 [false, false, false, false, false, false, false, false, false, false, false, false, false, false] (.take 0 [true, false, false, false, false, false, false, false, false, false, false, false, false, false] (.take 1 [true, true, false, false, false, false, false, false, false, false, false, false, false, false] (.take 2 [true, true, true, false, false, false, false, false, false, false, false, false, false, false] (.take 3 [true, true, true, true, false, false, false, false, false, false, false, false, false, false] (.take 4 [true, true, true, true, true, false, false, false, false, false, false, false, false, false] (.take 5 [true, true, true, true, true, true, false, false, false, false, false, false, false, false] (.take 6 [true, true, true, true, true, true, true, false, false, false, false, false, false, false] (.take 7 [true, true, true, true, true, true, true, true, false, false, false, false, false, false] (.take 8 [true, true, true, true, true, true, true, true, true, false, false, false, false, false] (.take 9 [true, true, true, true, true, true, true, true, true, true, false, false, false, false] (.alt 10 [true, true, true, true, true, true, true, true, true, true, true, false, false, false] (.take 11 [true, true, true, true, true, true, true, true, true, true, true, true, false, false] (.take 12 [true, true, true, true, true, true, true, true, true, true, true, true, true, false] (.alt 13 [true, true, true, true, true, true, true, true, true, true, true, true, true, true] .done .stop))) .stop))))))))))) (fun e w => m99_6 R (e 7) w) (by kernel_rfl) (by kernel_rfl) (by kernel_rfl) (by kernel_rfl) (by kernel_rfl) (by kernel_rfl) (kcast (by kernel_rfl) h1) hN (by kernel_rfl)
  · exact skA (hN _ _ h1)
theorem s99_8 {R : VP} {Q : EQ} (hN : ∀ e w, (m99_6 R (e 7) w) → Q .normal e w) (e : Env) (w : World) (h : m99_8 R (e 0) (e 7) (e 8) w) : W99 k99_8 Q e w := by
  unfold m99_8 at h
  refine seA ?_
  have hN : ∀ e w, (m99_9 R (e 0) (e 7) (e 8) (e 28) w) → (thenE (W99 k99_9 Q) Q) .normal e w := fun e w h => then_N (s99_9 (R := R) (Q := Q) hN e w h)
  exact rgA 7 (fun e w => m99_9 R (e 0) (e 7) (e 8) (e 28) w) h hN
theorem s99_5 {R : VP} {Q : EQ} (hR : ∀ e w, (R (Value.tuple #[(e 4), (e 5)]) w) → Q .ret e w) (e : Env) (w : World) (h : m99_5 R (e 0) (e 6) (e 7) w) : W99 k99_5 Q e w := by
  unfold m99_5 at h
  refine seA ?_
  have hN : ∀ e w, (m99_6 R (e 7) w) → (thenE (W99 k99_6 Q) Q) .normal e w := fun e w h => then_N (s99_6 (R := R) (Q := Q) hR e w h)
  refine seA ?_
  have hN : ∀ e w, (m99_8 R (e 0) (e 7) (e 8) w) → (thenE (W99 k99_8 (thenE (W99 k99_6 Q) Q)) (thenE (W99 k99_6 Q) Q)) .normal e w := fun e w h => then_N (s99_8 (R := R) (Q := (thenE (W99 k99_6 Q) Q)) hN e w h)
  exact rgA 6 (fun e w => m99_8 R (e 0) (e 7) (e 8) w) h hN
theorem s99_4 {R : VP} {Q : EQ} (hR : ∀ e w, (R (Value.tuple #[(e 4), (e 5)]) w) → Q .ret e w) (e : Env) (w : World) (h : m99_4 R (e 0) (e 6) w) : W99 k99_4 Q e w := by
  unfold m99_4 at h
  refine seA ?_
  have hN : ∀ e w, (m99_5 R (e 0) (e 6) (e 7) w) → (thenE (W99 k99_5 Q) Q) .normal e w := fun e w h => then_N (s99_5 (R := R) (Q := Q) hR e w h)
  exact rgA 5 (fun e w => m99_5 R (e 0) (e 6) (e 7) w) h hN
theorem s99_10 {R : VP} {Q : EQ} (hN : ∀ e w, (m99_4 R (e 0) (e 6) w) → Q .normal e w) (hR : ∀ e w, (R (Value.tuple #[(e 4), (e 5)]) w) → Q .ret e w) (e : Env) (w : World) (h : m99_10 R (e 0) (e 6) (e 20) w) : W99 k99_10 Q e w := by
  unfold m99_10 at h
  refine coA (Operand.tmp 20) h (fun h1 => ?_) (fun h1 => ?_)
  · refine seA ?_
    have hN : ∀ e w, (m99_11 R (e 4) (e 5) w) → (thenE (W99 k99_11 Q) Q) .normal e w := fun e w h => then_N (s99_11 (R := R) (Q := Q) hR e w h)
    exact rgA 4 (fun e w => m99_11 R (e 4) (e 5) w) h1 hN
  · exact skA (hN _ _ h1)
theorem s99_3 {R : VP} {Q : EQ} (hR : ∀ e w, (R (Value.tuple #[(e 4), (e 5)]) w) → Q .ret e w) (e : Env) (w : World) (h : m99_3 R (e 0) (e 6) w) : W99 k99_3 Q e w := by
  unfold m99_3 at h
  refine seA ?_
  have hN : ∀ e w, (m99_4 R (e 0) (e 6) w) → (thenE (W99 k99_4 Q) Q) .normal e w := fun e w h => then_N (s99_4 (R := R) (Q := Q) hR e w h)
  have hR : ∀ e w, (R (Value.tuple #[(e 4), (e 5)]) w) → (thenE (W99 k99_4 Q) Q) .ret e w := fun e w h => then_R (hR e w h)
  refine seA ?_
  have hN : ∀ e w, (m99_10 R (e 0) (e 6) (e 20) w) → (thenE (W99 k99_10 (thenE (W99 k99_4 Q) Q)) (thenE (W99 k99_4 Q) Q)) .normal e w := fun e w h => then_N (s99_10 (R := R) (Q := (thenE (W99 k99_4 Q) Q)) hN hR e w h)
  exact rgA 3 (fun e w => m99_10 R (e 0) (e 6) (e 20) w) h hN
theorem s99_2 {R : VP} {Q : EQ} (hR : ∀ e w, (R (Value.tuple #[(e 4), (e 5)]) w) → Q .ret e w) (e : Env) (w : World) (h : m99_2 R (e 0) (e 6) w) : W99 k99_2 Q e w := by
  unfold m99_2 at h
  refine seA ?_
  have hN : ∀ e w, (m99_3 R (e 0) (e 6) w) → (thenE (W99 k99_3 Q) Q) .normal e w := fun e w h => then_N (s99_3 (R := R) (Q := Q) hR e w h)
  exact rgA 2 (fun e w => m99_3 R (e 0) (e 6) w) h hN
theorem s99_1 {R : VP} {Q : EQ} (hR : ∀ e w, (R (Value.tuple #[(e 4), (e 5)]) w) → Q .ret e w) (e : Env) (w : World) (h : m99_1 R (e 0) (e 1) w) : W99 k99_1 Q e w := by
  unfold m99_1 at h
  refine seA ?_
  have hN : ∀ e w, (m99_2 R (e 0) (e 6) w) → (thenE (W99 k99_2 Q) Q) .normal e w := fun e w h => then_N (s99_2 (R := R) (Q := Q) hR e w h)
  exact rgA 1 (fun e w => m99_2 R (e 0) (e 6) w) h hN
theorem s99_0 {R : VP} {Q : EQ} (hR : ∀ e w, (R (Value.tuple #[(e 4), (e 5)]) w) → Q .ret e w) (e : Env) (w : World) (h : m99_0 R (e 0) (e 1) w) : W99 k99_0 Q e w := by
  unfold m99_0 at h
  refine seA ?_
  have hN : ∀ e w, (m99_1 R (e 0) (e 1) w) → (thenE (W99 k99_1 Q) Q) .normal e w := fun e w h => then_N (s99_1 (R := R) (Q := Q) hR e w h)
  exact rgA 0 (fun e w => m99_1 R (e 0) (e 1) w) h hN
abbrev m99 (R : VP) (parts0 members1 : Value) (w : World) : Prop := m99_0 R parts0 members1 w
theorem s99 (parts0 members1 : Value) {R : VP} {w : World} (h : m99 R parts0 members1 w) :
    Calls Try.prog 99 #[parts0, members1] w fun e w' => ∃ v, e = .returned v ∧ R v w' :=
  calls_of_cwp (st := (fun i => 0)) (c := k99_0) (by kernel_rfl) Try.func99 (by kernel_rfl) (Nat.le_of_ble_eq_true (by kernel_rfl)) (by kernel_rfl)
    (s99_0 (R := R) (Q := endE Try.prog Try.f99 R) (fun e w h => kcast (by kernel_rfl) h) (argsE #[parts0, members1]) w (kcast (by kernel_rfl) h))
/-! ### slices.DeleteFunc[[]int,int] -/
def m65_16 (R : VP) (t4 : Value) (w : World) : Prop :=
  R t4 w
def m65_10 (R : VP) (K1 : (Value × Value) → World → Prop) (s0 del1 i5 j6 : Value) (w : World) : Prop :=
  valP Try.prog (binS BinOp.add 3 (Operand.tmp 20) (Operand.const (Value.int IntKind.i64 1)) j6 (Value.int IntKind.i64 1)) w fun t21 w =>
  K1 (i5, t21) w
def m65_13 (R : VP) (K1 : (Value × Value) → World → Prop) (s0 del1 i5 j6 : Value) (w : World) : Prop :=
  valP Try.prog (binS BinOp.add 3 (Operand.tmp 34) (Operand.const (Value.int IntKind.i64 1)) i5 (Value.int IntKind.i64 1)) w fun t35 w =>
  m65_10 R K1 s0 del1 t35 j6 w
def m65_12 (R : VP) (K1 : (Value × Value) → World → Prop) (s0 del1 i5 j6 v7 t29 : Value) (w : World) : Prop :=
  condP t29
  (valP Try.prog (Instr.indexAt 28 s0 i5) w fun t33 w =>
  unitP Try.prog (Instr.storeAt 3 t33 v7) w fun _ w =>
  m65_13 R K1 s0 del1 i5 j6 w)
  (m65_10 R K1 s0 del1 i5 j6 w)
def m65_11 (R : VP) (K1 : (Value × Value) → World → Prop) (s0 del1 i5 j6 v7 : Value) (w : World) : Prop :=
  callP Try.prog del1 #[v7] w fun t28 w =>
  valP Try.prog (Op.unary UnOp.not t28) w fun t29 w =>
  m65_12 R K1 s0 del1 i5 j6 v7 t29 w
def m65_9 (R : VP) (K1 : (Value × Value) → World → Prop) (s0 del1 i5 j6 : Value) (w : World) : Prop :=
  valP Try.prog (Instr.indexAt 28 s0 j6) w fun t24 w =>
  valP Try.prog (Instr.loadAt 3 t24) w fun t25 w =>
  m65_11 R K1 s0 del1 i5 j6 t25 w
def m65_6 (R : VP) (t4 : Value) (w : World) : Prop :=
  R t4 w
def m65_5 (R : VP) (s0 i5 : Value) (w : World) : Prop :=
  valP Try.prog (Instr.sliceAt 28 s0 none (some i5) none) w fun t41 w =>
  m65_6 R t41 w
def m65_4 (R : VP) (s0 i5 : Value) (w : World) : Prop :=
  valP Try.prog (Instr.sliceAt 28 s0 (some i5) none none) w fun t38 w =>
  builtinP Try.prog Builtin.clear #[28] 0 #[false] #[t38] w fun _ w =>
  m65_5 R s0 i5 w
def m65_14 (R : VP) (K1 : (Value × Value) → World → Prop) (s0 del1 i5 j6 t19 : Value) (w : World) : Prop :=
  condP t19
  (m65_9 R K1 s0 del1 i5 j6 w)
  (m65_4 R s0 i5 w)
def m65_8 (R : VP) (K1 : (Value × Value) → World → Prop) (s0 del1 i5 j6 : Value) (w : World) : Prop :=
  builtinP Try.prog Builtin.len #[28] 3 #[false] #[s0] w fun t18 w =>
  valP Try.prog (binS BinOp.lss 3 (Operand.tmp 16) (Operand.tmp 18) j6 t18) w fun t19 w =>
  m65_14 R K1 s0 del1 i5 j6 t19 w
def m65_7 (R : VP) (s0 del1 i5 j6 : Value) (w : World) : Prop :=
  loopP (fun (K1 : (Value × Value) → World → Prop) (s : Value × Value) w => m65_8 R K1 s0 del1 s.1 s.2 w) (i5, j6) w
def m65_3 (R : VP) (s0 del1 i5 : Value) (w : World) : Prop :=
  valP Try.prog (binS BinOp.add 3 (Operand.tmp 14) (Operand.const (Value.int IntKind.i64 1)) i5 (Value.int IntKind.i64 1)) w fun t15 w =>
  m65_7 R s0 del1 i5 t15 w
def m65_15 (R : VP) (s0 del1 i5 t12 : Value) (w : World) : Prop :=
  condP t12
  (m65_16 R s0 w)
  (m65_3 R s0 del1 i5 w)
def m65_2 (R : VP) (s0 del1 i5 : Value) (w : World) : Prop :=
  valP Try.prog (binS BinOp.eql 3 (Operand.tmp 11) (Operand.const (Value.int IntKind.i64 (-1))) i5 (Value.int IntKind.i64 (-1))) w fun t12 w =>
  m65_15 R s0 del1 i5 t12 w
def m65_1 (R : VP) (s0 del1 : Value) (w : World) : Prop :=
  callP Try.prog (fnV 90) #[s0, del1] w fun t10 w =>
  m65_2 R s0 del1 t10 w
def m65_0 (R : VP) (s0 del1 : Value) (w : World) : Prop :=
  m65_1 R s0 del1 w
abbrev W65 := cwp Try.prog (fun i => 0)
noncomputable def k65_0 : Code := (bodyOf Try.f65)
noncomputable def k65_1 : Code := (c2 k65_0)
noncomputable def k65_2 : Code := (c2 k65_1)
noncomputable def k65_3 : Code := (c2 k65_2)
noncomputable def k65_4 : Code := (c2 k65_3)
noncomputable def k65_5 : Code := (c2 k65_4)
noncomputable def k65_6 : Code := (c2 k65_5)
noncomputable def k65_7 : Code := (c2 (c1 k65_3))
noncomputable def k65_8 : Code := (c1 (c1 k65_7))
noncomputable def k65_9 : Code := (c2 k65_8)
noncomputable def k65_10 : Code := (c2 k65_9)
noncomputable def k65_11 : Code := (c2 (c1 (c1 k65_9)))
noncomputable def k65_12 : Code := (c2 k65_11)
noncomputable def k65_13 : Code := (c2 (c1 k65_12))
noncomputable def k65_14 : Code := (c2 (c1 k65_8))
noncomputable def k65_15 : Code := (c2 (c1 k65_2))
noncomputable def k65_16 : Code := (c2 (c1 k65_15))
theorem s65_16 {R : VP} {Q : EQ} (hR : ∀ e w, (R (e 4) w) → Q .ret e w) (e : Env) (w : World) (h : m65_16 R (e 4) w) : W65 k65_16 Q e w := by
  unfold m65_16 at h
  exact reA (hR _ _ h)
theorem s65_10 {R : VP} {K1 : (Value × Value) → World → Prop} {Q : EQ} (hN : ∀ e w, (K1 ((e 5), (e 6)) w) → Q .normal e w) (e : Env) (w : World) (h : m65_10 R K1 (e 0) (e 1) (e 5) (e 6) w) : W65 k65_10 Q e w := by
  unfold m65_10 at h
  exact rgA 6 (fun e w => K1 ((e 5), (e 6)) w) h hN
theorem s65_13 {R : VP} {K1 : (Value × Value) → World → Prop} {Q : EQ} (hN : ∀ e w, (m65_10 R K1 (e 0) (e 1) (e 5) (e 6) w) → Q .normal e w) (e : Env) (w : World) (h : m65_13 R K1 (e 0) (e 1) (e 5) (e 6) w) : W65 k65_13 Q e w := by
  unfold m65_13 at h
  exact rgA 10 (fun e w => m65_10 R K1 (e 0) (e 1) (e 5) (e 6) w) h hN
theorem s65_12 {R : VP} {K1 : (Value × Value) → World → Prop} {Q : EQ} (hN : ∀ e w, (m65_10 R K1 (e 0) (e 1) (e 5) (e 6) w) → Q .normal e w) (e : Env) (w : World) (h : m65_12 R K1 (e 0) (e 1) (e 5) (e 6) (e 7) (e 29) w) : W65 k65_12 Q e w := by
  unfold m65_12 at h
  refine coA (Operand.tmp 29) h (fun h1 => ?_) (fun h1 => ?_)
  · refine seA ?_
    have hN : ∀ e w, (m65_13 R K1 (e 0) (e 1) (e 5) (e 6) w) → (thenE (W65 k65_13 Q) Q) .normal e w := fun e w h => then_N (s65_13 (R := R) (Q := Q) (K1 := K1) hN e w h)
    exact rgA 9 (fun e w => m65_13 R K1 (e 0) (e 1) (e 5) (e 6) w) h1 hN
  · exact skA (hN _ _ h1)
theorem s65_11 {R : VP} {K1 : (Value × Value) → World → Prop} {Q : EQ} (hN : ∀ e w, (m65_10 R K1 (e 0) (e 1) (e 5) (e 6) w) → Q .normal e w) (e : Env) (w : World) (h : m65_11 R K1 (e 0) (e 1) (e 5) (e 6) (e 7) w) : W65 k65_11 Q e w := by
  unfold m65_11 at h
  refine seA ?_
  have hN : ∀ e w, (m65_12 R K1 (e 0) (e 1) (e 5) (e 6) (e 7) (e 29) w) → (thenE (W65 k65_12 Q) Q) .normal e w := fun e w h => then_N (s65_12 (R := R) (Q := Q) (K1 := K1) hN e w h)
  exact rgA 8 (fun e w => m65_12 R K1 (e 0) (e 1) (e 5) (e 6) (e 7) (e 29) w) h hN
theorem s65_9 {R : VP} {K1 : (Value × Value) → World → Prop} {Q : EQ} (hN : ∀ e w, (K1 ((e 5), (e 6)) w) → Q .normal e w) (e : Env) (w : World) (h : m65_9 R K1 (e 0) (e 1) (e 5) (e 6) w) : W65 k65_9 Q e w := by
  unfold m65_9 at h
  refine seA ?_
  have hN : ∀ e w, (m65_10 R K1 (e 0) (e 1) (e 5) (e 6) w) → (thenE (W65 k65_10 Q) Q) .normal e w := fun e w h => then_N (s65_10 (R := R) (Q := Q) (K1 := K1) hN e w h)
  refine block_ok 1 (by kernel_rfl) ?_
  have hN : ∀ e w, (m65_10 R K1 (e 0) (e 1) (e 5) (e 6) w) → (inBlockE 1 (thenE (W65 k65_10 Q) Q)) .normal e w := fun e w h => block_N (hN e w h)
  refine seA ?_
  have hN : ∀ e w, (m65_11 R K1 (e 0) (e 1) (e 5) (e 6) (e 7) w) → (thenE (W65 k65_11 (inBlockE 1 (thenE (W65 k65_10 Q) Q))) (inBlockE 1 (thenE (W65 k65_10 Q) Q))) .normal e w := fun e w h => then_N (s65_11 (R := R) (Q := (inBlockE 1 (thenE (W65 k65_10 Q) Q))) (K1 := K1) hN e w h)
  exact rgA 7 (fun e w => m65_11 R K1 (e 0) (e 1) (e 5) (e 6) (e 7) w) h hN
theorem s65_6 {R : VP} {Q : EQ} (hR : ∀ e w, (R (e 4) w) → Q .ret e w) (e : Env) (w : World) (h : m65_6 R (e 4) w) : W65 k65_6 Q e w := by
  unfold m65_6 at h
  exact reA (hR _ _ h)
theorem s65_5 {R : VP} {Q : EQ} (hR : ∀ e w, (R (e 4) w) → Q .ret e w) (e : Env) (w : World) (h : m65_5 R (e 0) (e 5) w) : W65 k65_5 Q e w := by
  unfold m65_5 at h
  refine seA ?_
  have hN : ∀ e w, (m65_6 R (e 4) w) → (thenE (W65 k65_6 Q) Q) .normal e w := fun e w h => then_N (s65_6 (R := R) (Q := Q) hR e w h)
  exact rgA 12 (fun e w => m65_6 R (e 4) w) h hN
theorem s65_4 {R : VP} {Q : EQ} (hR : ∀ e w, (R (e 4) w) → Q .ret e w) (e : Env) (w : World) (h : m65_4 R (e 0) (e 5) w) : W65 k65_4 Q e w := by
  unfold m65_4 at h
  refine seA ?_
  have hN : ∀ e w, (m65_5 R (e 0) (e 5) w) → (thenE (W65 k65_5 Q) Q) .normal e w := fun e w h => then_N (s65_5 (R := R) (Q := Q) hR e w h)
  exact rgA 11 (fun e w => m65_5 R (e 0) (e 5) w) h hN
theorem s65_14 {R : VP} {K1 : (Value × Value) → World → Prop} {Q : EQ} (hN : ∀ e w, (m65_9 R K1 (e 0) (e 1) (e 5) (e 6) w) → Q .normal e w) (hX0 : ∀ e w, (m65_4 R (e 0) (e 5) w) → Q (.exit 0) e w) (e : Env) (w : World) (h : m65_14 R K1 (e 0) (e 1) (e 5) (e 6) (e 19) w) : W65 k65_14 Q e w := by
  unfold m65_14 at h
  refine coA (Operand.tmp 19) h (fun h1 => ?_) (fun h1 => ?_)
  · exact skA (hN _ _ h1)
  · exact exA 0 (hX0 _ _ h1)
theorem s65_8 {R : VP} {K1 : (Value × Value) → World → Prop} {Q : EQ} (hN : ∀ e w, (K1 ((e 5), (e 6)) w) → Q .normal e w) (hX0 : ∀ e w, (m65_4 R (e 0) (e 5) w) → Q (.exit 0) e w) (e : Env) (w : World) (h : m65_8 R K1 (e 0) (e 1) (e 5) (e 6) w) : W65 k65_8 Q e w := by
  unfold m65_8 at h
  refine seA ?_
  have hN : ∀ e w, (m65_9 R K1 (e 0) (e 1) (e 5) (e 6) w) → (thenE (W65 k65_9 Q) Q) .normal e w := fun e w h => then_N (s65_9 (R := R) (Q := Q) (K1 := K1) hN e w h)
  have hX0 : ∀ e w, (m65_4 R (e 0) (e 5) w) → (thenE (W65 k65_9 Q) Q) (.exit 0) e w := fun e w h => then_X (hX0 e w h)
  refine seA ?_
  have hN : ∀ e w, (m65_14 R K1 (e 0) (e 1) (e 5) (e 6) (e 19) w) → (thenE (W65 k65_14 (thenE (W65 k65_9 Q) Q)) (thenE (W65 k65_9 Q) Q)) .normal e w := fun e w h => then_N (s65_14 (R := R) (Q := (thenE (W65 k65_9 Q) Q)) (K1 := K1) hN hX0 e w h)
  exact rgA 5 (fun e w => m65_14 R K1 (e 0) (e 1) (e 5) (e 6) (e 19) w) h hN
theorem s65_7 {R : VP} {Q : EQ} (hN : ∀ e w, (m65_4 R (e 0) (e 5) w) → Q .normal e w) (e : Env) (w : World) (h : m65_7 R (e 0) (e 1) (e 5) (e 6) w) : W65 k65_7 Q e w := by
  unfold m65_7 at h
  refine block_ok 0 (by kernel_rfl) ?_
  have hX0 : ∀ e w, (m65_4 R (e 0) (e 5) w) → (inBlockE 0 Q) (.exit 0) e w := fun e w h => inBlock_same (Q := Q) 0 (hN e w h)
  refine loop_ok' (fun (e : Env) => (e 5, e 6)) [0, 1] (by kernel_rfl) (by kernel_rfl) h (fun K e' w' hk h' => ?_)
  have r0 : e' 0 = e 0 := hk 0 (by decide)
  have r1 : e' 1 = e 1 := hk 1 (by decide)
  have hX0 : ∀ e w, (m65_4 R (e 0) (e 5) w) → (thenE (fun (e : Env) w => K ((e 5), (e 6)) w) (inBlockE 0 Q)) (.exit 0) e w := fun e w h => then_X (hX0 e w h)
  exact s65_8 (R := R) (Q := (thenE (fun (e : Env) w => K ((e 5), (e 6)) w) (inBlockE 0 Q))) (K1 := K) (fun _ _ h => then_N h) hX0 e' w' (by rw [r0, r1]; exact h')
theorem s65_3 {R : VP} {Q : EQ} (hR : ∀ e w, (R (e 4) w) → Q .ret e w) (e : Env) (w : World) (h : m65_3 R (e 0) (e 1) (e 5) w) : W65 k65_3 Q e w := by
  unfold m65_3 at h
  refine seA ?_
  have hN : ∀ e w, (m65_4 R (e 0) (e 5) w) → (thenE (W65 k65_4 Q) Q) .normal e w := fun e w h => then_N (s65_4 (R := R) (Q := Q) hR e w h)
  refine seA ?_
  have hN : ∀ e w, (m65_7 R (e 0) (e 1) (e 5) (e 6) w) → (thenE (W65 k65_7 (thenE (W65 k65_4 Q) Q)) (thenE (W65 k65_4 Q) Q)) .normal e w := fun e w h => then_N (s65_7 (R := R) (Q := (thenE (W65 k65_4 Q) Q)) hN e w h)
  exact rgA 4 (fun e w => m65_7 R (e 0) (e 1) (e 5) (e 6) w) h hN
theorem s65_15 {R : VP} {Q : EQ} (hN : ∀ e w, (m65_3 R (e 0) (e 1) (e 5) w) → Q .normal e w) (hR : ∀ e w, (R (e 4) w) → Q .ret e w) (e : Env) (w : World) (h : m65_15 R (e 0) (e 1) (e 5) (e 12) w) : W65 k65_15 Q e w := by
  unfold m65_15 at h
  refine coA (Operand.tmp 12) h (fun h1 => ?_) (fun h1 => ?_)
  · refine seA ?_
    have hN : ∀ e w, (m65_16 R (e 4) w) → (thenE (W65 k65_16 Q) Q) .normal e w := fun e w h => then_N (s65_16 (R := R) (Q := Q) hR e w h)
    exact rgA 3 (fun e w => m65_16 R (e 4) w) h1 hN
  · exact skA (hN _ _ h1)
theorem s65_2 {R : VP} {Q : EQ} (hR : ∀ e w, (R (e 4) w) → Q .ret e w) (e : Env) (w : World) (h : m65_2 R (e 0) (e 1) (e 5) w) : W65 k65_2 Q e w := by
  unfold m65_2 at h
  refine seA ?_
  have hN : ∀ e w, (m65_3 R (e 0) (e 1) (e 5) w) → (thenE (W65 k65_3 Q) Q) .normal e w := fun e w h => then_N (s65_3 (R := R) (Q := Q) hR e w h)
  have hR : ∀ e w, (R (e 4) w) → (thenE (W65 k65_3 Q) Q) .ret e w := fun e w h => then_R (hR e w h)
  refine seA ?_
  have hN : ∀ e w, (m65_15 R (e 0) (e 1) (e 5) (e 12) w) → (thenE (W65 k65_15 (thenE (W65 k65_3 Q) Q)) (thenE (W65 k65_3 Q) Q)) .normal e w := fun e w h => then_N (s65_15 (R := R) (Q := (thenE (W65 k65_3 Q) Q)) hN hR e w h)
  exact rgA 2 (fun e w => m65_15 R (e 0) (e 1) (e 5) (e 12) w) h hN
theorem s65_1 {R : VP} {Q : EQ} (hR : ∀ e w, (R (e 4) w) → Q .ret e w) (e : Env) (w : World) (h : m65_1 R (e 0) (e 1) w) : W65 k65_1 Q e w := by
  unfold m65_1 at h
  refine seA ?_
  have hN : ∀ e w, (m65_2 R (e 0) (e 1) (e 5) w) → (thenE (W65 k65_2 Q) Q) .normal e w := fun e w h => then_N (s65_2 (R := R) (Q := Q) hR e w h)
  exact rgA 1 (fun e w => m65_2 R (e 0) (e 1) (e 5) w) h hN
theorem s65_0 {R : VP} {Q : EQ} (hR : ∀ e w, (R (e 4) w) → Q .ret e w) (e : Env) (w : World) (h : m65_0 R (e 0) (e 1) w) : W65 k65_0 Q e w := by
  unfold m65_0 at h
  refine seA ?_
  have hN : ∀ e w, (m65_1 R (e 0) (e 1) w) → (thenE (W65 k65_1 Q) Q) .normal e w := fun e w h => then_N (s65_1 (R := R) (Q := Q) hR e w h)
  exact rgA 0 (fun e w => m65_1 R (e 0) (e 1) w) h hN
abbrev m65 (R : VP) (s0 del1 : Value) (w : World) : Prop := m65_0 R s0 del1 w
theorem s65 (s0 del1 : Value) {R : VP} {w : World} (h : m65 R s0 del1 w) :
    Calls Try.prog 65 #[s0, del1] w fun e w' => ∃ v, e = .returned v ∧ R v w' :=
  calls_of_cwp (st := (fun i => 0)) (c := k65_0) (by kernel_rfl) Try.func65 (by kernel_rfl) (Nat.le_of_ble_eq_true (by kernel_rfl)) (by kernel_rfl)
    (s65_0 (R := R) (Q := endE Try.prog Try.f65 R) (fun e w h => kcast (by kernel_rfl) h) (argsE #[s0, del1]) w (kcast (by kernel_rfl) h))
/-! ### slices.IndexFunc[[]int,int] -/
def m90_11 (R : VP) (K1 : VP) (t4 : Value) (w : World) : Prop :=
  R t4 w
def m90_8 (R : VP) (K1 : VP) (s0 f1 t7 t8 : Value) (w : World) : Prop :=
  valP Try.prog (binS BinOp.add 3 (Operand.tmp 8) (Operand.const (Value.int IntKind.i64 1)) t8 (Value.int IntKind.i64 1)) w fun t18 w =>
  K1 t18 w
def m90_10 (R : VP) (K1 : VP) (s0 f1 i5 t7 t8 t16 : Value) (w : World) : Prop :=
  condP t16
  (m90_11 R K1 i5 w)
  (m90_8 R K1 s0 f1 t7 t8 w)
def m90_9 (R : VP) (K1 : VP) (s0 f1 i5 t7 t8 : Value) (w : World) : Prop :=
  valP Try.prog (Instr.indexAt 28 s0 i5) w fun t14 w =>
  valP Try.prog (Instr.loadAt 3 t14) w fun t15 w =>
  callP Try.prog f1 #[t15] w fun t16 w =>
  m90_10 R K1 s0 f1 i5 t7 t8 t16 w
def m90_7 (R : VP) (K1 : VP) (s0 f1 t7 t8 : Value) (w : World) : Prop :=
  m90_9 R K1 s0 f1 t8 t7 t8 w
def m90_3 (R : VP) (t4 : Value) (w : World) : Prop :=
  R t4 w
def m90_2 (R : VP) (w : World) : Prop :=
  m90_3 R (Value.int IntKind.i64 (-1)) w
def m90_6 (R : VP) (K1 : VP) (s0 f1 t7 t8 t9 : Value) (w : World) : Prop :=
  condP t9
  (m90_7 R K1 s0 f1 t7 t8 w)
  (m90_2 R w)
def m90_5 (R : VP) (K1 : VP) (s0 f1 t7 t8 : Value) (w : World) : Prop :=
  valP Try.prog (binS BinOp.lss 3 (Operand.tmp 8) (Operand.tmp 7) t8 t7) w fun t9 w =>
  m90_6 R K1 s0 f1 t7 t8 t9 w
def m90_4 (R : VP) (s0 f1 t7 t8 : Value) (w : World) : Prop :=
  loopP (fun (K1 : VP) (s : Value) w => m90_5 R K1 s0 f1 t7 s w) t8 w
def m90_1 (R : VP) (s0 f1 : Value) (w : World) : Prop :=
  builtinP Try.prog Builtin.len #[28] 3 #[false] #[s0] w fun t7 w =>
  m90_4 R s0 f1 t7 (Value.int IntKind.i64 0) w
def m90_0 (R : VP) (s0 f1 : Value) (w : World) : Prop :=
  m90_1 R s0 f1 w
abbrev W90 := cwp Try.prog (fun i => 0)
noncomputable def k90_0 : Code := (bodyOf Try.f90)
noncomputable def k90_1 : Code := (c2 k90_0)
noncomputable def k90_2 : Code := (c2 k90_1)
noncomputable def k90_3 : Code := (c2 k90_2)
noncomputable def k90_4 : Code := (c2 (c1 k90_1))
noncomputable def k90_5 : Code := (c1 (c1 k90_4))
noncomputable def k90_6 : Code := (c2 k90_5)
noncomputable def k90_7 : Code := (c2 k90_6)
noncomputable def k90_8 : Code := (c2 k90_7)
noncomputable def k90_9 : Code := (c2 (c1 (c1 k90_7)))
noncomputable def k90_10 : Code := (c2 k90_9)
noncomputable def k90_11 : Code := (c2 (c1 k90_10))
theorem s90_11 {R : VP} {K1 : VP} {Q : EQ} (hR : ∀ e w, (R (e 4) w) → Q .ret e w) (e : Env) (w : World) (h : m90_11 R K1 (e 4) w) : W90 k90_11 Q e w := by
  unfold m90_11 at h
  exact reA (hR _ _ h)
theorem s90_8 {R : VP} {K1 : VP} {Q : EQ} (hN : ∀ e w, (K1 (e 8) w) → Q .normal e w) (e : Env) (w : World) (h : m90_8 R K1 (e 0) (e 1) (e 7) (e 8) w) : W90 k90_8 Q e w := by
  unfold m90_8 at h
  exact rgA 6 (fun e w => K1 (e 8) w) h hN
theorem s90_10 {R : VP} {K1 : VP} {Q : EQ} (hN : ∀ e w, (m90_8 R K1 (e 0) (e 1) (e 7) (e 8) w) → Q .normal e w) (hR : ∀ e w, (R (e 4) w) → Q .ret e w) (e : Env) (w : World) (h : m90_10 R K1 (e 0) (e 1) (e 5) (e 7) (e 8) (e 16) w) : W90 k90_10 Q e w := by
  unfold m90_10 at h
  refine coA (Operand.tmp 16) h (fun h1 => ?_) (fun h1 => ?_)
  · refine seA ?_
    have hN : ∀ e w, (m90_11 R K1 (e 4) w) → (thenE (W90 k90_11 Q) Q) .normal e w := fun e w h => then_N (s90_11 (R := R) (Q := Q) (K1 := K1) hR e w h)
    exact rgA 5 (fun e w => m90_11 R K1 (e 4) w) h1 hN
  · exact skA (hN _ _ h1)
theorem s90_9 {R : VP} {K1 : VP} {Q : EQ} (hN : ∀ e w, (m90_8 R K1 (e 0) (e 1) (e 7) (e 8) w) → Q .normal e w) (hR : ∀ e w, (R (e 4) w) → Q .ret e w) (e : Env) (w : World) (h : m90_9 R K1 (e 0) (e 1) (e 5) (e 7) (e 8) w) : W90 k90_9 Q e w := by
  unfold m90_9 at h
  refine seA ?_
  have hN : ∀ e w, (m90_10 R K1 (e 0) (e 1) (e 5) (e 7) (e 8) (e 16) w) → (thenE (W90 k90_10 Q) Q) .normal e w := fun e w h => then_N (s90_10 (R := R) (Q := Q) (K1 := K1) hN hR e w h)
  exact rgA 4 (fun e w => m90_10 R K1 (e 0) (e 1) (e 5) (e 7) (e 8) (e 16) w) h hN
theorem s90_7 {R : VP} {K1 : VP} {Q : EQ} (hN : ∀ e w, (K1 (e 8) w) → Q .normal e w) (hR : ∀ e w, (R (e 4) w) → Q .ret e w) (e : Env) (w : World) (h : m90_7 R K1 (e 0) (e 1) (e 7) (e 8) w) : W90 k90_7 Q e w := by
  unfold m90_7 at h
  refine seA ?_
  have hN : ∀ e w, (m90_8 R K1 (e 0) (e 1) (e 7) (e 8) w) → (thenE (W90 k90_8 Q) Q) .normal e w := fun e w h => then_N (s90_8 (R := R) (Q := Q) (K1 := K1) hN e w h)
  have hR : ∀ e w, (R (e 4) w) → (thenE (W90 k90_8 Q) Q) .ret e w := fun e w h => then_R (hR e w h)
  refine block_ok 1 (by kernel_rfl) ?_
  have hN : ∀ e w, (m90_8 R K1 (e 0) (e 1) (e 7) (e 8) w) → (inBlockE 1 (thenE (W90 k90_8 Q) Q)) .normal e w := fun e w h => block_N (hN e w h)
  have hR : ∀ e w, (R (e 4) w) → (inBlockE 1 (thenE (W90 k90_8 Q) Q)) .ret e w := fun e w h => block_R (hR e w h)
  refine seA ?_
  have hN : ∀ e w, (m90_9 R K1 (e 0) (e 1) (e 5) (e 7) (e 8) w) → (thenE (W90 k90_9 (inBlockE 1 (thenE (W90 k90_8 Q) Q))) (inBlockE 1 (thenE (W90 k90_8 Q) Q))) .normal e w := fun e w h => then_N (s90_9 (R := R) (Q := (inBlockE 1 (thenE (W90 k90_8 Q) Q))) (K1 := K1) hN hR e w h)
  exact rgA 3 (fun e w => m90_9 R K1 (e 0) (e 1) (e 5) (e 7) (e 8) w) h hN
theorem s90_3 {R : VP} {Q : EQ} (hR : ∀ e w, (R (e 4) w) → Q .ret e w) (e : Env) (w : World) (h : m90_3 R (e 4) w) : W90 k90_3 Q e w := by
  unfold m90_3 at h
  exact reA (hR _ _ h)
theorem s90_2 {R : VP} {Q : EQ} (hR : ∀ e w, (R (e 4) w) → Q .ret e w) (e : Env) (w : World) (h : m90_2 R w) : W90 k90_2 Q e w := by
  unfold m90_2 at h
  refine seA ?_
  have hN : ∀ e w, (m90_3 R (e 4) w) → (thenE (W90 k90_3 Q) Q) .normal e w := fun e w h => then_N (s90_3 (R := R) (Q := Q) hR e w h)
  exact rgA 7 (fun e w => m90_3 R (e 4) w) h hN
theorem s90_6 {R : VP} {K1 : VP} {Q : EQ} (hN : ∀ e w, (K1 (e 8) w) → Q .normal e w) (hR : ∀ e w, (R (e 4) w) → Q .ret e w) (hX0 : ∀ e w, (m90_2 R w) → Q (.exit 0) e w) (e : Env) (w : World) (h : m90_6 R K1 (e 0) (e 1) (e 7) (e 8) (e 9) w) : W90 k90_6 Q e w := by
  unfold m90_6 at h
  refine seA ?_
  have hN : ∀ e w, (m90_7 R K1 (e 0) (e 1) (e 7) (e 8) w) → (thenE (W90 k90_7 Q) Q) .normal e w := fun e w h => then_N (s90_7 (R := R) (Q := Q) (K1 := K1) hN hR e w h)
  have hX0 : ∀ e w, (m90_2 R w) → (thenE (W90 k90_7 Q) Q) (.exit 0) e w := fun e w h => then_X (hX0 e w h)
  refine coA (Operand.tmp 9) h (fun h1 => ?_) (fun h1 => ?_)
  · exact skA (hN _ _ h1)
  · exact exA 0 (hX0 _ _ h1)
theorem s90_5 {R : VP} {K1 : VP} {Q : EQ} (hN : ∀ e w, (K1 (e 8) w) → Q .normal e w) (hR : ∀ e w, (R (e 4) w) → Q .ret e w) (hX0 : ∀ e w, (m90_2 R w) → Q (.exit 0) e w) (e : Env) (w : World) (h : m90_5 R K1 (e 0) (e 1) (e 7) (e 8) w) : W90 k90_5 Q e w := by
  unfold m90_5 at h
  refine seA ?_
  have hN : ∀ e w, (m90_6 R K1 (e 0) (e 1) (e 7) (e 8) (e 9) w) → (thenE (W90 k90_6 Q) Q) .normal e w := fun e w h => then_N (s90_6 (R := R) (Q := Q) (K1 := K1) hN hR hX0 e w h)
  exact rgA 2 (fun e w => m90_6 R K1 (e 0) (e 1) (e 7) (e 8) (e 9) w) h hN
theorem s90_4 {R : VP} {Q : EQ} (hN : ∀ e w, (m90_2 R w) → Q .normal e w) (hR : ∀ e w, (R (e 4) w) → Q .ret e w) (e : Env) (w : World) (h : m90_4 R (e 0) (e 1) (e 7) (e 8) w) : W90 k90_4 Q e w := by
  unfold m90_4 at h
  refine block_ok 0 (by kernel_rfl) ?_
  have hX0 : ∀ e w, (m90_2 R w) → (inBlockE 0 Q) (.exit 0) e w := fun e w h => inBlock_same (Q := Q) 0 (hN e w h)
  have hR : ∀ e w, (R (e 4) w) → (inBlockE 0 Q) .ret e w := fun e w h => block_R (hR e w h)
  refine loop_ok' (fun (e : Env) => e 8) [0, 1, 7] (by kernel_rfl) (by kernel_rfl) h (fun K e' w' hk h' => ?_)
  have r0 : e' 0 = e 0 := hk 0 (by decide)
  have r1 : e' 1 = e 1 := hk 1 (by decide)
  have r7 : e' 7 = e 7 := hk 7 (by decide)
  have hR : ∀ e w, (R (e 4) w) → (thenE (fun (e : Env) w => K (e 8) w) (inBlockE 0 Q)) .ret e w := fun e w h => then_R (hR e w h)
  have hX0 : ∀ e w, (m90_2 R w) → (thenE (fun (e : Env) w => K (e 8) w) (inBlockE 0 Q)) (.exit 0) e w := fun e w h => then_X (hX0 e w h)
  exact s90_5 (R := R) (Q := (thenE (fun (e : Env) w => K (e 8) w) (inBlockE 0 Q))) (K1 := K) (fun _ _ h => then_N h) hR hX0 e' w' (by rw [r0, r1, r7]; exact h')
theorem s90_1 {R : VP} {Q : EQ} (hR : ∀ e w, (R (e 4) w) → Q .ret e w) (e : Env) (w : World) (h : m90_1 R (e 0) (e 1) w) : W90 k90_1 Q e w := by
  unfold m90_1 at h
  refine seA ?_
  have hN : ∀ e w, (m90_2 R w) → (thenE (W90 k90_2 Q) Q) .normal e w := fun e w h => then_N (s90_2 (R := R) (Q := Q) hR e w h)
  have hR : ∀ e w, (R (e 4) w) → (thenE (W90 k90_2 Q) Q) .ret e w := fun e w h => then_R (hR e w h)
  refine seA ?_
  have hN : ∀ e w, (m90_4 R (e 0) (e 1) (e 7) (e 8) w) → (thenE (W90 k90_4 (thenE (W90 k90_2 Q) Q)) (thenE (W90 k90_2 Q) Q)) .normal e w := fun e w h => then_N (s90_4 (R := R) (Q := (thenE (W90 k90_2 Q) Q)) hN hR e w h)
  exact rgA 1 (fun e w => m90_4 R (e 0) (e 1) (e 7) (e 8) w) h hN
theorem s90_0 {R : VP} {Q : EQ} (hR : ∀ e w, (R (e 4) w) → Q .ret e w) (e : Env) (w : World) (h : m90_0 R (e 0) (e 1) w) : W90 k90_0 Q e w := by
  unfold m90_0 at h
  refine seA ?_
  have hN : ∀ e w, (m90_1 R (e 0) (e 1) w) → (thenE (W90 k90_1 Q) Q) .normal e w := fun e w h => then_N (s90_1 (R := R) (Q := Q) hR e w h)
  exact rgA 0 (fun e w => m90_1 R (e 0) (e 1) w) h hN
abbrev m90 (R : VP) (s0 f1 : Value) (w : World) : Prop := m90_0 R s0 f1 w
theorem s90 (s0 f1 : Value) {R : VP} {w : World} (h : m90 R s0 f1 w) :
    Calls Try.prog 90 #[s0, f1] w fun e w' => ∃ v, e = .returned v ∧ R v w' :=
  calls_of_cwp (st := (fun i => 0)) (c := k90_0) (by kernel_rfl) Try.func90 (by kernel_rfl) (Nat.le_of_ble_eq_true (by kernel_rfl)) (by kernel_rfl)
    (s90_0 (R := R) (Q := endE Try.prog Try.f90 R) (fun e w h => kcast (by kernel_rfl) h) (argsE #[s0, f1]) w (kcast (by kernel_rfl) h))
/-! ### headgate/assign.share$1 -/
def m117_2 (R : VP) (t2 : Value) (w : World) : Prop :=
  R t2 w
def m117_1 (R : VP) (m0 : Value) (w : World) : Prop :=
  valP Try.prog (binS BinOp.leq 3 (Operand.tmp 3) (Operand.const (Value.int IntKind.i64 0)) m0 (Value.int IntKind.i64 0)) w fun t4 w =>
  m117_2 R t4 w
def m117_0 (R : VP) (m0 : Value) (w : World) : Prop :=
  m117_1 R m0 w
abbrev W117 := cwp Try.prog (fun i => 0)
noncomputable def k117_0 : Code := (bodyOf Try.f117)
noncomputable def k117_1 : Code := (c2 k117_0)
noncomputable def k117_2 : Code := (c2 k117_1)
theorem s117_2 {R : VP} {Q : EQ} (hR : ∀ e w, (R (e 2) w) → Q .ret e w) (e : Env) (w : World) (h : m117_2 R (e 2) w) : W117 k117_2 Q e w := by
  unfold m117_2 at h
  exact reA (hR _ _ h)
theorem s117_1 {R : VP} {Q : EQ} (hR : ∀ e w, (R (e 2) w) → Q .ret e w) (e : Env) (w : World) (h : m117_1 R (e 0) w) : W117 k117_1 Q e w := by
  unfold m117_1 at h
  refine seA ?_
  have hN : ∀ e w, (m117_2 R (e 2) w) → (thenE (W117 k117_2 Q) Q) .normal e w := fun e w h => then_N (s117_2 (R := R) (Q := Q) hR e w h)
  exact rgA 1 (fun e w => m117_2 R (e 2) w) h hN
theorem s117_0 {R : VP} {Q : EQ} (hR : ∀ e w, (R (e 2) w) → Q .ret e w) (e : Env) (w : World) (h : m117_0 R (e 0) w) : W117 k117_0 Q e w := by
  unfold m117_0 at h
  refine seA ?_
  have hN : ∀ e w, (m117_1 R (e 0) w) → (thenE (W117 k117_1 Q) Q) .normal e w := fun e w h => then_N (s117_1 (R := R) (Q := Q) hR e w h)
  exact rgA 0 (fun e w => m117_1 R (e 0) w) h hN
abbrev m117 (R : VP) (m0 : Value) (w : World) : Prop := m117_0 R m0 w
theorem s117 (m0 : Value) {R : VP} {w : World} (h : m117 R m0 w) :
    Calls Try.prog 117 #[m0] w fun e w' => ∃ v, e = .returned v ∧ R v w' :=
  calls_of_cwp (st := (fun i => 0)) (c := k117_0) (by kernel_rfl) Try.func117 (by kernel_rfl) (Nat.le_of_ble_eq_true (by kernel_rfl)) (by kernel_rfl)
    (s117_0 (R := R) (Q := endE Try.prog Try.f117 R) (fun e w h => kcast (by kernel_rfl) h) (argsE #[m0]) w (kcast (by kernel_rfl) h))
/-! ### slices.BinarySearch[[]int,int] -/
def m119_9 (R : VP) (K1 : (Value × Value) → World → Prop) (x0 target1 n6 i7 j8 h9 t27 : Value) (w : World) : Prop :=
  condP t27
  (valP Try.prog (binS BinOp.add 3 (Operand.tmp 28) (Operand.const (Value.int IntKind.i64 1)) h9 (Value.int IntKind.i64 1)) w fun t29 w =>
  K1 (t29, j8) w)
  (K1 (i7, h9) w)
def m119_8 (R : VP) (K1 : (Value × Value) → World → Prop) (x0 target1 n6 i7 j8 h9 : Value) (w : World) : Prop :=
  valP Try.prog (Instr.indexAt 28 x0 h9) w fun t24 w =>
  valP Try.prog (Instr.loadAt 3 t24) w fun t25 w =>
  callP Try.prog (fnV 112) #[t25, target1] w fun t27 w =>
  m119_9 R K1 x0 target1 n6 i7 j8 h9 t27 w
def m119_7 (R : VP) (K1 : (Value × Value) → World → Prop) (x0 target1 n6 i7 j8 : Value) (w : World) : Prop :=
  valP Try.prog (binS BinOp.add 3 (Operand.tmp 16) (Operand.tmp 17) i7 j8) w fun t18 w =>
  valP Try.prog (convert 3 125 t18) w fun t19 w =>
  valP Try.prog (binS BinOp.shr 125 (Operand.tmp 19) (Operand.const (Value.int IntKind.u64 1)) t19 (Value.int IntKind.u64 1)) w fun t20 w =>
  valP Try.prog (convert 125 3 t20) w fun t21 w =>
  m119_8 R K1 x0 target1 n6 i7 j8 t21 w
def m119_5 (R : VP) (t4 t5 : Value) (w : World) : Prop :=
  R (Value.tuple #[t4, t5]) w
def m119_4 (R : VP) (x0 target1 n6 i7 : Value) (w : World) : Prop :=
  valP Try.prog (binS BinOp.lss 3 (Operand.tmp 32) (Operand.tmp 33) i7 n6) w fun t34 w =>
  condP t34
  (valP Try.prog (Instr.indexAt 28 x0 i7) w fun t38 w =>
  valP Try.prog (Instr.loadAt 3 t38) w fun t39 w =>
  valP Try.prog (binS BinOp.eql 3 (Operand.tmp 39) (Operand.tmp 40) t39 target1) w fun t41 w =>
  condP t41
  (pickP t41 (Value.bool true) undef fun t52 =>
  pickP t34 t52 (Value.bool false) fun t53 =>
  m119_5 R i7 t53 w)
  (valP Try.prog (Instr.indexAt 28 x0 i7) w fun t45 w =>
  valP Try.prog (Instr.loadAt 3 t45) w fun t46 w =>
  callP Try.prog (fnV 128) #[t46] w fun t47 w =>
  condP t47
  (callP Try.prog (fnV 128) #[target1] w fun t50 w =>
  pickP t47 t50 (Value.bool false) fun t51 =>
  pickP t41 (Value.bool true) t51 fun t52 =>
  pickP t34 t52 (Value.bool false) fun t53 =>
  m119_5 R i7 t53 w)
  (pickP t47 undef (Value.bool false) fun t51 =>
  pickP t41 (Value.bool true) t51 fun t52 =>
  pickP t34 t52 (Value.bool false) fun t53 =>
  m119_5 R i7 t53 w)))
  (pickP t34 undef (Value.bool false) fun t53 =>
  m119_5 R i7 t53 w)
def m119_10 (R : VP) (K1 : (Value × Value) → World → Prop) (x0 target1 n6 i7 j8 t15 : Value) (w : World) : Prop :=
  condP t15
  (m119_7 R K1 x0 target1 n6 i7 j8 w)
  (m119_4 R x0 target1 n6 i7 w)
def m119_6 (R : VP) (K1 : (Value × Value) → World → Prop) (x0 target1 n6 i7 j8 : Value) (w : World) : Prop :=
  valP Try.prog (binS BinOp.lss 3 (Operand.tmp 13) (Operand.tmp 14) i7 j8) w fun t15 w =>
  m119_10 R K1 x0 target1 n6 i7 j8 t15 w
def m119_3 (R : VP) (x0 target1 n6 i7 j8 : Value) (w : World) : Prop :=
  loopP (fun (K1 : (Value × Value) → World → Prop) (s : Value × Value) w => m119_6 R K1 x0 target1 n6 s.1 s.2 w) (i7, j8) w
def m119_2 (R : VP) (x0 target1 n6 : Value) (w : World) : Prop :=
  m119_3 R x0 target1 n6 (Value.int IntKind.i64 0) n6 w
def m119_1 (R : VP) (x0 target1 : Value) (w : World) : Prop :=
  builtinP Try.prog Builtin.len #[28] 3 #[false] #[x0] w fun t11 w =>
  m119_2 R x0 target1 t11 w
def m119_0 (R : VP) (x0 target1 : Value) (w : World) : Prop :=
  m119_1 R x0 target1 w
abbrev W119 := cwp Try.prog (fun i => 0)
noncomputable def k119_0 : Code := (bodyOf Try.f119)
noncomputable def k119_1 : Code := (c2 k119_0)
noncomputable def k119_2 : Code := (c2 k119_1)
noncomputable def k119_3 : Code := (c2 k119_2)
noncomputable def k119_4 : Code := (c2 k119_3)
noncomputable def k119_5 : Code := (c2 k119_4)
noncomputable def k119_6 : Code := (c1 (c1 (c1 k119_3)))
noncomputable def k119_7 : Code := (c2 k119_6)
noncomputable def k119_8 : Code := (c2 (c1 k119_7))
noncomputable def k119_9 : Code := (c2 k119_8)
noncomputable def k119_10 : Code := (c2 (c1 k119_6))
theorem s119_9 {R : VP} {K1 : (Value × Value) → World → Prop} {Q : EQ} (hN : ∀ e w, (K1 ((e 7), (e 8)) w) → Q .normal e w) (e : Env) (w : World) (h : m119_9 R K1 (e 0) (e 1) (e 6) (e 7) (e 8) (e 9) (e 27) w) : W119 k119_9 Q e w := by
  unfold m119_9 at h
  refine coA (Operand.tmp 27) h (fun h1 => ?_) (fun h1 => ?_)
  · exact rgA 6 (fun e w => K1 ((e 7), (e 8)) w) h1 hN
  · exact rgA 7 (fun e w => K1 ((e 7), (e 8)) w) h1 hN
theorem s119_8 {R : VP} {K1 : (Value × Value) → World → Prop} {Q : EQ} (hN : ∀ e w, (K1 ((e 7), (e 8)) w) → Q .normal e w) (e : Env) (w : World) (h : m119_8 R K1 (e 0) (e 1) (e 6) (e 7) (e 8) (e 9) w) : W119 k119_8 Q e w := by
  unfold m119_8 at h
  refine seA ?_
  have hN : ∀ e w, (m119_9 R K1 (e 0) (e 1) (e 6) (e 7) (e 8) (e 9) (e 27) w) → (thenE (W119 k119_9 Q) Q) .normal e w := fun e w h => then_N (s119_9 (R := R) (Q := Q) (K1 := K1) hN e w h)
  exact rgA 5 (fun e w => m119_9 R K1 (e 0) (e 1) (e 6) (e 7) (e 8) (e 9) (e 27) w) h hN
theorem s119_7 {R : VP} {K1 : (Value × Value) → World → Prop} {Q : EQ} (hN : ∀ e w, (K1 ((e 7), (e 8)) w) → Q .normal e w) (e : Env) (w : World) (h : m119_7 R K1 (e 0) (e 1) (e 6) (e 7) (e 8) w) : W119 k119_7 Q e w := by
  unfold m119_7 at h
  refine block_ok 1 (by kernel_rfl) ?_
  have hN : ∀ e w, (K1 ((e 7), (e 8)) w) → (inBlockE 1 Q) .normal e w := fun e w h => block_N (hN e w h)
  refine seA ?_
  have hN : ∀ e w, (m119_8 R K1 (e 0) (e 1) (e 6) (e 7) (e 8) (e 9) w) → (thenE (W119 k119_8 (inBlockE 1 Q)) (inBlockE 1 Q)) .normal e w := fun e w h => then_N (s119_8 (R := R) (Q := (inBlockE 1 Q)) (K1 := K1) hN e w h)
  exact rgA 4 (fun e w => m119_8 R K1 (e 0) (e 1) (e 6) (e 7) (e 8) (e 9) w) h hN
theorem s119_5 {R : VP} {Q : EQ} (hR : ∀ e w, (R (Value.tuple #[(e 4), (e 5)]) w) → Q .ret e w) (e : Env) (w : World) (h : m119_5 R (e 4) (e 5) w) : W119 k119_5 Q e w := by
  unfold m119_5 at h
  exact reA (hR _ _ h)
theorem s119_4 {R : VP} {Q : EQ} (hR : ∀ e w, (R (Value.tuple #[(e 4), (e 5)]) w) → Q .ret e w) (e : Env) (w : World) (h : m119_4 R (e 0) (e 1) (e 6) (e 7) w) : W119 k119_4 Q e w := by
  unfold m119_4 at h
  refine seA ?_
  have hN : ∀ e w, (m119_5 R (e 4) (e 5) w) → (thenE (W119 k119_5 Q) Q) .normal e w := fun e w h => then_N (s119_5 (R := R) (Q := Q) hR e w h)
  exact rgA 8 (fun e w => m119_5 R (e 4) (e 5) w) h hN
theorem s119_10 {R : VP} {K1 : (Value × Value) → World → Prop} {Q : EQ} (hN : ∀ e w, (m119_7 R K1 (e 0) (e 1) (e 6) (e 7) (e 8) w) → Q .normal e w) (hX0 : ∀ e w, (m119_4 R (e 0) (e 1) (e 6) (e 7) w) → Q (.exit 0) e w) (e : Env) (w : World) (h : m119_10 R K1 (e 0) (e 1) (e 6) (e 7) (e 8) (e 15) w) : W119 k119_10 Q e w := by
  unfold m119_10 at h
  refine coA (Operand.tmp 15) h (fun h1 => ?_) (fun h1 => ?_)
  · exact skA (hN _ _ h1)
  · exact exA 0 (hX0 _ _ h1)
theorem s119_6 {R : VP} {K1 : (Value × Value) → World → Prop} {Q : EQ} (hN : ∀ e w, (K1 ((e 7), (e 8)) w) → Q .normal e w) (hX0 : ∀ e w, (m119_4 R (e 0) (e 1) (e 6) (e 7) w) → Q (.exit 0) e w) (e : Env) (w : World) (h : m119_6 R K1 (e 0) (e 1) (e 6) (e 7) (e 8) w) : W119 k119_6 Q e w := by
  unfold m119_6 at h
  refine seA ?_
  have hN : ∀ e w, (m119_7 R K1 (e 0) (e 1) (e 6) (e 7) (e 8) w) → (thenE (W119 k119_7 Q) Q) .normal e w := fun e w h => then_N (s119_7 (R := R) (Q := Q) (K1 := K1) hN e w h)
  have hX0 : ∀ e w, (m119_4 R (e 0) (e 1) (e 6) (e 7) w) → (thenE (W119 k119_7 Q) Q) (.exit 0) e w := fun e w h => then_X (hX0 e w h)
  refine seA ?_
  have hN : ∀ e w, (m119_10 R K1 (e 0) (e 1) (e 6) (e 7) (e 8) (e 15) w) → (thenE (W119 k119_10 (thenE (W119 k119_7 Q) Q)) (thenE (W119 k119_7 Q) Q)) .normal e w := fun e w h => then_N (s119_10 (R := R) (Q := (thenE (W119 k119_7 Q) Q)) (K1 := K1) hN hX0 e w h)
  exact rgA 3 (fun e w => m119_10 R K1 (e 0) (e 1) (e 6) (e 7) (e 8) (e 15) w) h hN
theorem s119_3 {R : VP} {Q : EQ} (hR : ∀ e w, (R (Value.tuple #[(e 4), (e 5)]) w) → Q .ret e w) (e : Env) (w : World) (h : m119_3 R (e 0) (e 1) (e 6) (e 7) (e 8) w) : W119 k119_3 Q e w := by
  unfold m119_3 at h
  refine seA ?_
  have hN : ∀ e w, (m119_4 R (e 0) (e 1) (e 6) (e 7) w) → (thenE (W119 k119_4 Q) Q) .normal e w := fun e w h => then_N (s119_4 (R := R) (Q := Q) hR e w h)
  refine block_ok 0 (by kernel_rfl) ?_
  have hX0 : ∀ e w, (m119_4 R (e 0) (e 1) (e 6) (e 7) w) → (inBlockE 0 (thenE (W119 k119_4 Q) Q)) (.exit 0) e w := fun e w h => inBlock_same (Q := (thenE (W119 k119_4 Q) Q)) 0 (hN e w h)
  refine loop_ok' (fun (e : Env) => (e 7, e 8)) [0, 1, 6] (by kernel_rfl) (by kernel_rfl) h (fun K e' w' hk h' => ?_)
  have r0 : e' 0 = e 0 := hk 0 (by decide)
  have r1 : e' 1 = e 1 := hk 1 (by decide)
  have r6 : e' 6 = e 6 := hk 6 (by decide)
  have hX0 : ∀ e w, (m119_4 R (e 0) (e 1) (e 6) (e 7) w) → (thenE (fun (e : Env) w => K ((e 7), (e 8)) w) (inBlockE 0 (thenE (W119 k119_4 Q) Q))) (.exit 0) e w := fun e w h => then_X (hX0 e w h)
  exact s119_6 (R := R) (Q := (thenE (fun (e : Env) w => K ((e 7), (e 8)) w) (inBlockE 0 (thenE (W119 k119_4 Q) Q)))) (K1 := K) (fun _ _ h => then_N h) hX0 e' w' (by rw [r0, r1, r6]; exact h')
theorem s119_2 {R : VP} {Q : EQ} (hR : ∀ e w, (R (Value.tuple #[(e 4), (e 5)]) w) → Q .ret e w) (e : Env) (w : World) (h : m119_2 R (e 0) (e 1) (e 6) w) : W119 k119_2 Q e w := by
  unfold m119_2 at h
  refine seA ?_
  have hN : ∀ e w, (m119_3 R (e 0) (e 1) (e 6) (e 7) (e 8) w) → (thenE (W119 k119_3 Q) Q) .normal e w := fun e w h => then_N (s119_3 (R := R) (Q := Q) hR e w h)
  exact rgA 2 (fun e w => m119_3 R (e 0) (e 1) (e 6) (e 7) (e 8) w) h hN
theorem s119_1 {R : VP} {Q : EQ} (hR : ∀ e w, (R (Value.tuple #[(e 4), (e 5)]) w) → Q .ret e w) (e : Env) (w : World) (h : m119_1 R (e 0) (e 1) w) : W119 k119_1 Q e w := by
  unfold m119_1 at h
  refine seA ?_
  have hN : ∀ e w, (m119_2 R (e 0) (e 1) (e 6) w) → (thenE (W119 k119_2 Q) Q) .normal e w := fun e w h => then_N (s119_2 (R := R) (Q := Q) hR e w h)
  exact rgA 1 (fun e w => m119_2 R (e 0) (e 1) (e 6) w) h hN
theorem s119_0 {R : VP} {Q : EQ} (hR : ∀ e w, (R (Value.tuple #[(e 4), (e 5)]) w) → Q .ret e w) (e : Env) (w : World) (h : m119_0 R (e 0) (e 1) w) : W119 k119_0 Q e w := by
  unfold m119_0 at h
  refine seA ?_
  have hN : ∀ e w, (m119_1 R (e 0) (e 1) w) → (thenE (W119 k119_1 Q) Q) .normal e w := fun e w h => then_N (s119_1 (R := R) (Q := Q) hR e w h)
  exact rgA 0 (fun e w => m119_1 R (e 0) (e 1) w) h hN
abbrev m119 (R : VP) (x0 target1 : Value) (w : World) : Prop := m119_0 R x0 target1 w
theorem s119 (x0 target1 : Value) {R : VP} {w : World} (h : m119 R x0 target1 w) :
    Calls Try.prog 119 #[x0, target1] w fun e w' => ∃ v, e = .returned v ∧ R v w' :=
  calls_of_cwp (st := (fun i => 0)) (c := k119_0) (by kernel_rfl) Try.func119 (by kernel_rfl) (Nat.le_of_ble_eq_true (by kernel_rfl)) (by kernel_rfl)
    (s119_0 (R := R) (Q := endE Try.prog Try.f119 R) (fun e w h => kcast (by kernel_rfl) h) (argsE #[x0, target1]) w (kcast (by kernel_rfl) h))
/-! ### slices.MinFunc[[]int,int] -/
def m120_9 (R : VP) (K1 : (Value × Value) → World → Prop) (x0 cmp1 m5 i6 : Value) (w : World) : Prop :=
  valP Try.prog (binS BinOp.add 3 (Operand.tmp 18) (Operand.const (Value.int IntKind.i64 1)) i6 (Value.int IntKind.i64 1)) w fun t19 w =>
  K1 (m5, t19) w
def m120_10 (R : VP) (K1 : (Value × Value) → World → Prop) (x0 cmp1 m5 i6 t27 : Value) (w : World) : Prop :=
  condP t27
  (valP Try.prog (Instr.indexAt 28 x0 i6) w fun t30 w =>
  valP Try.prog (Instr.loadAt 3 t30) w fun t31 w =>
  m120_9 R K1 x0 cmp1 t31 i6 w)
  (m120_9 R K1 x0 cmp1 m5 i6 w)
def m120_8 (R : VP) (K1 : (Value × Value) → World → Prop) (x0 cmp1 m5 i6 : Value) (w : World) : Prop :=
  valP Try.prog (Instr.indexAt 28 x0 i6) w fun t23 w =>
  valP Try.prog (Instr.loadAt 3 t23) w fun t24 w =>
  callP Try.prog cmp1 #[t24, m5] w fun t26 w =>
  valP Try.prog (binS BinOp.lss 3 (Operand.tmp 26) (Operand.const (Value.int IntKind.i64 0)) t26 (Value.int IntKind.i64 0)) w fun t27 w =>
  m120_10 R K1 x0 cmp1 m5 i6 t27 w
def m120_5 (R : VP) (t4 : Value) (w : World) : Prop :=
  R t4 w
def m120_4 (R : VP) (m5 : Value) (w : World) : Prop :=
  m120_5 R m5 w
def m120_11 (R : VP) (K1 : (Value × Value) → World → Prop) (x0 cmp1 m5 i6 t17 : Value) (w : World) : Prop :=
  condP t17
  (m120_8 R K1 x0 cmp1 m5 i6 w)
  (m120_4 R m5 w)
def m120_7 (R : VP) (K1 : (Value × Value) → World → Prop) (x0 cmp1 m5 i6 : Value) (w : World) : Prop :=
  builtinP Try.prog Builtin.len #[28] 3 #[false] #[x0] w fun t16 w =>
  valP Try.prog (binS BinOp.lss 3 (Operand.tmp 14) (Operand.tmp 16) i6 t16) w fun t17 w =>
  m120_11 R K1 x0 cmp1 m5 i6 t17 w
def m120_6 (R : VP) (x0 cmp1 m5 i6 : Value) (w : World) : Prop :=
  loopP (fun (K1 : (Value × Value) → World → Prop) (s : Value × Value) w => m120_7 R K1 x0 cmp1 s.1 s.2 w) (m5, i6) w
def m120_3 (R : VP) (x0 cmp1 m5 : Value) (w : World) : Prop :=
  m120_6 R x0 cmp1 m5 (Value.int IntKind.i64 1) w
def m120_2 (R : VP) (x0 cmp1 : Value) (w : World) : Prop :=
  valP Try.prog (Instr.indexAt 28 x0 (Value.int IntKind.i64 0)) w fun t12 w =>
  valP Try.prog (Instr.loadAt 3 t12) w fun t13 w =>
  m120_3 R x0 cmp1 t13 w
def m120_12 (R : VP) (x0 cmp1 t9 : Value) (w : World) : Prop :=
  condP t9
  (False)
  (m120_2 R x0 cmp1 w)
def m120_1 (R : VP) (x0 cmp1 : Value) (w : World) : Prop :=
  builtinP Try.prog Builtin.len #[28] 3 #[false] #[x0] w fun t8 w =>
  valP Try.prog (binS BinOp.lss 3 (Operand.tmp 8) (Operand.const (Value.int IntKind.i64 1)) t8 (Value.int IntKind.i64 1)) w fun t9 w =>
  m120_12 R x0 cmp1 t9 w
def m120_0 (R : VP) (x0 cmp1 : Value) (w : World) : Prop :=
  m120_1 R x0 cmp1 w
abbrev W120 := cwp Try.prog (fun i => 0)
noncomputable def k120_0 : Code := (bodyOf Try.f120)
noncomputable def k120_1 : Code := (c2 k120_0)
noncomputable def k120_2 : Code := (c2 k120_1)
noncomputable def k120_3 : Code := (c2 k120_2)
noncomputable def k120_4 : Code := (c2 k120_3)
noncomputable def k120_5 : Code := (c2 k120_4)
noncomputable def k120_6 : Code := (c2 (c1 k120_3))
noncomputable def k120_7 : Code := (c1 (c1 k120_6))
noncomputable def k120_8 : Code := (c2 k120_7)
noncomputable def k120_9 : Code := (c2 k120_8)
noncomputable def k120_10 : Code := (c2 (c1 (c1 k120_8)))
noncomputable def k120_11 : Code := (c2 (c1 k120_7))
noncomputable def k120_12 : Code := (c2 (c1 k120_1))
theorem s120_9 {R : VP} {K1 : (Value × Value) → World → Prop} {Q : EQ} (hN : ∀ e w, (K1 ((e 5), (e 6)) w) → Q .normal e w) (e : Env) (w : World) (h : m120_9 R K1 (e 0) (e 1) (e 5) (e 6) w) : W120 k120_9 Q e w := by
  unfold m120_9 at h
  exact rgA 6 (fun e w => K1 ((e 5), (e 6)) w) h hN
theorem s120_10 {R : VP} {K1 : (Value × Value) → World → Prop} {Q : EQ} (hN : ∀ e w, (m120_9 R K1 (e 0) (e 1) (e 5) (e 6) w) → Q .normal e w) (e : Env) (w : World) (h : m120_10 R K1 (e 0) (e 1) (e 5) (e 6) (e 27) w) : W120 k120_10 Q e w := by
  unfold m120_10 at h
  refine coA (Operand.tmp 27) h (fun h1 => ?_) (fun h1 => ?_)
  · exact rgA 8 (fun e w => m120_9 R K1 (e 0) (e 1) (e 5) (e 6) w) h1 hN
  · exact skA (hN _ _ h1)
theorem s120_8 {R : VP} {K1 : (Value × Value) → World → Prop} {Q : EQ} (hN : ∀ e w, (K1 ((e 5), (e 6)) w) → Q .normal e w) (e : Env) (w : World) (h : m120_8 R K1 (e 0) (e 1) (e 5) (e 6) w) : W120 k120_8 Q e w := by
  unfold m120_8 at h
  refine seA ?_
  have hN : ∀ e w, (m120_9 R K1 (e 0) (e 1) (e 5) (e 6) w) → (thenE (W120 k120_9 Q) Q) .normal e w := fun e w h => then_N (s120_9 (R := R) (Q := Q) (K1 := K1) hN e w h)
  refine block_ok 1 (by kernel_rfl) ?_
  have hN : ∀ e w, (m120_9 R K1 (e 0) (e 1) (e 5) (e 6) w) → (inBlockE 1 (thenE (W120 k120_9 Q) Q)) .normal e w := fun e w h => block_N (hN e w h)
  refine seA ?_
  have hN : ∀ e w, (m120_10 R K1 (e 0) (e 1) (e 5) (e 6) (e 27) w) → (thenE (W120 k120_10 (inBlockE 1 (thenE (W120 k120_9 Q) Q))) (inBlockE 1 (thenE (W120 k120_9 Q) Q))) .normal e w := fun e w h => then_N (s120_10 (R := R) (Q := (inBlockE 1 (thenE (W120 k120_9 Q) Q))) (K1 := K1) hN e w h)
  exact rgA 7 (fun e w => m120_10 R K1 (e 0) (e 1) (e 5) (e 6) (e 27) w) h hN
theorem s120_5 {R : VP} {Q : EQ} (hR : ∀ e w, (R (e 4) w) → Q .ret e w) (e : Env) (w : World) (h : m120_5 R (e 4) w) : W120 k120_5 Q e w := by
  unfold m120_5 at h
  exact reA (hR _ _ h)
theorem s120_4 {R : VP} {Q : EQ} (hR : ∀ e w, (R (e 4) w) → Q .ret e w) (e : Env) (w : World) (h : m120_4 R (e 5) w) : W120 k120_4 Q e w := by
  unfold m120_4 at h
  refine seA ?_
  have hN : ∀ e w, (m120_5 R (e 4) w) → (thenE (W120 k120_5 Q) Q) .normal e w := fun e w h => then_N (s120_5 (R := R) (Q := Q) hR e w h)
  exact rgA 9 (fun e w => m120_5 R (e 4) w) h hN
theorem s120_11 {R : VP} {K1 : (Value × Value) → World → Prop} {Q : EQ} (hN : ∀ e w, (m120_8 R K1 (e 0) (e 1) (e 5) (e 6) w) → Q .normal e w) (hX0 : ∀ e w, (m120_4 R (e 5) w) → Q (.exit 0) e w) (e : Env) (w : World) (h : m120_11 R K1 (e 0) (e 1) (e 5) (e 6) (e 17) w) : W120 k120_11 Q e w := by
  unfold m120_11 at h
  refine coA (Operand.tmp 17) h (fun h1 => ?_) (fun h1 => ?_)
  · exact skA (hN _ _ h1)
  · exact exA 0 (hX0 _ _ h1)
theorem s120_7 {R : VP} {K1 : (Value × Value) → World → Prop} {Q : EQ} (hN : ∀ e w, (K1 ((e 5), (e 6)) w) → Q .normal e w) (hX0 : ∀ e w, (m120_4 R (e 5) w) → Q (.exit 0) e w) (e : Env) (w : World) (h : m120_7 R K1 (e 0) (e 1) (e 5) (e 6) w) : W120 k120_7 Q e w := by
  unfold m120_7 at h
  refine seA ?_
  have hN : ∀ e w, (m120_8 R K1 (e 0) (e 1) (e 5) (e 6) w) → (thenE (W120 k120_8 Q) Q) .normal e w := fun e w h => then_N (s120_8 (R := R) (Q := Q) (K1 := K1) hN e w h)
  have hX0 : ∀ e w, (m120_4 R (e 5) w) → (thenE (W120 k120_8 Q) Q) (.exit 0) e w := fun e w h => then_X (hX0 e w h)
  refine seA ?_
  have hN : ∀ e w, (m120_11 R K1 (e 0) (e 1) (e 5) (e 6) (e 17) w) → (thenE (W120 k120_11 (thenE (W120 k120_8 Q) Q)) (thenE (W120 k120_8 Q) Q)) .normal e w := fun e w h => then_N (s120_11 (R := R) (Q := (thenE (W120 k120_8 Q) Q)) (K1 := K1) hN hX0 e w h)
  exact rgA 5 (fun e w => m120_11 R K1 (e 0) (e 1) (e 5) (e 6) (e 17) w) h hN
theorem s120_6 {R : VP} {Q : EQ} (hN : ∀ e w, (m120_4 R (e 5) w) → Q .normal e w) (e : Env) (w : World) (h : m120_6 R (e 0) (e 1) (e 5) (e 6) w) : W120 k120_6 Q e w := by
  unfold m120_6 at h
  refine block_ok 0 (by kernel_rfl) ?_
  have hX0 : ∀ e w, (m120_4 R (e 5) w) → (inBlockE 0 Q) (.exit 0) e w := fun e w h => inBlock_same (Q := Q) 0 (hN e w h)
  refine loop_ok' (fun (e : Env) => (e 5, e 6)) [0, 1] (by kernel_rfl) (by kernel_rfl) h (fun K e' w' hk h' => ?_)
  have r0 : e' 0 = e 0 := hk 0 (by decide)
  have r1 : e' 1 = e 1 := hk 1 (by decide)
  have hX0 : ∀ e w, (m120_4 R (e 5) w) → (thenE (fun (e : Env) w => K ((e 5), (e 6)) w) (inBlockE 0 Q)) (.exit 0) e w := fun e w h => then_X (hX0 e w h)
  exact s120_7 (R := R) (Q := (thenE (fun (e : Env) w => K ((e 5), (e 6)) w) (inBlockE 0 Q))) (K1 := K) (fun _ _ h => then_N h) hX0 e' w' (by rw [r0, r1]; exact h')
theorem s120_3 {R : VP} {Q : EQ} (hR : ∀ e w, (R (e 4) w) → Q .ret e w) (e : Env) (w : World) (h : m120_3 R (e 0) (e 1) (e 5) w) : W120 k120_3 Q e w := by
  unfold m120_3 at h
  refine seA ?_
  have hN : ∀ e w, (m120_4 R (e 5) w) → (thenE (W120 k120_4 Q) Q) .normal e w := fun e w h => then_N (s120_4 (R := R) (Q := Q) hR e w h)
  refine seA ?_
  have hN : ∀ e w, (m120_6 R (e 0) (e 1) (e 5) (e 6) w) → (thenE (W120 k120_6 (thenE (W120 k120_4 Q) Q)) (thenE (W120 k120_4 Q) Q)) .normal e w := fun e w h => then_N (s120_6 (R := R) (Q := (thenE (W120 k120_4 Q) Q)) hN e w h)
  exact rgA 4 (fun e w => m120_6 R (e 0) (e 1) (e 5) (e 6) w) h hN
theorem s120_2 {R : VP} {Q : EQ} (hR : ∀ e w, (R (e 4) w) → Q .ret e w) (e : Env) (w : World) (h : m120_2 R (e 0) (e 1) w) : W120 k120_2 Q e w := by
  unfold m120_2 at h
  refine seA ?_
  have hN : ∀ e w, (m120_3 R (e 0) (e 1) (e 5) w) → (thenE (W120 k120_3 Q) Q) .normal e w := fun e w h => then_N (s120_3 (R := R) (Q := Q) hR e w h)
  exact rgA 3 (fun e w => m120_3 R (e 0) (e 1) (e 5) w) h hN
theorem s120_12 {R : VP} {Q : EQ} (hN : ∀ e w, (m120_2 R (e 0) (e 1) w) → Q .normal e w) (e : Env) (w : World) (h : m120_12 R (e 0) (e 1) (e 9) w) : W120 k120_12 Q e w := by
  unfold m120_12 at h
  refine coA (Operand.tmp 9) h (fun h1 => ?_) (fun h1 => ?_)
  · exact rgA 2 (fun e w => m120_2 R (e 0) (e 1) w) h1 hN
  · exact skA (hN _ _ h1)
theorem s120_1 {R : VP} {Q : EQ} (hR : ∀ e w, (R (e 4) w) → Q .ret e w) (e : Env) (w : World) (h : m120_1 R (e 0) (e 1) w) : W120 k120_1 Q e w := by
  unfold m120_1 at h
  refine seA ?_
  have hN : ∀ e w, (m120_2 R (e 0) (e 1) w) → (thenE (W120 k120_2 Q) Q) .normal e w := fun e w h => then_N (s120_2 (R := R) (Q := Q) hR e w h)
  refine seA ?_
  have hN : ∀ e w, (m120_12 R (e 0) (e 1) (e 9) w) → (thenE (W120 k120_12 (thenE (W120 k120_2 Q) Q)) (thenE (W120 k120_2 Q) Q)) .normal e w := fun e w h => then_N (s120_12 (R := R) (Q := (thenE (W120 k120_2 Q) Q)) hN e w h)
  exact rgA 1 (fun e w => m120_12 R (e 0) (e 1) (e 9) w) h hN
theorem s120_0 {R : VP} {Q : EQ} (hR : ∀ e w, (R (e 4) w) → Q .ret e w) (e : Env) (w : World) (h : m120_0 R (e 0) (e 1) w) : W120 k120_0 Q e w := by
  unfold m120_0 at h
  refine seA ?_
  have hN : ∀ e w, (m120_1 R (e 0) (e 1) w) → (thenE (W120 k120_1 Q) Q) .normal e w := fun e w h => then_N (s120_1 (R := R) (Q := Q) hR e w h)
  exact rgA 0 (fun e w => m120_1 R (e 0) (e 1) w) h hN
abbrev m120 (R : VP) (x0 cmp1 : Value) (w : World) : Prop := m120_0 R x0 cmp1 w
theorem s120 (x0 cmp1 : Value) {R : VP} {w : World} (h : m120 R x0 cmp1 w) :
    Calls Try.prog 120 #[x0, cmp1] w fun e w' => ∃ v, e = .returned v ∧ R v w' :=
  calls_of_cwp (st := (fun i => 0)) (c := k120_0) (by kernel_rfl) Try.func120 (by kernel_rfl) (Nat.le_of_ble_eq_true (by kernel_rfl)) (by kernel_rfl)
    (s120_0 (R := R) (Q := endE Try.prog Try.f120 R) (fun e w h => kcast (by kernel_rfl) h) (argsE #[x0, cmp1]) w (kcast (by kernel_rfl) h))
/-! ### (*headgate/assign.shares).least$1 -/
def m121_2 (R : VP) (t5 : Value) (w : World) : Prop :=
  R t5 w
def m121_1 (R : VP) (a0 b1 t2 : Value) (w : World) : Prop :=
  valQ Try.prog (Instr.loadAt 126 t2) w fun t6 =>
  nilCheckP t6 fun t7 =>
  valQ Try.prog (Instr.fieldAt 131 t7 1) w fun t8 =>
  valQ Try.prog (Instr.loadAt 129 t8) w fun t9 =>
  valQ Try.prog (Instr.lookup 129 t9 a0 false) w fun t11 =>
  valQ Try.prog (Instr.loadAt 126 t2) w fun t12 =>
  nilCheckP t12 fun t13 =>
  valQ Try.prog (Instr.fieldAt 131 t13 1) w fun t14 =>
  valQ Try.prog (Instr.loadAt 129 t14) w fun t15 =>
  valQ Try.prog (Instr.lookup 129 t15 b1 false) w fun t17 =>
  valQ Try.prog (binS BinOp.sub 3 (Operand.tmp 11) (Operand.tmp 17) t11 t17) w fun t18 =>
  anyDraw w fun w =>
  m121_2 R t18 w
def m121_0 (R : VP) (a0 b1 t2 : Value) (w : World) : Prop :=
  m121_1 R a0 b1 t2 w
abbrev W121 := cwp Try.prog (fun i => cond (Nat.beq i 1) 1 (0))
noncomputable def k121_0 : Code := (bodyOf Try.f121)
noncomputable def k121_1 : Code := (c2 k121_0)
noncomputable def k121_2 : Code := (c2 k121_1)
theorem s121_2 {R : VP} {Q : EQ} (hR : ∀ e w, (R (e 5) w) → Q .ret e w) (e : Env) (w : World) (h : m121_2 R (e 5) w) : W121 k121_2 Q e w := by
  unfold m121_2 at h
  exact reA (hR _ _ h)
theorem s121_1 {R : VP} {Q : EQ} (hR : ∀ e w, (R (e 5) w) → Q .ret e w) (e : Env) (w : World) (h : m121_1 R (e 0) (e 1) (e 2) w) : W121 k121_1 Q e w := by
  unfold m121_1 at h
  refine seA ?_
  have hN : ∀ e w, (m121_2 R (e 5) w) → (thenE (W121 k121_2 Q) Q) .normal e w := fun e w h => then_N (s121_2 (R := R) (Q := Q) hR e w h)
  exact quA 1 (fun e w => m121_2 R (e 5) w) h hN
theorem s121_0 {R : VP} {Q : EQ} (hR : ∀ e w, (R (e 5) w) → Q .ret e w) (e : Env) (w : World) (h : m121_0 R (e 0) (e 1) (e 2) w) : W121 k121_0 Q e w := by
  unfold m121_0 at h
  refine seA ?_
  have hN : ∀ e w, (m121_1 R (e 0) (e 1) (e 2) w) → (thenE (W121 k121_1 Q) Q) .normal e w := fun e w h => then_N (s121_1 (R := R) (Q := Q) hR e w h)
  exact rgA 0 (fun e w => m121_1 R (e 0) (e 1) (e 2) w) h hN
abbrev m121 (R : VP) (a0 b1 t2 : Value) (w : World) : Prop := m121_0 R a0 b1 t2 w
theorem s121 (a0 b1 t2 : Value) {R : VP} {w : World} (h : m121 R a0 b1 t2 w) :
    Calls Try.prog 121 #[a0, b1, t2] w fun e w' => ∃ v, e = .returned v ∧ R v w' :=
  calls_of_cwp (st := (fun i => cond (Nat.beq i 1) 1 (0))) (c := k121_0) (by kernel_rfl) Try.func121 (by kernel_rfl) (Nat.le_of_ble_eq_true (by kernel_rfl)) (by kernel_rfl)
    (s121_0 (R := R) (Q := endE Try.prog Try.f121 R) (fun e w h => kcast (by kernel_rfl) h) (argsE #[a0, b1, t2]) w (kcast (by kernel_rfl) h))
/-! ### (*headgate/assign.shares).keeps -/
def m100_13 (R : VP) (t4 : Value) (w : World) : Prop :=
  R t4 w
def m100_10 (R : VP) (t4 : Value) (w : World) : Prop :=
  R t4 w
def m100_7 (R : VP) (t4 : Value) (w : World) : Prop :=
  R t4 w
def m100_6 (R : VP) (w : World) : Prop :=
  m100_7 R (Value.bool true) w
def m100_5 (R : VP) (s0 m1 : Value) (w : World) : Prop :=
  nilCheckP s0 fun t60 =>
  valP Try.prog (Instr.fieldAt 131 t60 1) w fun t61 w =>
  valP Try.prog (Instr.loadAt 129 t61) w fun t62 w =>
  valP Try.prog (Instr.lookup 129 t62 m1 false) w fun t64 w =>
  valP Try.prog (binS BinOp.add 3 (Operand.tmp 64) (Operand.const (Value.int IntKind.i64 1)) t64 (Value.int IntKind.i64 1)) w fun t65 w =>
  unitP Try.prog (Instr.mapUpdate 129 t62 m1 t65) w fun _ w =>
  m100_6 R w
def m100_8 (R : VP) (s0 m1 t51 : Value) (w : World) : Prop :=
  condP t51
  (nilCheckP s0 fun t53 =>
  valP Try.prog (Instr.fieldAt 131 t53 3) w fun t54 w =>
  valP Try.prog (Instr.loadAt 3 t54) w fun t55 w =>
  valP Try.prog (binS BinOp.sub 3 (Operand.tmp 55) (Operand.const (Value.int IntKind.i64 1)) t55 (Value.int IntKind.i64 1)) w fun t56 w =>
  nilCheckP s0 fun t57 =>
  valP Try.prog (Instr.fieldAt 131 t57 3) w fun t58 w =>
  unitP Try.prog (Instr.storeAt 3 t58 t56) w fun _ w =>
  m100_5 R s0 m1 w)
  (m100_5 R s0 m1 w)
def m100_4 (R : VP) (s0 m1 n7 : Value) (w : World) : Prop :=
  nilCheckP s0 fun t48 =>
  valP Try.prog (Instr.fieldAt 131 t48 2) w fun t49 w =>
  valP Try.prog (Instr.loadAt 3 t49) w fun t50 w =>
  valP Try.prog (binS BinOp.eql 3 (Operand.tmp 46) (Operand.tmp 50) n7 t50) w fun t51 w =>
  m100_8 R s0 m1 t51 w
def m100_9 (R : VP) (s0 m1 n7 t45 : Value) (w : World) : Prop :=
  condP t45
  (m100_10 R (Value.bool false) w)
  (m100_4 R s0 m1 n7 w)
def m100_3 (R : VP) (s0 m1 n7 : Value) (w : World) : Prop :=
  nilCheckP s0 fun t27 =>
  valP Try.prog (Instr.fieldAt 131 t27 2) w fun t28 w =>
  valP Try.prog (Instr.loadAt 3 t28) w fun t29 w =>
  valP Try.prog (binS BinOp.gtr 3 (Operand.tmp 25) (Operand.tmp 29) n7 t29) w fun t30 w =>
  condP t30
  (pickP t30 (Value.bool true) undef fun t45 =>
  m100_9 R s0 m1 n7 t45 w)
  (nilCheckP s0 fun t34 =>
  valP Try.prog (Instr.fieldAt 131 t34 2) w fun t35 w =>
  valP Try.prog (Instr.loadAt 3 t35) w fun t36 w =>
  valP Try.prog (binS BinOp.eql 3 (Operand.tmp 32) (Operand.tmp 36) n7 t36) w fun t37 w =>
  condP t37
  (nilCheckP s0 fun t40 =>
  valP Try.prog (Instr.fieldAt 131 t40 3) w fun t41 w =>
  valP Try.prog (Instr.loadAt 3 t41) w fun t42 w =>
  valP Try.prog (binS BinOp.eql 3 (Operand.tmp 42) (Operand.const (Value.int IntKind.i64 0)) t42 (Value.int IntKind.i64 0)) w fun t43 w =>
  pickP t37 t43 (Value.bool false) fun t44 =>
  pickP t30 (Value.bool true) t44 fun t45 =>
  m100_9 R s0 m1 n7 t45 w)
  (pickP t37 undef (Value.bool false) fun t44 =>
  pickP t30 (Value.bool true) t44 fun t45 =>
  m100_9 R s0 m1 n7 t45 w))
def m100_2 (R : VP) (s0 m1 : Value) (w : World) : Prop :=
  nilCheckP s0 fun t20 =>
  valP Try.prog (Instr.fieldAt 131 t20 1) w fun t21 w =>
  valP Try.prog (Instr.loadAt 129 t21) w fun t22 w =>
  valP Try.prog (Instr.lookup 129 t22 m1 false) w fun t24 w =>
  m100_3 R s0 m1 t24 w
def m100_12 (R : VP) (s0 m1 t18 : Value) (w : World) : Prop :=
  condP t18
  (m100_13 R (Value.bool false) w)
  (m100_2 R s0 m1 w)
def m100_11 (R : VP) (s0 m1 ok6 : Value) (w : World) : Prop :=
  valP Try.prog (Op.unary UnOp.not ok6) w fun t18 w =>
  m100_12 R s0 m1 t18 w
def m100_1 (R : VP) (s0 m1 : Value) (w : World) : Prop :=
  nilCheckP s0 fun t10 =>
  valP Try.prog (Instr.fieldAt 131 t10 0) w fun t11 w =>
  valP Try.prog (Instr.loadAt 28 t11) w fun t12 w =>
  callP Try.prog (fnV 119) #[t12, m1] w fun t14 w =>
  valP Try.prog (Instr.extract t14 0) w fun t15 w =>
  valP Try.prog (Instr.extract t14 1) w fun t16 w =>
  m100_11 R s0 m1 t16 w
def m100_0 (R : VP) (s0 m1 : Value) (w : World) : Prop :=
  m100_1 R s0 m1 w
abbrev W100 := cwp Try.prog (fun i => 0)
noncomputable def k100_0 : Code := (bodyOf Try.f100)
noncomputable def k100_1 : Code := (c2 k100_0)
noncomputable def k100_2 : Code := (c2 k100_1)
noncomputable def k100_3 : Code := (c2 k100_2)
noncomputable def k100_4 : Code := (c2 k100_3)
noncomputable def k100_5 : Code := (c2 k100_4)
noncomputable def k100_6 : Code := (c2 k100_5)
noncomputable def k100_7 : Code := (c2 k100_6)
noncomputable def k100_8 : Code := (c2 (c1 k100_4))
noncomputable def k100_9 : Code := (c2 (c1 k100_3))
noncomputable def k100_10 : Code := (c2 (c1 k100_9))
noncomputable def k100_11 : Code := (c2 (c1 k100_1))
noncomputable def k100_12 : Code := (c2 k100_11)
noncomputable def k100_13 : Code := (c2 (c1 k100_12))
theorem s100_13 {R : VP} {Q : EQ} (hR : ∀ e w, (R (e 4) w) → Q .ret e w) (e : Env) (w : World) (h : m100_13 R (e 4) w) : W100 k100_13 Q e w := by
  unfold m100_13 at h
  exact reA (hR _ _ h)
theorem s100_10 {R : VP} {Q : EQ} (hR : ∀ e w, (R (e 4) w) → Q .ret e w) (e : Env) (w : World) (h : m100_10 R (e 4) w) : W100 k100_10 Q e w := by
  unfold m100_10 at h
  exact reA (hR _ _ h)
theorem s100_7 {R : VP} {Q : EQ} (hR : ∀ e w, (R (e 4) w) → Q .ret e w) (e : Env) (w : World) (h : m100_7 R (e 4) w) : W100 k100_7 Q e w := by
  unfold m100_7 at h
  exact reA (hR _ _ h)
theorem s100_6 {R : VP} {Q : EQ} (hR : ∀ e w, (R (e 4) w) → Q .ret e w) (e : Env) (w : World) (h : m100_6 R w) : W100 k100_6 Q e w := by
  unfold m100_6 at h
  refine seA ?_
  have hN : ∀ e w, (m100_7 R (e 4) w) → (thenE (W100 k100_7 Q) Q) .normal e w := fun e w h => then_N (s100_7 (R := R) (Q := Q) hR e w h)
  exact rgA 10 (fun e w => m100_7 R (e 4) w) h hN
theorem s100_5 {R : VP} {Q : EQ} (hR : ∀ e w, (R (e 4) w) → Q .ret e w) (e : Env) (w : World) (h : m100_5 R (e 0) (e 1) w) : W100 k100_5 Q e w := by
  unfold m100_5 at h
  refine seA ?_
  have hN : ∀ e w, (m100_6 R w) → (thenE (W100 k100_6 Q) Q) .normal e w := fun e w h => then_N (s100_6 (R := R) (Q := Q) hR e w h)
  exact rgA 9 (fun e w => m100_6 R w) h hN
theorem s100_8 {R : VP} {Q : EQ} (hN : ∀ e w, (m100_5 R (e 0) (e 1) w) → Q .normal e w) (e : Env) (w : World) (h : m100_8 R (e 0) (e 1) (e 51) w) : W100 k100_8 Q e w := by
  unfold m100_8 at h
  refine coA (Operand.tmp 51) h (fun h1 => ?_) (fun h1 => ?_)
  · exact rgA 8 (fun e w => m100_5 R (e 0) (e 1) w) h1 hN
  · exact skA (hN _ _ h1)
theorem s100_4 {R : VP} {Q : EQ} (hR : ∀ e w, (R (e 4) w) → Q .ret e w) (e : Env) (w : World) (h : m100_4 R (e 0) (e 1) (e 7) w) : W100 k100_4 Q e w := by
  unfold m100_4 at h
  refine seA ?_
  have hN : ∀ e w, (m100_5 R (e 0) (e 1) w) → (thenE (W100 k100_5 Q) Q) .normal e w := fun e w h => then_N (s100_5 (R := R) (Q := Q) hR e w h)
  refine seA ?_
  have hN : ∀ e w, (m100_8 R (e 0) (e 1) (e 51) w) → (thenE (W100 k100_8 (thenE (W100 k100_5 Q) Q)) (thenE (W100 k100_5 Q) Q)) .normal e w := fun e w h => then_N (s100_8 (R := R) (Q := (thenE (W100 k100_5 Q) Q)) hN e w h)
  exact rgA 7 (fun e w => m100_8 R (e 0) (e 1) (e 51) w) h hN
theorem s100_9 {R : VP} {Q : EQ} (hN : ∀ e w, (m100_4 R (e 0) (e 1) (e 7) w) → Q .normal e w) (hR : ∀ e w, (R (e 4) w) → Q .ret e w) (e : Env) (w : World) (h : m100_9 R (e 0) (e 1) (e 7) (e 45) w) : W100 k100_9 Q e w := by
  unfold m100_9 at h
  refine coA (Operand.tmp 45) h (fun h1 => ?_) (fun h1 => ?_)
  · refine seA ?_
    have hN : ∀ e w, (m100_10 R (e 4) w) → (thenE (W100 k100_10 Q) Q) .normal e w := fun e w h => then_N (s100_10 (R := R) (Q := Q) hR e w h)
    exact rgA 6 (fun e w => m100_10 R (e 4) w) h1 hN
  · exact skA (hN _ _ h1)
theorem s100_3 {R : VP} {Q : EQ} (hR : ∀ e w, (R (e 4) w) → Q .ret e w) (e : Env) (w : World) (h : m100_3 R (e 0) (e 1) (e 7) w) : W100 k100_3 Q e w := by
  unfold m100_3 at h
  refine seA ?_
  have hN : ∀ e w, (m100_4 R (e 0) (e 1) (e 7) w) → (thenE (W100 k100_4 Q) Q) .normal e w := fun e w h => then_N (s100_4 (R := R) (Q := Q) hR e w h)
  have hR : ∀ e w, (R (e 4) w) → (thenE (W100 k100_4 Q) Q) .ret e w := fun e w h => then_R (hR e w h)
  refine seA ?_
  have hN : ∀ e w, (m100_9 R (e 0) (e 1) (e 7) (e 45) w) → (thenE (W100 k100_9 (thenE (W100 k100_4 Q) Q)) (thenE (W100 k100_4 Q) Q)) .normal e w := fun e w h => then_N (s100_9 (R := R) (Q := (thenE (W100 k100_4 Q) Q)) hN hR e w h)
  exact rgA 5 (fun e w => m100_9 R (e 0) (e 1) (e 7) (e 45) w) h hN
theorem s100_2 {R : VP} {Q : EQ} (hR : ∀ e w, (R (e 4) w) → Q .ret e w) (e : Env) (w : World) (h : m100_2 R (e 0) (e 1) w) : W100 k100_2 Q e w := by
  unfold m100_2 at h
  refine seA ?_
  have hN : ∀ e w, (m100_3 R (e 0) (e 1) (e 7) w) → (thenE (W100 k100_3 Q) Q) .normal e w := fun e w h => then_N (s100_3 (R := R) (Q := Q) hR e w h)
  exact rgA 4 (fun e w => m100_3 R (e 0) (e 1) (e 7) w) h hN
theorem s100_12 {R : VP} {Q : EQ} (hN : ∀ e w, (m100_2 R (e 0) (e 1) w) → Q .normal e w) (hR : ∀ e w, (R (e 4) w) → Q .ret e w) (e : Env) (w : World) (h : m100_12 R (e 0) (e 1) (e 18) w) : W100 k100_12 Q e w := by
  unfold m100_12 at h
  refine coA (Operand.tmp 18) h (fun h1 => ?_) (fun h1 => ?_)
  · refine seA ?_
    have hN : ∀ e w, (m100_13 R (e 4) w) → (thenE (W100 k100_13 Q) Q) .normal e w := fun e w h => then_N (s100_13 (R := R) (Q := Q) hR e w h)
    exact rgA 3 (fun e w => m100_13 R (e 4) w) h1 hN
  · exact skA (hN _ _ h1)
theorem s100_11 {R : VP} {Q : EQ} (hN : ∀ e w, (m100_2 R (e 0) (e 1) w) → Q .normal e w) (hR : ∀ e w, (R (e 4) w) → Q .ret e w) (e : Env) (w : World) (h : m100_11 R (e 0) (e 1) (e 6) w) : W100 k100_11 Q e w := by
  unfold m100_11 at h
  refine seA ?_
  have hN : ∀ e w, (m100_12 R (e 0) (e 1) (e 18) w) → (thenE (W100 k100_12 Q) Q) .normal e w := fun e w h => then_N (s100_12 (R := R) (Q := Q) hN hR e w h)
  exact rgA 2 (fun e w => m100_12 R (e 0) (e 1) (e 18) w) h hN
theorem s100_1 {R : VP} {Q : EQ} (hR : ∀ e w, (R (e 4) w) → Q .ret e w) (e : Env) (w : World) (h : m100_1 R (e 0) (e 1) w) : W100 k100_1 Q e w := by
  unfold m100_1 at h
  refine seA ?_
  have hN : ∀ e w, (m100_2 R (e 0) (e 1) w) → (thenE (W100 k100_2 Q) Q) .normal e w := fun e w h => then_N (s100_2 (R := R) (Q := Q) hR e w h)
  have hR : ∀ e w, (R (e 4) w) → (thenE (W100 k100_2 Q) Q) .ret e w := fun e w h => then_R (hR e w h)
  refine seA ?_
  have hN : ∀ e w, (m100_11 R (e 0) (e 1) (e 6) w) → (thenE (W100 k100_11 (thenE (W100 k100_2 Q) Q)) (thenE (W100 k100_2 Q) Q)) .normal e w := fun e w h => then_N (s100_11 (R := R) (Q := (thenE (W100 k100_2 Q) Q)) hN hR e w h)
  exact rgA 1 (fun e w => m100_11 R (e 0) (e 1) (e 6) w) h hN
theorem s100_0 {R : VP} {Q : EQ} (hR : ∀ e w, (R (e 4) w) → Q .ret e w) (e : Env) (w : World) (h : m100_0 R (e 0) (e 1) w) : W100 k100_0 Q e w := by
  unfold m100_0 at h
  refine seA ?_
  have hN : ∀ e w, (m100_1 R (e 0) (e 1) w) → (thenE (W100 k100_1 Q) Q) .normal e w := fun e w h => then_N (s100_1 (R := R) (Q := Q) hR e w h)
  exact rgA 0 (fun e w => m100_1 R (e 0) (e 1) w) h hN
abbrev m100 (R : VP) (s0 m1 : Value) (w : World) : Prop := m100_0 R s0 m1 w
theorem s100 (s0 m1 : Value) {R : VP} {w : World} (h : m100 R s0 m1 w) :
    Calls Try.prog 100 #[s0, m1] w fun e w' => ∃ v, e = .returned v ∧ R v w' :=
  calls_of_cwp (st := (fun i => 0)) (c := k100_0) (by kernel_rfl) Try.func100 (by kernel_rfl) (Nat.le_of_ble_eq_true (by kernel_rfl)) (by kernel_rfl)
    (s100_0 (R := R) (Q := endE Try.prog Try.f100 R) (fun e w h => kcast (by kernel_rfl) h) (argsE #[s0, m1]) w (kcast (by kernel_rfl) h))
/-! ### (*headgate/assign.shares).least -/
def m101_2 (R : VP) (t2 : Value) (w : World) : Prop :=
  R t2 w
def m101_1 (R : VP) (s1 : Value) (w : World) : Prop :=
  valP Try.prog (Instr.loadAt 126 s1) w fun t3 w =>
  nilCheckP t3 fun t4 =>
  valP Try.prog (Instr.fieldAt 131 t4 0) w fun t5 w =>
  valP Try.prog (Instr.loadAt 28 t5) w fun t6 w =>
  valP Try.prog (Instr.makeFunc (Fn.func 121) #[] #[s1]) w fun t7 w =>
  callP Try.prog (fnV 120) #[t6, t7] w fun t8 w =>
  m101_2 R t8 w
def m101_0 (R : VP) (s0 : Value) (w : World) : Prop :=
  valP Try.prog (Instr.box 126 s0) w fun s1 w =>
  m101_1 R s1 w
abbrev W101 := cwp Try.prog (fun i => 0)
noncomputable def k101_0 : Code := (bodyOf Try.f101)
noncomputable def k101_1 : Code := (c2 k101_0)
noncomputable def k101_2 : Code := (c2 k101_1)
theorem s101_2 {R : VP} {Q : EQ} (hR : ∀ e w, (R (e 2) w) → Q .ret e w) (e : Env) (w : World) (h : m101_2 R (e 2) w) : W101 k101_2 Q e w := by
  unfold m101_2 at h
  exact reA (hR _ _ h)
theorem s101_1 {R : VP} {Q : EQ} (hR : ∀ e w, (R (e 2) w) → Q .ret e w) (e : Env) (w : World) (h : m101_1 R (e 1) w) : W101 k101_1 Q e w := by
  unfold m101_1 at h
  refine seA ?_
  have hN : ∀ e w, (m101_2 R (e 2) w) → (thenE (W101 k101_2 Q) Q) .normal e w := fun e w h => then_N (s101_2 (R := R) (Q := Q) hR e w h)
  exact rgA 1 (fun e w => m101_2 R (e 2) w) h hN
theorem s101_0 {R : VP} {Q : EQ} (hR : ∀ e w, (R (e 2) w) → Q .ret e w) (e : Env) (w : World) (h : m101_0 R (e 0) w) : W101 k101_0 Q e w := by
  unfold m101_0 at h
  refine seA ?_
  have hN : ∀ e w, (m101_1 R (e 1) w) → (thenE (W101 k101_1 Q) Q) .normal e w := fun e w h => then_N (s101_1 (R := R) (Q := Q) hR e w h)
  exact rgA 0 (fun e w => m101_1 R (e 1) w) h hN
abbrev m101 (R : VP) (s0 : Value) (w : World) : Prop := m101_0 R s0 w
theorem s101 (s0 : Value) {R : VP} {w : World} (h : m101 R s0 w) :
    Calls Try.prog 101 #[s0] w fun e w' => ∃ v, e = .returned v ∧ R v w' :=
  calls_of_cwp (st := (fun i => 0)) (c := k101_0) (by kernel_rfl) Try.func101 (by kernel_rfl) (Nat.le_of_ble_eq_true (by kernel_rfl)) (by kernel_rfl)
    (s101_0 (R := R) (Q := endE Try.prog Try.f101 R) (fun e w h => kcast (by kernel_rfl) h) (argsE #[s0]) w (kcast (by kernel_rfl) h))
/-! ### slices.Compact[[]int,int] -/
def m118_23 (R : VP) (t2 : Value) (w : World) : Prop :=
  R t2 w
def m118_17 (R : VP) (K1 : VP) (K2 : (Value × Value) → World → Prop) (s0 k3 s24 k25 : Value) (w : World) : Prop :=
  valP Try.prog (binS BinOp.add 3 (Operand.tmp 33) (Operand.const (Value.int IntKind.i64 1)) k25 (Value.int IntKind.i64 1)) w fun t34 w =>
  K2 (k3, t34) w
def m118_19 (R : VP) (K1 : VP) (K2 : (Value × Value) → World → Prop) (s0 k3 s24 k25 : Value) (w : World) : Prop :=
  valP Try.prog (binS BinOp.add 3 (Operand.tmp 52) (Operand.const (Value.int IntKind.i64 1)) k3 (Value.int IntKind.i64 1)) w fun t53 w =>
  m118_17 R K1 K2 s0 t53 s24 k25 w
def m118_18 (R : VP) (K1 : VP) (K2 : (Value × Value) → World → Prop) (s0 k3 s24 k25 t44 : Value) (w : World) : Prop :=
  condP t44
  (valP Try.prog (Instr.indexAt 28 s24 k25) w fun t49 w =>
  valP Try.prog (Instr.loadAt 3 t49) w fun t50 w =>
  valP Try.prog (Instr.indexAt 28 s0 k3) w fun t51 w =>
  unitP Try.prog (Instr.storeAt 3 t51 t50) w fun _ w =>
  m118_19 R K1 K2 s0 k3 s24 k25 w)
  (m118_17 R K1 K2 s0 k3 s24 k25 w)
def m118_16 (R : VP) (K1 : VP) (K2 : (Value × Value) → World → Prop) (s0 k3 s24 k25 : Value) (w : World) : Prop :=
  valQ Try.prog (Instr.indexAt 28 s24 k25) w fun t37 =>
  valQ Try.prog (Instr.loadAt 3 t37) w fun t38 =>
  valQ Try.prog (binS BinOp.sub 3 (Operand.tmp 40) (Operand.const (Value.int IntKind.i64 1)) k25 (Value.int IntKind.i64 1)) w fun t41 =>
  valQ Try.prog (Instr.indexAt 28 s24 t41) w fun t42 =>
  valQ Try.prog (Instr.loadAt 3 t42) w fun t43 =>
  valQ Try.prog (binS BinOp.neq 3 (Operand.tmp 38) (Operand.tmp 43) t38 t43) w fun t44 =>
  anyDraw w fun w =>
  m118_18 R K1 K2 s0 k3 s24 k25 t44 w
def m118_13 (R : VP) (K1 : VP) (t2 : Value) (w : World) : Prop :=
  R t2 w
def m118_12 (R : VP) (K1 : VP) (s0 k3 : Value) (w : World) : Prop :=
  valP Try.prog (Instr.sliceAt 28 s0 none (some k3) none) w fun t59 w =>
  m118_13 R K1 t59 w
def m118_11 (R : VP) (K1 : VP) (s0 k3 : Value) (w : World) : Prop :=
  valP Try.prog (Instr.sliceAt 28 s0 (some k3) none none) w fun t56 w =>
  builtinP Try.prog Builtin.clear #[28] 0 #[false] #[t56] w fun _ w =>
  m118_12 R K1 s0 k3 w
def m118_20 (R : VP) (K1 : VP) (K2 : (Value × Value) → World → Prop) (s0 k3 s24 k25 t32 : Value) (w : World) : Prop :=
  condP t32
  (m118_16 R K1 K2 s0 k3 s24 k25 w)
  (m118_11 R K1 s0 k3 w)
def m118_15 (R : VP) (K1 : VP) (K2 : (Value × Value) → World → Prop) (s0 k3 s24 k25 : Value) (w : World) : Prop :=
  builtinP Try.prog Builtin.len #[28] 3 #[false] #[s24] w fun t31 w =>
  valP Try.prog (binS BinOp.lss 3 (Operand.tmp 29) (Operand.tmp 31) k25 t31) w fun t32 w =>
  m118_20 R K1 K2 s0 k3 s24 k25 t32 w
def m118_14 (R : VP) (K1 : VP) (s0 k3 s24 k25 : Value) (w : World) : Prop :=
  loopP (fun (K2 : (Value × Value) → World → Prop) (s : Value × Value) w => m118_15 R K1 K2 s0 s.1 s24 s.2 w) (k3, k25) w
def m118_10 (R : VP) (K1 : VP) (s0 k3 s24 : Value) (w : World) : Prop :=
  m118_14 R K1 s0 k3 s24 (Value.int IntKind.i64 1) w
def m118_8 (R : VP) (K1 : VP) (s0 k3 : Value) (w : World) : Prop :=
  valP Try.prog (binS BinOp.add 3 (Operand.tmp 14) (Operand.const (Value.int IntKind.i64 1)) k3 (Value.int IntKind.i64 1)) w fun t15 w =>
  K1 t15 w
def m118_9 (R : VP) (K1 : VP) (s0 k3 t25 : Value) (w : World) : Prop :=
  condP t25
  (valP Try.prog (Instr.sliceAt 28 s0 (some k3) none none) w fun t28 w =>
  m118_10 R K1 s0 k3 t28 w)
  (m118_8 R K1 s0 k3 w)
def m118_7 (R : VP) (K1 : VP) (s0 k3 : Value) (w : World) : Prop :=
  valQ Try.prog (Instr.indexAt 28 s0 k3) w fun t18 =>
  valQ Try.prog (Instr.loadAt 3 t18) w fun t19 =>
  valQ Try.prog (binS BinOp.sub 3 (Operand.tmp 21) (Operand.const (Value.int IntKind.i64 1)) k3 (Value.int IntKind.i64 1)) w fun t22 =>
  valQ Try.prog (Instr.indexAt 28 s0 t22) w fun t23 =>
  valQ Try.prog (Instr.loadAt 3 t23) w fun t24 =>
  valQ Try.prog (binS BinOp.eql 3 (Operand.tmp 19) (Operand.tmp 24) t19 t24) w fun t25 =>
  anyDraw w fun w =>
  m118_9 R K1 s0 k3 t25 w
def m118_4 (R : VP) (t2 : Value) (w : World) : Prop :=
  R t2 w
def m118_3 (R : VP) (s0 : Value) (w : World) : Prop :=
  m118_4 R s0 w
def m118_21 (R : VP) (K1 : VP) (s0 k3 t13 : Value) (w : World) : Prop :=
  condP t13
  (m118_7 R K1 s0 k3 w)
  (m118_3 R s0 w)
def m118_6 (R : VP) (K1 : VP) (s0 k3 : Value) (w : World) : Prop :=
  builtinP Try.prog Builtin.len #[28] 3 #[false] #[s0] w fun t12 w =>
  valP Try.prog (binS BinOp.lss 3 (Operand.tmp 10) (Operand.tmp 12) k3 t12) w fun t13 w =>
  m118_21 R K1 s0 k3 t13 w
def m118_5 (R : VP) (s0 k3 : Value) (w : World) : Prop :=
  loopP (fun (K1 : VP) (s : Value) w => m118_6 R K1 s0 s w) k3 w
def m118_2 (R : VP) (s0 : Value) (w : World) : Prop :=
  m118_5 R s0 (Value.int IntKind.i64 1) w
def m118_22 (R : VP) (s0 t8 : Value) (w : World) : Prop :=
  condP t8
  (m118_23 R s0 w)
  (m118_2 R s0 w)
def m118_1 (R : VP) (s0 : Value) (w : World) : Prop :=
  builtinP Try.prog Builtin.len #[28] 3 #[false] #[s0] w fun t7 w =>
  valP Try.prog (binS BinOp.lss 3 (Operand.tmp 7) (Operand.const (Value.int IntKind.i64 2)) t7 (Value.int IntKind.i64 2)) w fun t8 w =>
  m118_22 R s0 t8 w
def m118_0 (R : VP) (s0 : Value) (w : World) : Prop :=
  m118_1 R s0 w
abbrev W118 := cwp Try.prog (fun i => cond (Nat.beq i 11) 1 (cond (Nat.beq i 6) 1 (0)))
noncomputable def k118_0 : Code := (bodyOf Try.f118)
noncomputable def k118_1 : Code := (c2 k118_0)
noncomputable def k118_2 : Code := (c2 k118_1)
noncomputable def k118_3 : Code := (c2 k118_2)
noncomputable def k118_4 : Code := (c2 k118_3)
noncomputable def k118_5 : Code := (c2 (c1 k118_2))
noncomputable def k118_6 : Code := (c1 (c1 k118_5))
noncomputable def k118_7 : Code := (c2 k118_6)
noncomputable def k118_8 : Code := (c2 k118_7)
noncomputable def k118_9 : Code := (c2 (c1 (c1 k118_7)))
noncomputable def k118_10 : Code := (c2 (c1 k118_9))
noncomputable def k118_11 : Code := (c2 k118_10)
noncomputable def k118_12 : Code := (c2 k118_11)
noncomputable def k118_13 : Code := (c2 k118_12)
noncomputable def k118_14 : Code := (c2 (c1 k118_10))
noncomputable def k118_15 : Code := (c1 (c1 k118_14))
noncomputable def k118_16 : Code := (c2 k118_15)
noncomputable def k118_17 : Code := (c2 k118_16)
noncomputable def k118_18 : Code := (c2 (c1 (c1 k118_16)))
noncomputable def k118_19 : Code := (c2 (c1 k118_18))
noncomputable def k118_20 : Code := (c2 (c1 k118_15))
noncomputable def k118_21 : Code := (c2 (c1 k118_6))
noncomputable def k118_22 : Code := (c2 (c1 k118_1))
noncomputable def k118_23 : Code := (c2 (c1 k118_22))
theorem s118_23 {R : VP} {Q : EQ} (hR : ∀ e w, (R (e 2) w) → Q .ret e w) (e : Env) (w : World) (h : m118_23 R (e 2) w) : W118 k118_23 Q e w := by
  unfold m118_23 at h
  exact reA (hR _ _ h)
theorem s118_17 {R : VP} {K1 : VP} {K2 : (Value × Value) → World → Prop} {Q : EQ} (hN : ∀ e w, (K2 ((e 3), (e 5)) w) → Q .normal e w) (e : Env) (w : World) (h : m118_17 R K1 K2 (e 0) (e 3) (e 4) (e 5) w) : W118 k118_17 Q e w := by
  unfold m118_17 at h
  exact rgA 10 (fun e w => K2 ((e 3), (e 5)) w) h hN
theorem s118_19 {R : VP} {K1 : VP} {K2 : (Value × Value) → World → Prop} {Q : EQ} (hN : ∀ e w, (m118_17 R K1 K2 (e 0) (e 3) (e 4) (e 5) w) → Q .normal e w) (e : Env) (w : World) (h : m118_19 R K1 K2 (e 0) (e 3) (e 4) (e 5) w) : W118 k118_19 Q e w := by
  unfold m118_19 at h
  exact rgA 13 (fun e w => m118_17 R K1 K2 (e 0) (e 3) (e 4) (e 5) w) h hN
theorem s118_18 {R : VP} {K1 : VP} {K2 : (Value × Value) → World → Prop} {Q : EQ} (hN : ∀ e w, (m118_17 R K1 K2 (e 0) (e 3) (e 4) (e 5) w) → Q .normal e w) (e : Env) (w : World) (h : m118_18 R K1 K2 (e 0) (e 3) (e 4) (e 5) (e 44) w) : W118 k118_18 Q e w := by
  unfold m118_18 at h
  refine coA (Operand.tmp 44) h (fun h1 => ?_) (fun h1 => ?_)
  · refine seA ?_
    have hN : ∀ e w, (m118_19 R K1 K2 (e 0) (e 3) (e 4) (e 5) w) → (thenE (W118 k118_19 Q) Q) .normal e w := fun e w h => then_N (s118_19 (R := R) (Q := Q) (K1 := K1) (K2 := K2) hN e w h)
    exact rgA 12 (fun e w => m118_19 R K1 K2 (e 0) (e 3) (e 4) (e 5) w) h1 hN
  · exact skA (hN _ _ h1)
theorem s118_16 {R : VP} {K1 : VP} {K2 : (Value × Value) → World → Prop} {Q : EQ} (hN : ∀ e w, (K2 ((e 3), (e 5)) w) → Q .normal e w) (e : Env) (w : World) (h : m118_16 R K1 K2 (e 0) (e 3) (e 4) (e 5) w) : W118 k118_16 Q e w := by
  unfold m118_16 at h
  refine seA ?_
  have hN : ∀ e w, (m118_17 R K1 K2 (e 0) (e 3) (e 4) (e 5) w) → (thenE (W118 k118_17 Q) Q) .normal e w := fun e w h => then_N (s118_17 (R := R) (Q := Q) (K1 := K1) (K2 := K2) hN e w h)
  refine block_ok 3 (by kernel_rfl) ?_
  have hN : ∀ e w, (m118_17 R K1 K2 (e 0) (e 3) (e 4) (e 5) w) → (inBlockE 3 (thenE (W118 k118_17 Q) Q)) .normal e w := fun e w h => block_N (hN e w h)
  refine seA ?_
  have hN : ∀ e w, (m118_18 R K1 K2 (e 0) (e 3) (e 4) (e 5) (e 44) w) → (thenE (W118 k118_18 (inBlockE 3 (thenE (W118 k118_17 Q) Q))) (inBlockE 3 (thenE (W118 k118_17 Q) Q))) .normal e w := fun e w h => then_N (s118_18 (R := R) (Q := (inBlockE 3 (thenE (W118 k118_17 Q) Q))) (K1 := K1) (K2 := K2) hN e w h)
  exact quA 11 (fun e w => m118_18 R K1 K2 (e 0) (e 3) (e 4) (e 5) (e 44) w) h hN
theorem s118_13 {R : VP} {K1 : VP} {Q : EQ} (hR : ∀ e w, (R (e 2) w) → Q .ret e w) (e : Env) (w : World) (h : m118_13 R K1 (e 2) w) : W118 k118_13 Q e w := by
  unfold m118_13 at h
  exact reA (hR _ _ h)
theorem s118_12 {R : VP} {K1 : VP} {Q : EQ} (hR : ∀ e w, (R (e 2) w) → Q .ret e w) (e : Env) (w : World) (h : m118_12 R K1 (e 0) (e 3) w) : W118 k118_12 Q e w := by
  unfold m118_12 at h
  refine seA ?_
  have hN : ∀ e w, (m118_13 R K1 (e 2) w) → (thenE (W118 k118_13 Q) Q) .normal e w := fun e w h => then_N (s118_13 (R := R) (Q := Q) (K1 := K1) hR e w h)
  exact rgA 15 (fun e w => m118_13 R K1 (e 2) w) h hN
theorem s118_11 {R : VP} {K1 : VP} {Q : EQ} (hR : ∀ e w, (R (e 2) w) → Q .ret e w) (e : Env) (w : World) (h : m118_11 R K1 (e 0) (e 3) w) : W118 k118_11 Q e w := by
  unfold m118_11 at h
  refine seA ?_
  have hN : ∀ e w, (m118_12 R K1 (e 0) (e 3) w) → (thenE (W118 k118_12 Q) Q) .normal e w := fun e w h => then_N (s118_12 (R := R) (Q := Q) (K1 := K1) hR e w h)
  exact rgA 14 (fun e w => m118_12 R K1 (e 0) (e 3) w) h hN
theorem s118_20 {R : VP} {K1 : VP} {K2 : (Value × Value) → World → Prop} {Q : EQ} (hN : ∀ e w, (m118_16 R K1 K2 (e 0) (e 3) (e 4) (e 5) w) → Q .normal e w) (hX2 : ∀ e w, (m118_11 R K1 (e 0) (e 3) w) → Q (.exit 2) e w) (e : Env) (w : World) (h : m118_20 R K1 K2 (e 0) (e 3) (e 4) (e 5) (e 32) w) : W118 k118_20 Q e w := by
  unfold m118_20 at h
  refine coA (Operand.tmp 32) h (fun h1 => ?_) (fun h1 => ?_)
  · exact skA (hN _ _ h1)
  · exact exA 2 (hX2 _ _ h1)
theorem s118_15 {R : VP} {K1 : VP} {K2 : (Value × Value) → World → Prop} {Q : EQ} (hN : ∀ e w, (K2 ((e 3), (e 5)) w) → Q .normal e w) (hX2 : ∀ e w, (m118_11 R K1 (e 0) (e 3) w) → Q (.exit 2) e w) (e : Env) (w : World) (h : m118_15 R K1 K2 (e 0) (e 3) (e 4) (e 5) w) : W118 k118_15 Q e w := by
  unfold m118_15 at h
  refine seA ?_
  have hN : ∀ e w, (m118_16 R K1 K2 (e 0) (e 3) (e 4) (e 5) w) → (thenE (W118 k118_16 Q) Q) .normal e w := fun e w h => then_N (s118_16 (R := R) (Q := Q) (K1 := K1) (K2 := K2) hN e w h)
  have hX2 : ∀ e w, (m118_11 R K1 (e 0) (e 3) w) → (thenE (W118 k118_16 Q) Q) (.exit 2) e w := fun e w h => then_X (hX2 e w h)
  refine seA ?_
  have hN : ∀ e w, (m118_20 R K1 K2 (e 0) (e 3) (e 4) (e 5) (e 32) w) → (thenE (W118 k118_20 (thenE (W118 k118_16 Q) Q)) (thenE (W118 k118_16 Q) Q)) .normal e w := fun e w h => then_N (s118_20 (R := R) (Q := (thenE (W118 k118_16 Q) Q)) (K1 := K1) (K2 := K2) hN hX2 e w h)
  exact rgA 9 (fun e w => m118_20 R K1 K2 (e 0) (e 3) (e 4) (e 5) (e 32) w) h hN
theorem s118_14 {R : VP} {K1 : VP} {Q : EQ} (hN : ∀ e w, (m118_11 R K1 (e 0) (e 3) w) → Q .normal e w) (e : Env) (w : World) (h : m118_14 R K1 (e 0) (e 3) (e 4) (e 5) w) : W118 k118_14 Q e w := by
  unfold m118_14 at h
  refine block_ok 2 (by kernel_rfl) ?_
  have hX2 : ∀ e w, (m118_11 R K1 (e 0) (e 3) w) → (inBlockE 2 Q) (.exit 2) e w := fun e w h => inBlock_same (Q := Q) 2 (hN e w h)
  refine loop_ok' (fun (e : Env) => (e 3, e 5)) [0, 4] (by kernel_rfl) (by kernel_rfl) h (fun K e' w' hk h' => ?_)
  have r0 : e' 0 = e 0 := hk 0 (by decide)
  have r4 : e' 4 = e 4 := hk 4 (by decide)
  have hX2 : ∀ e w, (m118_11 R K1 (e 0) (e 3) w) → (thenE (fun (e : Env) w => K ((e 3), (e 5)) w) (inBlockE 2 Q)) (.exit 2) e w := fun e w h => then_X (hX2 e w h)
  exact s118_15 (R := R) (Q := (thenE (fun (e : Env) w => K ((e 3), (e 5)) w) (inBlockE 2 Q))) (K1 := K1) (K2 := K) (fun _ _ h => then_N h) hX2 e' w' (by rw [r0, r4]; exact h')
theorem s118_10 {R : VP} {K1 : VP} {Q : EQ} (hR : ∀ e w, (R (e 2) w) → Q .ret e w) (e : Env) (w : World) (h : m118_10 R K1 (e 0) (e 3) (e 4) w) : W118 k118_10 Q e w := by
  unfold m118_10 at h
  refine seA ?_
  have hN : ∀ e w, (m118_11 R K1 (e 0) (e 3) w) → (thenE (W118 k118_11 Q) Q) .normal e w := fun e w h => then_N (s118_11 (R := R) (Q := Q) (K1 := K1) hR e w h)
  refine seA ?_
  have hN : ∀ e w, (m118_14 R K1 (e 0) (e 3) (e 4) (e 5) w) → (thenE (W118 k118_14 (thenE (W118 k118_11 Q) Q)) (thenE (W118 k118_11 Q) Q)) .normal e w := fun e w h => then_N (s118_14 (R := R) (Q := (thenE (W118 k118_11 Q) Q)) (K1 := K1) hN e w h)
  exact rgA 8 (fun e w => m118_14 R K1 (e 0) (e 3) (e 4) (e 5) w) h hN
theorem s118_8 {R : VP} {K1 : VP} {Q : EQ} (hN : ∀ e w, (K1 (e 3) w) → Q .normal e w) (e : Env) (w : World) (h : m118_8 R K1 (e 0) (e 3) w) : W118 k118_8 Q e w := by
  unfold m118_8 at h
  exact rgA 5 (fun e w => K1 (e 3) w) h hN
theorem s118_9 {R : VP} {K1 : VP} {Q : EQ} (hN : ∀ e w, (m118_8 R K1 (e 0) (e 3) w) → Q .normal e w) (hR : ∀ e w, (R (e 2) w) → Q .ret e w) (e : Env) (w : World) (h : m118_9 R K1 (e 0) (e 3) (e 25) w) : W118 k118_9 Q e w := by
  unfold m118_9 at h
  refine coA (Operand.tmp 25) h (fun h1 => ?_) (fun h1 => ?_)
  · refine seA ?_
    have hN : ∀ e w, (m118_10 R K1 (e 0) (e 3) (e 4) w) → (thenE (W118 k118_10 Q) Q) .normal e w := fun e w h => then_N (s118_10 (R := R) (Q := Q) (K1 := K1) hR e w h)
    exact rgA 7 (fun e w => m118_10 R K1 (e 0) (e 3) (e 4) w) h1 hN
  · exact skA (hN _ _ h1)
theorem s118_7 {R : VP} {K1 : VP} {Q : EQ} (hN : ∀ e w, (K1 (e 3) w) → Q .normal e w) (hR : ∀ e w, (R (e 2) w) → Q .ret e w) (e : Env) (w : World) (h : m118_7 R K1 (e 0) (e 3) w) : W118 k118_7 Q e w := by
  unfold m118_7 at h
  refine seA ?_
  have hN : ∀ e w, (m118_8 R K1 (e 0) (e 3) w) → (thenE (W118 k118_8 Q) Q) .normal e w := fun e w h => then_N (s118_8 (R := R) (Q := Q) (K1 := K1) hN e w h)
  have hR : ∀ e w, (R (e 2) w) → (thenE (W118 k118_8 Q) Q) .ret e w := fun e w h => then_R (hR e w h)
  refine block_ok 1 (by kernel_rfl) ?_
  have hN : ∀ e w, (m118_8 R K1 (e 0) (e 3) w) → (inBlockE 1 (thenE (W118 k118_8 Q) Q)) .normal e w := fun e w h => block_N (hN e w h)
  have hR : ∀ e w, (R (e 2) w) → (inBlockE 1 (thenE (W118 k118_8 Q) Q)) .ret e w := fun e w h => block_R (hR e w h)
  refine seA ?_
  have hN : ∀ e w, (m118_9 R K1 (e 0) (e 3) (e 25) w) → (thenE (W118 k118_9 (inBlockE 1 (thenE (W118 k118_8 Q) Q))) (inBlockE 1 (thenE (W118 k118_8 Q) Q))) .normal e w := fun e w h => then_N (s118_9 (R := R) (Q := (inBlockE 1 (thenE (W118 k118_8 Q) Q))) (K1 := K1) hN hR e w h)
  exact quA 6 (fun e w => m118_9 R K1 (e 0) (e 3) (e 25) w) h hN
theorem s118_4 {R : VP} {Q : EQ} (hR : ∀ e w, (R (e 2) w) → Q .ret e w) (e : Env) (w : World) (h : m118_4 R (e 2) w) : W118 k118_4 Q e w := by
  unfold m118_4 at h
  exact reA (hR _ _ h)
theorem s118_3 {R : VP} {Q : EQ} (hR : ∀ e w, (R (e 2) w) → Q .ret e w) (e : Env) (w : World) (h : m118_3 R (e 0) w) : W118 k118_3 Q e w := by
  unfold m118_3 at h
  refine seA ?_
  have hN : ∀ e w, (m118_4 R (e 2) w) → (thenE (W118 k118_4 Q) Q) .normal e w := fun e w h => then_N (s118_4 (R := R) (Q := Q) hR e w h)
  exact rgA 16 (fun e w => m118_4 R (e 2) w) h hN
theorem s118_21 {R : VP} {K1 : VP} {Q : EQ} (hN : ∀ e w, (m118_7 R K1 (e 0) (e 3) w) → Q .normal e w) (hX0 : ∀ e w, (m118_3 R (e 0) w) → Q (.exit 0) e w) (e : Env) (w : World) (h : m118_21 R K1 (e 0) (e 3) (e 13) w) : W118 k118_21 Q e w := by
  unfold m118_21 at h
  refine coA (Operand.tmp 13) h (fun h1 => ?_) (fun h1 => ?_)
  · exact skA (hN _ _ h1)
  · exact exA 0 (hX0 _ _ h1)
theorem s118_6 {R : VP} {K1 : VP} {Q : EQ} (hN : ∀ e w, (K1 (e 3) w) → Q .normal e w) (hR : ∀ e w, (R (e 2) w) → Q .ret e w) (hX0 : ∀ e w, (m118_3 R (e 0) w) → Q (.exit 0) e w) (e : Env) (w : World) (h : m118_6 R K1 (e 0) (e 3) w) : W118 k118_6 Q e w := by
  unfold m118_6 at h
  refine seA ?_
  have hN : ∀ e w, (m118_7 R K1 (e 0) (e 3) w) → (thenE (W118 k118_7 Q) Q) .normal e w := fun e w h => then_N (s118_7 (R := R) (Q := Q) (K1 := K1) hN hR e w h)
  have hX0 : ∀ e w, (m118_3 R (e 0) w) → (thenE (W118 k118_7 Q) Q) (.exit 0) e w := fun e w h => then_X (hX0 e w h)
  refine seA ?_
  have hN : ∀ e w, (m118_21 R K1 (e 0) (e 3) (e 13) w) → (thenE (W118 k118_21 (thenE (W118 k118_7 Q) Q)) (thenE (W118 k118_7 Q) Q)) .normal e w := fun e w h => then_N (s118_21 (R := R) (Q := (thenE (W118 k118_7 Q) Q)) (K1 := K1) hN hX0 e w h)
  exact rgA 4 (fun e w => m118_21 R K1 (e 0) (e 3) (e 13) w) h hN
theorem s118_5 {R : VP} {Q : EQ} (hN : ∀ e w, (m118_3 R (e 0) w) → Q .normal e w) (hR : ∀ e w, (R (e 2) w) → Q .ret e w) (e : Env) (w : World) (h : m118_5 R (e 0) (e 3) w) : W118 k118_5 Q e w := by
  unfold m118_5 at h
  refine block_ok 0 (by kernel_rfl) ?_
  have hX0 : ∀ e w, (m118_3 R (e 0) w) → (inBlockE 0 Q) (.exit 0) e w := fun e w h => inBlock_same (Q := Q) 0 (hN e w h)
  have hR : ∀ e w, (R (e 2) w) → (inBlockE 0 Q) .ret e w := fun e w h => block_R (hR e w h)
  refine loop_ok' (fun (e : Env) => e 3) [0] (by kernel_rfl) (by kernel_rfl) h (fun K e' w' hk h' => ?_)
  have r0 : e' 0 = e 0 := hk 0 (by decide)
  have hR : ∀ e w, (R (e 2) w) → (thenE (fun (e : Env) w => K (e 3) w) (inBlockE 0 Q)) .ret e w := fun e w h => then_R (hR e w h)
  have hX0 : ∀ e w, (m118_3 R (e 0) w) → (thenE (fun (e : Env) w => K (e 3) w) (inBlockE 0 Q)) (.exit 0) e w := fun e w h => then_X (hX0 e w h)
  exact s118_6 (R := R) (Q := (thenE (fun (e : Env) w => K (e 3) w) (inBlockE 0 Q))) (K1 := K) (fun _ _ h => then_N h) hR hX0 e' w' (by rw [r0]; exact h')
theorem s118_2 {R : VP} {Q : EQ} (hR : ∀ e w, (R (e 2) w) → Q .ret e w) (e : Env) (w : World) (h : m118_2 R (e 0) w) : W118 k118_2 Q e w := by
  unfold m118_2 at h
  refine seA ?_
  have hN : ∀ e w, (m118_3 R (e 0) w) → (thenE (W118 k118_3 Q) Q) .normal e w := fun e w h => then_N (s118_3 (R := R) (Q := Q) hR e w h)
  have hR : ∀ e w, (R (e 2) w) → (thenE (W118 k118_3 Q) Q) .ret e w := fun e w h => then_R (hR e w h)
  refine seA ?_
  have hN : ∀ e w, (m118_5 R (e 0) (e 3) w) → (thenE (W118 k118_5 (thenE (W118 k118_3 Q) Q)) (thenE (W118 k118_3 Q) Q)) .normal e w := fun e w h => then_N (s118_5 (R := R) (Q := (thenE (W118 k118_3 Q) Q)) hN hR e w h)
  exact rgA 3 (fun e w => m118_5 R (e 0) (e 3) w) h hN
theorem s118_22 {R : VP} {Q : EQ} (hN : ∀ e w, (m118_2 R (e 0) w) → Q .normal e w) (hR : ∀ e w, (R (e 2) w) → Q .ret e w) (e : Env) (w : World) (h : m118_22 R (e 0) (e 8) w) : W118 k118_22 Q e w := by
  unfold m118_22 at h
  refine coA (Operand.tmp 8) h (fun h1 => ?_) (fun h1 => ?_)
  · refine seA ?_
    have hN : ∀ e w, (m118_23 R (e 2) w) → (thenE (W118 k118_23 Q) Q) .normal e w := fun e w h => then_N (s118_23 (R := R) (Q := Q) hR e w h)
    exact rgA 2 (fun e w => m118_23 R (e 2) w) h1 hN
  · exact skA (hN _ _ h1)
theorem s118_1 {R : VP} {Q : EQ} (hR : ∀ e w, (R (e 2) w) → Q .ret e w) (e : Env) (w : World) (h : m118_1 R (e 0) w) : W118 k118_1 Q e w := by
  unfold m118_1 at h
  refine seA ?_
  have hN : ∀ e w, (m118_2 R (e 0) w) → (thenE (W118 k118_2 Q) Q) .normal e w := fun e w h => then_N (s118_2 (R := R) (Q := Q) hR e w h)
  have hR : ∀ e w, (R (e 2) w) → (thenE (W118 k118_2 Q) Q) .ret e w := fun e w h => then_R (hR e w h)
  refine seA ?_
  have hN : ∀ e w, (m118_22 R (e 0) (e 8) w) → (thenE (W118 k118_22 (thenE (W118 k118_2 Q) Q)) (thenE (W118 k118_2 Q) Q)) .normal e w := fun e w h => then_N (s118_22 (R := R) (Q := (thenE (W118 k118_2 Q) Q)) hN hR e w h)
  exact rgA 1 (fun e w => m118_22 R (e 0) (e 8) w) h hN
theorem s118_0 {R : VP} {Q : EQ} (hR : ∀ e w, (R (e 2) w) → Q .ret e w) (e : Env) (w : World) (h : m118_0 R (e 0) w) : W118 k118_0 Q e w := by
  unfold m118_0 at h
  refine seA ?_
  have hN : ∀ e w, (m118_1 R (e 0) w) → (thenE (W118 k118_1 Q) Q) .normal e w := fun e w h => then_N (s118_1 (R := R) (Q := Q) hR e w h)
  exact rgA 0 (fun e w => m118_1 R (e 0) w) h hN
abbrev m118 (R : VP) (s0 : Value) (w : World) : Prop := m118_0 R s0 w
theorem s118 (s0 : Value) {R : VP} {w : World} (h : m118 R s0 w) :
    Calls Try.prog 118 #[s0] w fun e w' => ∃ v, e = .returned v ∧ R v w' :=
  calls_of_cwp (st := (fun i => cond (Nat.beq i 11) 1 (cond (Nat.beq i 6) 1 (0)))) (c := k118_0) (by kernel_rfl) Try.func118 (by kernel_rfl) (Nat.le_of_ble_eq_true (by kernel_rfl)) (by kernel_rfl)
    (s118_0 (R := R) (Q := endE Try.prog Try.f118 R) (fun e w h => kcast (by kernel_rfl) h) (argsE #[s0]) w (kcast (by kernel_rfl) h))
/-! ### headgate/assign.Sticky -/
def m88_27 (R : VP) (t6 t7 : Value) (w : World) : Prop :=
  R (Value.tuple #[t6, t7]) w
def m88_25 (R : VP) (t6 t7 : Value) (w : World) : Prop :=
  R (Value.tuple #[t6, t7]) w
def m88_21 (R : VP) (K1 : VP) (old2 s8 l10 t33 t34 : Value) (w : World) : Prop :=
  valP Try.prog (binS BinOp.add 3 (Operand.tmp 34) (Operand.const (Value.int IntKind.i64 1)) t34 (Value.int IntKind.i64 1)) w fun t50 w =>
  K1 t50 w
def m88_23 (R : VP) (K1 : VP) (old2 s8 l10 p11 t33 t34 t42 : Value) (w : World) : Prop :=
  condP t42
  (valP Try.prog (Instr.indexAt 28 old2 p11) w fun t47 w =>
  valP Try.prog (Instr.loadAt 3 t47) w fun t48 w =>
  valP Try.prog (Instr.indexAt 28 l10 p11) w fun t49 w =>
  unitP Try.prog (Instr.storeAt 3 t49 t48) w fun _ w =>
  m88_21 R K1 old2 s8 l10 t33 t34 w)
  (m88_21 R K1 old2 s8 l10 t33 t34 w)
def m88_22 (R : VP) (K1 : VP) (old2 s8 l10 p11 t33 t34 : Value) (w : World) : Prop :=
  valP Try.prog (Instr.indexAt 28 old2 p11) w fun t40 w =>
  valP Try.prog (Instr.loadAt 3 t40) w fun t41 w =>
  callP Try.prog (fnV 100) #[s8, t41] w fun t42 w =>
  m88_23 R K1 old2 s8 l10 p11 t33 t34 t42 w
def m88_20 (R : VP) (K1 : VP) (old2 s8 l10 t33 t34 : Value) (w : World) : Prop :=
  m88_22 R K1 old2 s8 l10 t34 t33 t34 w
def m88_13 (R : VP) (K1 : VP) (s8 l10 t52 t53 : Value) (w : World) : Prop :=
  valP Try.prog (binS BinOp.add 3 (Operand.tmp 53) (Operand.const (Value.int IntKind.i64 1)) t53 (Value.int IntKind.i64 1)) w fun t76 w =>
  K1 t76 w
def m88_16 (R : VP) (K1 : VP) (s8 l10 p12 t52 t53 : Value) (w : World) : Prop :=
  anyDraw w fun w =>
  nilCheckP s8 fun t67 =>
  valS Try.prog (Instr.fieldAt 131 t67 1) w fun t68 =>
  valS Try.prog (Instr.loadAt 129 t68) w fun t69 =>
  valS Try.prog (Instr.indexAt 28 l10 p12) w fun t72 =>
  valS Try.prog (Instr.loadAt 3 t72) w fun t73 =>
  valS Try.prog (Instr.lookup 129 t69 t73 false) w fun t74 =>
  valS Try.prog (binS BinOp.add 3 (Operand.tmp 74) (Operand.const (Value.int IntKind.i64 1)) t74 (Value.int IntKind.i64 1)) w fun t75 =>
  unitP Try.prog (Instr.mapUpdate 129 t69 t73 t75) w fun _ w =>
  m88_13 R K1 s8 l10 t52 t53 w
def m88_15 (R : VP) (K1 : VP) (s8 l10 p12 t52 t53 t60 : Value) (w : World) : Prop :=
  condP t60
  (callP Try.prog (fnV 101) #[s8] w fun t64 w =>
  valP Try.prog (Instr.indexAt 28 l10 p12) w fun t65 w =>
  unitP Try.prog (Instr.storeAt 3 t65 t64) w fun _ w =>
  m88_16 R K1 s8 l10 p12 t52 t53 w)
  (m88_13 R K1 s8 l10 t52 t53 w)
def m88_14 (R : VP) (K1 : VP) (s8 l10 p12 t52 t53 : Value) (w : World) : Prop :=
  valP Try.prog (Instr.indexAt 28 l10 p12) w fun t58 w =>
  valP Try.prog (Instr.loadAt 3 t58) w fun t59 w =>
  valP Try.prog (binS BinOp.eql 3 (Operand.tmp 59) (Operand.const (Value.int IntKind.i64 0)) t59 (Value.int IntKind.i64 0)) w fun t60 w =>
  m88_15 R K1 s8 l10 p12 t52 t53 t60 w
def m88_12 (R : VP) (K1 : VP) (s8 l10 t52 t53 : Value) (w : World) : Prop :=
  m88_14 R K1 s8 l10 t53 t52 t53 w
def m88_8 (R : VP) (t6 t7 : Value) (w : World) : Prop :=
  R (Value.tuple #[t6, t7]) w
def m88_7 (R : VP) (l10 : Value) (w : World) : Prop :=
  m88_8 R l10 (Value.int IntKind.i64 0) w
def m88_11 (R : VP) (K1 : VP) (s8 l10 t52 t53 t54 : Value) (w : World) : Prop :=
  condP t54
  (m88_12 R K1 s8 l10 t52 t53 w)
  (m88_7 R l10 w)
def m88_10 (R : VP) (K1 : VP) (s8 l10 t52 t53 : Value) (w : World) : Prop :=
  valP Try.prog (binS BinOp.lss 3 (Operand.tmp 53) (Operand.tmp 52) t53 t52) w fun t54 w =>
  m88_11 R K1 s8 l10 t52 t53 t54 w
def m88_9 (R : VP) (s8 l10 t52 t53 : Value) (w : World) : Prop :=
  loopP (fun (K1 : VP) (s : Value) w => m88_10 R K1 s8 l10 t52 s w) t53 w
def m88_6 (R : VP) (s8 l10 : Value) (w : World) : Prop :=
  builtinP Try.prog Builtin.len #[28] 3 #[false] #[l10] w fun t52 w =>
  m88_9 R s8 l10 t52 (Value.int IntKind.i64 0) w
def m88_19 (R : VP) (K1 : VP) (old2 s8 l10 t33 t34 t35 : Value) (w : World) : Prop :=
  condP t35
  (m88_20 R K1 old2 s8 l10 t33 t34 w)
  (m88_6 R s8 l10 w)
def m88_18 (R : VP) (K1 : VP) (old2 s8 l10 t33 t34 : Value) (w : World) : Prop :=
  valP Try.prog (binS BinOp.lss 3 (Operand.tmp 34) (Operand.tmp 33) t34 t33) w fun t35 w =>
  m88_19 R K1 old2 s8 l10 t33 t34 t35 w
def m88_17 (R : VP) (old2 s8 l10 t33 t34 : Value) (w : World) : Prop :=
  loopP (fun (K1 : VP) (s : Value) w => m88_18 R K1 old2 s8 l10 t33 s w) t34 w
def m88_5 (R : VP) (parts0 old2 s8 l10 : Value) (w : World) : Prop :=
  builtinP Try.prog Builtin.len #[28] 3 #[false] #[old2] w fun t32 w =>
  builtinP Try.prog Builtin.min #[3, 3] 3 #[false, false] #[parts0, t32] w fun t33 w =>
  m88_17 R old2 s8 l10 t33 (Value.int IntKind.i64 0) w
def m88_24 (R : VP) (parts0 old2 s8 l10 t28 : Value) (w : World) : Prop :=
  condP t28
  (m88_25 R l10 (Value.int IntKind.i64 0) w)
  (m88_5 R parts0 old2 s8 l10 w)
def m88_4 (R : VP) (parts0 old2 s8 l10 : Value) (w : World) : Prop :=
  nilCheckP s8 fun t24 =>
  valP Try.prog (Instr.fieldAt 131 t24 0) w fun t25 w =>
  valP Try.prog (Instr.loadAt 28 t25) w fun t26 w =>
  builtinP Try.prog Builtin.len #[28] 3 #[false] #[t26] w fun t27 w =>
  valP Try.prog (binS BinOp.eql 3 (Operand.tmp 27) (Operand.const (Value.int IntKind.i64 0)) t27 (Value.int IntKind.i64 0)) w fun t28 w =>
  m88_24 R parts0 old2 s8 l10 t28 w
def m88_3 (R : VP) (parts0 old2 s8 : Value) (w : World) : Prop :=
  valP Try.prog (Instr.makeSlice 28 parts0 parts0) w fun t22 w =>
  m88_4 R parts0 old2 s8 t22 w
def m88_26 (R : VP) (parts0 old2 s8 t20 : Value) (w : World) : Prop :=
  condP t20
  (m88_27 R (Value.slice none 0 0) (Value.int IntKind.i64 1) w)
  (m88_3 R parts0 old2 s8 w)
def m88_2 (R : VP) (parts0 old2 s8 ok9 : Value) (w : World) : Prop :=
  valP Try.prog (Op.unary UnOp.not ok9) w fun t20 w =>
  m88_26 R parts0 old2 s8 t20 w
def m88_1 (R : VP) (parts0 members1 old2 : Value) (w : World) : Prop :=
  callP Try.prog (fnV 99) #[parts0, members1] w fun t16 w =>
  valP Try.prog (Instr.extract t16 0) w fun t17 w =>
  valP Try.prog (Instr.extract t16 1) w fun t18 w =>
  m88_2 R parts0 old2 t17 t18 w
def m88_0 (R : VP) (parts0 members1 old2 : Value) (w : World) : Prop :=
  m88_1 R parts0 members1 old2 w
abbrev W88 := cwp Try.prog (fun i => cond (Nat.beq i 18) 12 (0))
noncomputable def k88_0 : Code := (bodyOf Try.f88)
noncomputable def k88_1 : Code := (c2 k88_0)
noncomputable def k88_2 : Code := (c2 k88_1)
noncomputable def k88_3 : Code := (c2 k88_2)
noncomputable def k88_4 : Code := (c2 k88_3)
noncomputable def k88_5 : Code := (c2 k88_4)
noncomputable def k88_6 : Code := (c2 k88_5)
noncomputable def k88_7 : Code := (c2 k88_6)
noncomputable def k88_8 : Code := (c2 k88_7)
noncomputable def k88_9 : Code := (c2 (c1 k88_6))
noncomputable def k88_10 : Code := (c1 (c1 k88_9))
noncomputable def k88_11 : Code := (c2 k88_10)
noncomputable def k88_12 : Code := (c2 k88_11)
noncomputable def k88_13 : Code := (c2 k88_12)
noncomputable def k88_14 : Code := (c2 (c1 (c1 k88_12)))
noncomputable def k88_15 : Code := (c2 k88_14)
noncomputable def k88_16 : Code := (c2 (c1 k88_15))
noncomputable def k88_17 : Code := (c2 (c1 k88_5))
noncomputable def k88_18 : Code := (c1 (c1 k88_17))
noncomputable def k88_19 : Code := (c2 k88_18)
noncomputable def k88_20 : Code := (c2 k88_19)
noncomputable def k88_21 : Code := (c2 k88_20)
noncomputable def k88_22 : Code := (c2 (c1 (c1 k88_20)))
noncomputable def k88_23 : Code := (c2 k88_22)
noncomputable def k88_24 : Code := (c2 (c1 k88_4))
noncomputable def k88_25 : Code := (c2 (c1 k88_24))
noncomputable def k88_26 : Code := (c2 (c1 k88_2))
noncomputable def k88_27 : Code := (c2 (c1 k88_26))
theorem s88_27 {R : VP} {Q : EQ} (hR : ∀ e w, (R (Value.tuple #[(e 6), (e 7)]) w) → Q .ret e w) (e : Env) (w : World) (h : m88_27 R (e 6) (e 7) w) : W88 k88_27 Q e w := by
  unfold m88_27 at h
  exact reA (hR _ _ h)
theorem s88_25 {R : VP} {Q : EQ} (hR : ∀ e w, (R (Value.tuple #[(e 6), (e 7)]) w) → Q .ret e w) (e : Env) (w : World) (h : m88_25 R (e 6) (e 7) w) : W88 k88_25 Q e w := by
  unfold m88_25 at h
  exact reA (hR _ _ h)
theorem s88_21 {R : VP} {K1 : VP} {Q : EQ} (hN : ∀ e w, (K1 (e 34) w) → Q .normal e w) (e : Env) (w : World) (h : m88_21 R K1 (e 2) (e 8) (e 10) (e 33) (e 34) w) : W88 k88_21 Q e w := by
  unfold m88_21 at h
  exact rgA 12 (fun e w => K1 (e 34) w) h hN
theorem s88_23 {R : VP} {K1 : VP} {Q : EQ} (hN : ∀ e w, (m88_21 R K1 (e 2) (e 8) (e 10) (e 33) (e 34) w) → Q .normal e w) (e : Env) (w : World) (h : m88_23 R K1 (e 2) (e 8) (e 10) (e 11) (e 33) (e 34) (e 42) w) : W88 k88_23 Q e w := by
  unfold m88_23 at h
  refine coA (Operand.tmp 42) h (fun h1 => ?_) (fun h1 => ?_)
  · exact rgA 11 (fun e w => m88_21 R K1 (e 2) (e 8) (e 10) (e 33) (e 34) w) h1 hN
  · exact skA (hN _ _ h1)
theorem s88_22 {R : VP} {K1 : VP} {Q : EQ} (hN : ∀ e w, (m88_21 R K1 (e 2) (e 8) (e 10) (e 33) (e 34) w) → Q .normal e w) (e : Env) (w : World) (h : m88_22 R K1 (e 2) (e 8) (e 10) (e 11) (e 33) (e 34) w) : W88 k88_22 Q e w := by
  unfold m88_22 at h
  refine seA ?_
  have hN : ∀ e w, (m88_23 R K1 (e 2) (e 8) (e 10) (e 11) (e 33) (e 34) (e 42) w) → (thenE (W88 k88_23 Q) Q) .normal e w := fun e w h => then_N (s88_23 (R := R) (Q := Q) (K1 := K1) hN e w h)
  exact rgA 10 (fun e w => m88_23 R K1 (e 2) (e 8) (e 10) (e 11) (e 33) (e 34) (e 42) w) h hN
theorem s88_20 {R : VP} {K1 : VP} {Q : EQ} (hN : ∀ e w, (K1 (e 34) w) → Q .normal e w) (e : Env) (w : World) (h : m88_20 R K1 (e 2) (e 8) (e 10) (e 33) (e 34) w) : W88 k88_20 Q e w := by
  unfold m88_20 at h
  refine seA ?_
  have hN : ∀ e w, (m88_21 R K1 (e 2) (e 8) (e 10) (e 33) (e 34) w) → (thenE (W88 k88_21 Q) Q) .normal e w := fun e w h => then_N (s88_21 (R := R) (Q := Q) (K1 := K1) hN e w h)
  refine block_ok 1 (by kernel_rfl) ?_
  have hN : ∀ e w, (m88_21 R K1 (e 2) (e 8) (e 10) (e 33) (e 34) w) → (inBlockE 1 (thenE (W88 k88_21 Q) Q)) .normal e w := fun e w h => block_N (hN e w h)
  refine seA ?_
  have hN : ∀ e w, (m88_22 R K1 (e 2) (e 8) (e 10) (e 11) (e 33) (e 34) w) → (thenE (W88 k88_22 (inBlockE 1 (thenE (W88 k88_21 Q) Q))) (inBlockE 1 (thenE (W88 k88_21 Q) Q))) .normal e w := fun e w h => then_N (s88_22 (R := R) (Q := (inBlockE 1 (thenE (W88 k88_21 Q) Q))) (K1 := K1) hN e w h)
  exact rgA 9 (fun e w => m88_22 R K1 (e 2) (e 8) (e 10) (e 11) (e 33) (e 34) w) h hN
theorem s88_13 {R : VP} {K1 : VP} {Q : EQ} (hN : ∀ e w, (K1 (e 53) w) → Q .normal e w) (e : Env) (w : World) (h : m88_13 R K1 (e 8) (e 10) (e 52) (e 53) w) : W88 k88_13 Q e w := by
  unfold m88_13 at h
  exact rgA 19 (fun e w => K1 (e 53) w) h hN
theorem s88_16 {R : VP} {K1 : VP} {Q : EQ} (hN : ∀ e w, (m88_13 R K1 (e 8) (e 10) (e 52) (e 53) w) → Q .normal e w) (e : Env) (w : World) (h : m88_16 R K1 (e 8) (e 10) (e 12) (e 52) (e 53) w) : W88 k88_16 Q e w := by
  unfold m88_16 at h
  exact taA 18 10 (fun e w => m88_13 R K1 (e 8) (e 10) (e 52) (e 53) w) h hN
theorem s88_15 {R : VP} {K1 : VP} {Q : EQ} (hN : ∀ e w, (m88_13 R K1 (e 8) (e 10) (e 52) (e 53) w) → Q .normal e w) (e : Env) (w : World) (h : m88_15 R K1 (e 8) (e 10) (e 12) (e 52) (e 53) (e 60) w) : W88 k88_15 Q e w := by
  unfold m88_15 at h
  refine coA (Operand.tmp 60) h (fun h1 => ?_) (fun h1 => ?_)
  · refine seA ?_
    have hN : ∀ e w, (m88_16 R K1 (e 8) (e 10) (e 12) (e 52) (e 53) w) → (thenE (W88 k88_16 Q) Q) .normal e w := fun e w h => then_N (s88_16 (R := R) (Q := Q) (K1 := K1) hN e w h)
    exact rgA 17 (fun e w => m88_16 R K1 (e 8) (e 10) (e 12) (e 52) (e 53) w) h1 hN
  · exact skA (hN _ _ h1)
theorem s88_14 {R : VP} {K1 : VP} {Q : EQ} (hN : ∀ e w, (m88_13 R K1 (e 8) (e 10) (e 52) (e 53) w) → Q .normal e w) (e : Env) (w : World) (h : m88_14 R K1 (e 8) (e 10) (e 12) (e 52) (e 53) w) : W88 k88_14 Q e w := by
  unfold m88_14 at h
  refine seA ?_
  have hN : ∀ e w, (m88_15 R K1 (e 8) (e 10) (e 12) (e 52) (e 53) (e 60) w) → (thenE (W88 k88_15 Q) Q) .normal e w := fun e w h => then_N (s88_15 (R := R) (Q := Q) (K1 := K1) hN e w h)
  exact rgA 16 (fun e w => m88_15 R K1 (e 8) (e 10) (e 12) (e 52) (e 53) (e 60) w) h hN
theorem s88_12 {R : VP} {K1 : VP} {Q : EQ} (hN : ∀ e w, (K1 (e 53) w) → Q .normal e w) (e : Env) (w : World) (h : m88_12 R K1 (e 8) (e 10) (e 52) (e 53) w) : W88 k88_12 Q e w := by
  unfold m88_12 at h
  refine seA ?_
  have hN : ∀ e w, (m88_13 R K1 (e 8) (e 10) (e 52) (e 53) w) → (thenE (W88 k88_13 Q) Q) .normal e w := fun e w h => then_N (s88_13 (R := R) (Q := Q) (K1 := K1) hN e w h)
  refine block_ok 3 (by kernel_rfl) ?_
  have hN : ∀ e w, (m88_13 R K1 (e 8) (e 10) (e 52) (e 53) w) → (inBlockE 3 (thenE (W88 k88_13 Q) Q)) .normal e w := fun e w h => block_N (hN e w h)
  refine seA ?_
  have hN : ∀ e w, (m88_14 R K1 (e 8) (e 10) (e 12) (e 52) (e 53) w) → (thenE (W88 k88_14 (inBlockE 3 (thenE (W88 k88_13 Q) Q))) (inBlockE 3 (thenE (W88 k88_13 Q) Q))) .normal e w := fun e w h => then_N (s88_14 (R := R) (Q := (inBlockE 3 (thenE (W88 k88_13 Q) Q))) (K1 := K1) hN e w h)
  exact rgA 15 (fun e w => m88_14 R K1 (e 8) (e 10) (e 12) (e 52) (e 53) w) h hN
theorem s88_8 {R : VP} {Q : EQ} (hR : ∀ e w, (R (Value.tuple #[(e 6), (e 7)]) w) → Q .ret e w) (e : Env) (w : World) (h : m88_8 R (e 6) (e 7) w) : W88 k88_8 Q e w := by
  unfold m88_8 at h
  exact reA (hR _ _ h)
theorem s88_7 {R : VP} {Q : EQ} (hR : ∀ e w, (R (Value.tuple #[(e 6), (e 7)]) w) → Q .ret e w) (e : Env) (w : World) (h : m88_7 R (e 10) w) : W88 k88_7 Q e w := by
  unfold m88_7 at h
  refine seA ?_
  have hN : ∀ e w, (m88_8 R (e 6) (e 7) w) → (thenE (W88 k88_8 Q) Q) .normal e w := fun e w h => then_N (s88_8 (R := R) (Q := Q) hR e w h)
  exact rgA 20 (fun e w => m88_8 R (e 6) (e 7) w) h hN
theorem s88_11 {R : VP} {K1 : VP} {Q : EQ} (hN : ∀ e w, (K1 (e 53) w) → Q .normal e w) (hX2 : ∀ e w, (m88_7 R (e 10) w) → Q (.exit 2) e w) (e : Env) (w : World) (h : m88_11 R K1 (e 8) (e 10) (e 52) (e 53) (e 54) w) : W88 k88_11 Q e w := by
  unfold m88_11 at h
  refine seA ?_
  have hN : ∀ e w, (m88_12 R K1 (e 8) (e 10) (e 52) (e 53) w) → (thenE (W88 k88_12 Q) Q) .normal e w := fun e w h => then_N (s88_12 (R := R) (Q := Q) (K1 := K1) hN e w h)
  have hX2 : ∀ e w, (m88_7 R (e 10) w) → (thenE (W88 k88_12 Q) Q) (.exit 2) e w := fun e w h => then_X (hX2 e w h)
  refine coA (Operand.tmp 54) h (fun h1 => ?_) (fun h1 => ?_)
  · exact skA (hN _ _ h1)
  · exact exA 2 (hX2 _ _ h1)
theorem s88_10 {R : VP} {K1 : VP} {Q : EQ} (hN : ∀ e w, (K1 (e 53) w) → Q .normal e w) (hX2 : ∀ e w, (m88_7 R (e 10) w) → Q (.exit 2) e w) (e : Env) (w : World) (h : m88_10 R K1 (e 8) (e 10) (e 52) (e 53) w) : W88 k88_10 Q e w := by
  unfold m88_10 at h
  refine seA ?_
  have hN : ∀ e w, (m88_11 R K1 (e 8) (e 10) (e 52) (e 53) (e 54) w) → (thenE (W88 k88_11 Q) Q) .normal e w := fun e w h => then_N (s88_11 (R := R) (Q := Q) (K1 := K1) hN hX2 e w h)
  exact rgA 14 (fun e w => m88_11 R K1 (e 8) (e 10) (e 52) (e 53) (e 54) w) h hN
theorem s88_9 {R : VP} {Q : EQ} (hN : ∀ e w, (m88_7 R (e 10) w) → Q .normal e w) (e : Env) (w : World) (h : m88_9 R (e 8) (e 10) (e 52) (e 53) w) : W88 k88_9 Q e w := by
  unfold m88_9 at h
  refine block_ok 2 (by kernel_rfl) ?_
  have hX2 : ∀ e w, (m88_7 R (e 10) w) → (inBlockE 2 Q) (.exit 2) e w := fun e w h => inBlock_same (Q := Q) 2 (hN e w h)
  refine loop_ok' (fun (e : Env) => e 53) [8, 10, 52] (by kernel_rfl) (by kernel_rfl) h (fun K e' w' hk h' => ?_)
  have r8 : e' 8 = e 8 := hk 8 (by decide)
  have r10 : e' 10 = e 10 := hk 10 (by decide)
  have r52 : e' 52 = e 52 := hk 52 (by decide)
  have hX2 : ∀ e w, (m88_7 R (e 10) w) → (thenE (fun (e : Env) w => K (e 53) w) (inBlockE 2 Q)) (.exit 2) e w := fun e w h => then_X (hX2 e w h)
  exact s88_10 (R := R) (Q := (thenE (fun (e : Env) w => K (e 53) w) (inBlockE 2 Q))) (K1 := K) (fun _ _ h => then_N h) hX2 e' w' (by rw [r8, r10, r52]; exact h')
theorem s88_6 {R : VP} {Q : EQ} (hR : ∀ e w, (R (Value.tuple #[(e 6), (e 7)]) w) → Q .ret e w) (e : Env) (w : World) (h : m88_6 R (e 8) (e 10) w) : W88 k88_6 Q e w := by
  unfold m88_6 at h
  refine seA ?_
  have hN : ∀ e w, (m88_7 R (e 10) w) → (thenE (W88 k88_7 Q) Q) .normal e w := fun e w h => then_N (s88_7 (R := R) (Q := Q) hR e w h)
  refine seA ?_
  have hN : ∀ e w, (m88_9 R (e 8) (e 10) (e 52) (e 53) w) → (thenE (W88 k88_9 (thenE (W88 k88_7 Q) Q)) (thenE (W88 k88_7 Q) Q)) .normal e w := fun e w h => then_N (s88_9 (R := R) (Q := (thenE (W88 k88_7 Q) Q)) hN e w h)
  exact rgA 13 (fun e w => m88_9 R (e 8) (e 10) (e 52) (e 53) w) h hN
theorem s88_19 {R : VP} {K1 : VP} {Q : EQ} (hN : ∀ e w, (K1 (e 34) w) → Q .normal e w) (hX0 : ∀ e w, (m88_6 R (e 8) (e 10) w) → Q (.exit 0) e w) (e : Env) (w : World) (h : m88_19 R K1 (e 2) (e 8) (e 10) (e 33) (e 34) (e 35) w) : W88 k88_19 Q e w := by
  unfold m88_19 at h
  refine seA ?_
  have hN : ∀ e w, (m88_20 R K1 (e 2) (e 8) (e 10) (e 33) (e 34) w) → (thenE (W88 k88_20 Q) Q) .normal e w := fun e w h => then_N (s88_20 (R := R) (Q := Q) (K1 := K1) hN e w h)
  have hX0 : ∀ e w, (m88_6 R (e 8) (e 10) w) → (thenE (W88 k88_20 Q) Q) (.exit 0) e w := fun e w h => then_X (hX0 e w h)
  refine coA (Operand.tmp 35) h (fun h1 => ?_) (fun h1 => ?_)
  · exact skA (hN _ _ h1)
  · exact exA 0 (hX0 _ _ h1)
theorem s88_18 {R : VP} {K1 : VP} {Q : EQ} (hN : ∀ e w, (K1 (e 34) w) → Q .normal e w) (hX0 : ∀ e w, (m88_6 R (e 8) (e 10) w) → Q (.exit 0) e w) (e : Env) (w : World) (h : m88_18 R K1 (e 2) (e 8) (e 10) (e 33) (e 34) w) : W88 k88_18 Q e w := by
  unfold m88_18 at h
  refine seA ?_
  have hN : ∀ e w, (m88_19 R K1 (e 2) (e 8) (e 10) (e 33) (e 34) (e 35) w) → (thenE (W88 k88_19 Q) Q) .normal e w := fun e w h => then_N (s88_19 (R := R) (Q := Q) (K1 := K1) hN hX0 e w h)
  exact rgA 8 (fun e w => m88_19 R K1 (e 2) (e 8) (e 10) (e 33) (e 34) (e 35) w) h hN
theorem s88_17 {R : VP} {Q : EQ} (hN : ∀ e w, (m88_6 R (e 8) (e 10) w) → Q .normal e w) (e : Env) (w : World) (h : m88_17 R (e 2) (e 8) (e 10) (e 33) (e 34) w) : W88 k88_17 Q e w := by
  unfold m88_17 at h
  refine block_ok 0 (by kernel_rfl) ?_
  have hX0 : ∀ e w, (m88_6 R (e 8) (e 10) w) → (inBlockE 0 Q) (.exit 0) e w := fun e w h => inBlock_same (Q := Q) 0 (hN e w h)
  refine loop_ok' (fun (e : Env) => e 34) [2, 8, 10, 33] (by kernel_rfl) (by kernel_rfl) h (fun K e' w' hk h' => ?_)
  have r2 : e' 2 = e 2 := hk 2 (by decide)
  have r8 : e' 8 = e 8 := hk 8 (by decide)
  have r10 : e' 10 = e 10 := hk 10 (by decide)
  have r33 : e' 33 = e 33 := hk 33 (by decide)
  have hX0 : ∀ e w, (m88_6 R (e 8) (e 10) w) → (thenE (fun (e : Env) w => K (e 34) w) (inBlockE 0 Q)) (.exit 0) e w := fun e w h => then_X (hX0 e w h)
  exact s88_18 (R := R) (Q := (thenE (fun (e : Env) w => K (e 34) w) (inBlockE 0 Q))) (K1 := K) (fun _ _ h => then_N h) hX0 e' w' (by rw [r2, r8, r10, r33]; exact h')
theorem s88_5 {R : VP} {Q : EQ} (hR : ∀ e w, (R (Value.tuple #[(e 6), (e 7)]) w) → Q .ret e w) (e : Env) (w : World) (h : m88_5 R (e 0) (e 2) (e 8) (e 10) w) : W88 k88_5 Q e w := by
  unfold m88_5 at h
  refine seA ?_
  have hN : ∀ e w, (m88_6 R (e 8) (e 10) w) → (thenE (W88 k88_6 Q) Q) .normal e w := fun e w h => then_N (s88_6 (R := R) (Q := Q) hR e w h)
  refine seA ?_
  have hN : ∀ e w, (m88_17 R (e 2) (e 8) (e 10) (e 33) (e 34) w) → (thenE (W88 k88_17 (thenE (W88 k88_6 Q) Q)) (thenE (W88 k88_6 Q) Q)) .normal e w := fun e w h => then_N (s88_17 (R := R) (Q := (thenE (W88 k88_6 Q) Q)) hN e w h)
  exact rgA 7 (fun e w => m88_17 R (e 2) (e 8) (e 10) (e 33) (e 34) w) h hN
theorem s88_24 {R : VP} {Q : EQ} (hN : ∀ e w, (m88_5 R (e 0) (e 2) (e 8) (e 10) w) → Q .normal e w) (hR : ∀ e w, (R (Value.tuple #[(e 6), (e 7)]) w) → Q .ret e w) (e : Env) (w : World) (h : m88_24 R (e 0) (e 2) (e 8) (e 10) (e 28) w) : W88 k88_24 Q e w := by
  unfold m88_24 at h
  refine coA (Operand.tmp 28) h (fun h1 => ?_) (fun h1 => ?_)
  · refine seA ?_
    have hN : ∀ e w, (m88_25 R (e 6) (e 7) w) → (thenE (W88 k88_25 Q) Q) .normal e w := fun e w h => then_N (s88_25 (R := R) (Q := Q) hR e w h)
    exact rgA 6 (fun e w => m88_25 R (e 6) (e 7) w) h1 hN
  · exact skA (hN _ _ h1)
theorem s88_4 {R : VP} {Q : EQ} (hR : ∀ e w, (R (Value.tuple #[(e 6), (e 7)]) w) → Q .ret e w) (e : Env) (w : World) (h : m88_4 R (e 0) (e 2) (e 8) (e 10) w) : W88 k88_4 Q e w := by
  unfold m88_4 at h
  refine seA ?_
  have hN : ∀ e w, (m88_5 R (e 0) (e 2) (e 8) (e 10) w) → (thenE (W88 k88_5 Q) Q) .normal e w := fun e w h => then_N (s88_5 (R := R) (Q := Q) hR e w h)
  have hR : ∀ e w, (R (Value.tuple #[(e 6), (e 7)]) w) → (thenE (W88 k88_5 Q) Q) .ret e w := fun e w h => then_R (hR e w h)
  refine seA ?_
  have hN : ∀ e w, (m88_24 R (e 0) (e 2) (e 8) (e 10) (e 28) w) → (thenE (W88 k88_24 (thenE (W88 k88_5 Q) Q)) (thenE (W88 k88_5 Q) Q)) .normal e w := fun e w h => then_N (s88_24 (R := R) (Q := (thenE (W88 k88_5 Q) Q)) hN hR e w h)
  exact rgA 5 (fun e w => m88_24 R (e 0) (e 2) (e 8) (e 10) (e 28) w) h hN
theorem s88_3 {R : VP} {Q : EQ} (hR : ∀ e w, (R (Value.tuple #[(e 6), (e 7)]) w) → Q .ret e w) (e : Env) (w : World) (h : m88_3 R (e 0) (e 2) (e 8) w) : W88 k88_3 Q e w := by
  unfold m88_3 at h
  refine seA ?_
  have hN : ∀ e w, (m88_4 R (e 0) (e 2) (e 8) (e 10) w) → (thenE (W88 k88_4 Q) Q) .normal e w := fun e w h => then_N (s88_4 (R := R) (Q := Q) hR e w h)
  exact rgA 4 (fun e w => m88_4 R (e 0) (e 2) (e 8) (e 10) w) h hN
theorem s88_26 {R : VP} {Q : EQ} (hN : ∀ e w, (m88_3 R (e 0) (e 2) (e 8) w) → Q .normal e w) (hR : ∀ e w, (R (Value.tuple #[(e 6), (e 7)]) w) → Q .ret e w) (e : Env) (w : World) (h : m88_26 R (e 0) (e 2) (e 8) (e 20) w) : W88 k88_26 Q e w := by
  unfold m88_26 at h
  refine coA (Operand.tmp 20) h (fun h1 => ?_) (fun h1 => ?_)
  · refine seA ?_
    have hN : ∀ e w, (m88_27 R (e 6) (e 7) w) → (thenE (W88 k88_27 Q) Q) .normal e w := fun e w h => then_N (s88_27 (R := R) (Q := Q) hR e w h)
    exact rgA 3 (fun e w => m88_27 R (e 6) (e 7) w) h1 hN
  · exact skA (hN _ _ h1)
theorem s88_2 {R : VP} {Q : EQ} (hR : ∀ e w, (R (Value.tuple #[(e 6), (e 7)]) w) → Q .ret e w) (e : Env) (w : World) (h : m88_2 R (e 0) (e 2) (e 8) (e 9) w) : W88 k88_2 Q e w := by
  unfold m88_2 at h
  refine seA ?_
  have hN : ∀ e w, (m88_3 R (e 0) (e 2) (e 8) w) → (thenE (W88 k88_3 Q) Q) .normal e w := fun e w h => then_N (s88_3 (R := R) (Q := Q) hR e w h)
  have hR : ∀ e w, (R (Value.tuple #[(e 6), (e 7)]) w) → (thenE (W88 k88_3 Q) Q) .ret e w := fun e w h => then_R (hR e w h)
  refine seA ?_
  have hN : ∀ e w, (m88_26 R (e 0) (e 2) (e 8) (e 20) w) → (thenE (W88 k88_26 (thenE (W88 k88_3 Q) Q)) (thenE (W88 k88_3 Q) Q)) .normal e w := fun e w h => then_N (s88_26 (R := R) (Q := (thenE (W88 k88_3 Q) Q)) hN hR e w h)
  exact rgA 2 (fun e w => m88_26 R (e 0) (e 2) (e 8) (e 20) w) h hN
theorem s88_1 {R : VP} {Q : EQ} (hR : ∀ e w, (R (Value.tuple #[(e 6), (e 7)]) w) → Q .ret e w) (e : Env) (w : World) (h : m88_1 R (e 0) (e 1) (e 2) w) : W88 k88_1 Q e w := by
  unfold m88_1 at h
  refine seA ?_
  have hN : ∀ e w, (m88_2 R (e 0) (e 2) (e 8) (e 9) w) → (thenE (W88 k88_2 Q) Q) .normal e w := fun e w h => then_N (s88_2 (R := R) (Q := Q) hR e w h)
  exact rgA 1 (fun e w => m88_2 R (e 0) (e 2) (e 8) (e 9) w) h hN
theorem s88_0 {R : VP} {Q : EQ} (hR : ∀ e w, (R (Value.tuple #[(e 6), (e 7)]) w) → Q .ret e w) (e : Env) (w : World) (h : m88_0 R (e 0) (e 1) (e 2) w) : W88 k88_0 Q e w := by
  unfold m88_0 at h
  refine seA ?_
  have hN : ∀ e w, (m88_1 R (e 0) (e 1) (e 2) w) → (thenE (W88 k88_1 Q) Q) .normal e w := fun e w h => then_N (s88_1 (R := R) (Q := Q) hR e w h)
  exact rgA 0 (fun e w => m88_1 R (e 0) (e 1) (e 2) w) h hN
abbrev m88 (R : VP) (parts0 members1 old2 : Value) (w : World) : Prop := m88_0 R parts0 members1 old2 w
theorem s88 (parts0 members1 old2 : Value) {R : VP} {w : World} (h : m88 R parts0 members1 old2 w) :
    Calls Try.prog 88 #[parts0, members1, old2] w fun e w' => ∃ v, e = .returned v ∧ R v w' :=
  calls_of_cwp (st := (fun i => cond (Nat.beq i 18) 12 (0))) (c := k88_0) (by kernel_rfl) Try.func88 (by kernel_rfl) (Nat.le_of_ble_eq_true (by kernel_rfl)) (by kernel_rfl)
    (s88_0 (R := R) (Q := endE Try.prog Try.f88 R) (fun e w h => kcast (by kernel_rfl) h) (argsE #[parts0, members1, old2]) w (kcast (by kernel_rfl) h))
/-! ### headgate/headgateref01.Same -/
def m32_13 (R : VP) (t4 : Value) (w : World) : Prop :=
  R t4 w
def m32_10 (R : VP) (K1 : VP) (t4 : Value) (w : World) : Prop :=
  R t4 w
def m32_8 (R : VP) (K1 : VP) (a0 b1 i5 : Value) (w : World) : Prop :=
  valP Try.prog (binS BinOp.add 3 (Operand.tmp 15) (Operand.const (Value.int IntKind.i64 1)) i5 (Value.int IntKind.i64 1)) w fun t16 w =>
  K1 t16 w
def m32_9 (R : VP) (K1 : VP) (a0 b1 i5 t25 : Value) (w : World) : Prop :=
  condP t25
  (m32_10 R K1 (Value.bool false) w)
  (m32_8 R K1 a0 b1 i5 w)
def m32_7 (R : VP) (K1 : VP) (a0 b1 i5 : Value) (w : World) : Prop :=
  valQ Try.prog (Instr.indexAt 28 a0 i5) w fun t19 =>
  valQ Try.prog (Instr.loadAt 3 t19) w fun t20 =>
  valQ Try.prog (Instr.indexAt 28 b1 i5) w fun t23 =>
  valQ Try.prog (Instr.loadAt 3 t23) w fun t24 =>
  valQ Try.prog (binS BinOp.neq 3 (Operand.tmp 20) (Operand.tmp 24) t20 t24) w fun t25 =>
  anyDraw w fun w =>
  m32_9 R K1 a0 b1 i5 t25 w
def m32_4 (R : VP) (t4 : Value) (w : World) : Prop :=
  R t4 w
def m32_3 (R : VP) (w : World) : Prop :=
  m32_4 R (Value.bool true) w
def m32_11 (R : VP) (K1 : VP) (a0 b1 i5 t14 : Value) (w : World) : Prop :=
  condP t14
  (m32_7 R K1 a0 b1 i5 w)
  (m32_3 R w)
def m32_6 (R : VP) (K1 : VP) (a0 b1 i5 : Value) (w : World) : Prop :=
  builtinP Try.prog Builtin.len #[28] 3 #[false] #[a0] w fun t13 w =>
  valP Try.prog (binS BinOp.lss 3 (Operand.tmp 11) (Operand.tmp 13) i5 t13) w fun t14 w =>
  m32_11 R K1 a0 b1 i5 t14 w
def m32_5 (R : VP) (a0 b1 i5 : Value) (w : World) : Prop :=
  loopP (fun (K1 : VP) (s : Value) w => m32_6 R K1 a0 b1 s w) i5 w
def m32_2 (R : VP) (a0 b1 : Value) (w : World) : Prop :=
  m32_5 R a0 b1 (Value.int IntKind.i64 0) w
def m32_12 (R : VP) (a0 b1 t10 : Value) (w : World) : Prop :=
  condP t10
  (m32_13 R (Value.bool false) w)
  (m32_2 R a0 b1 w)
def m32_1 (R : VP) (a0 b1 : Value) (w : World) : Prop :=
  builtinP Try.prog Builtin.len #[28] 3 #[false] #[a0] w fun t7 w =>
  builtinP Try.prog Builtin.len #[28] 3 #[false] #[b1] w fun t9 w =>
  valP Try.prog (binS BinOp.neq 3 (Operand.tmp 7) (Operand.tmp 9) t7 t9) w fun t10 w =>
  m32_12 R a0 b1 t10 w
def m32_0 (R : VP) (a0 b1 : Value) (w : World) : Prop :=
  m32_1 R a0 b1 w
abbrev W32 := cwp Try.prog (fun i => cond (Nat.beq i 6) 1 (0))
noncomputable def k32_0 : Code := (bodyOf Try.f32)
noncomputable def k32_1 : Code := (c2 k32_0)
noncomputable def k32_2 : Code := (c2 k32_1)
noncomputable def k32_3 : Code := (c2 k32_2)
noncomputable def k32_4 : Code := (c2 k32_3)
noncomputable def k32_5 : Code := (c2 (c1 k32_2))
noncomputable def k32_6 : Code := (c1 (c1 k32_5))
noncomputable def k32_7 : Code := (c2 k32_6)
noncomputable def k32_8 : Code := (c2 k32_7)
noncomputable def k32_9 : Code := (c2 (c1 (c1 k32_7)))
noncomputable def k32_10 : Code := (c2 (c1 k32_9))
noncomputable def k32_11 : Code := (c2 (c1 k32_6))
noncomputable def k32_12 : Code := (c2 (c1 k32_1))
noncomputable def k32_13 : Code := (c2 (c1 k32_12))
theorem s32_13 {R : VP} {Q : EQ} (hR : ∀ e w, (R (e 4) w) → Q .ret e w) (e : Env) (w : World) (h : m32_13 R (e 4) w) : W32 k32_13 Q e w := by
  unfold m32_13 at h
  exact reA (hR _ _ h)
theorem s32_10 {R : VP} {K1 : VP} {Q : EQ} (hR : ∀ e w, (R (e 4) w) → Q .ret e w) (e : Env) (w : World) (h : m32_10 R K1 (e 4) w) : W32 k32_10 Q e w := by
  unfold m32_10 at h
  exact reA (hR _ _ h)
theorem s32_8 {R : VP} {K1 : VP} {Q : EQ} (hN : ∀ e w, (K1 (e 5) w) → Q .normal e w) (e : Env) (w : World) (h : m32_8 R K1 (e 0) (e 1) (e 5) w) : W32 k32_8 Q e w := by
  unfold m32_8 at h
  exact rgA 5 (fun e w => K1 (e 5) w) h hN
theorem s32_9 {R : VP} {K1 : VP} {Q : EQ} (hN : ∀ e w, (m32_8 R K1 (e 0) (e 1) (e 5) w) → Q .normal e w) (hR : ∀ e w, (R (e 4) w) → Q .ret e w) (e : Env) (w : World) (h : m32_9 R K1 (e 0) (e 1) (e 5) (e 25) w) : W32 k32_9 Q e w := by
  unfold m32_9 at h
  refine coA (Operand.tmp 25) h (fun h1 => ?_) (fun h1 => ?_)
  · refine seA ?_
    have hN : ∀ e w, (m32_10 R K1 (e 4) w) → (thenE (W32 k32_10 Q) Q) .normal e w := fun e w h => then_N (s32_10 (R := R) (Q := Q) (K1 := K1) hR e w h)
    exact rgA 7 (fun e w => m32_10 R K1 (e 4) w) h1 hN
  · exact skA (hN _ _ h1)
theorem s32_7 {R : VP} {K1 : VP} {Q : EQ} (hN : ∀ e w, (K1 (e 5) w) → Q .normal e w) (hR : ∀ e w, (R (e 4) w) → Q .ret e w) (e : Env) (w : World) (h : m32_7 R K1 (e 0) (e 1) (e 5) w) : W32 k32_7 Q e w := by
  unfold m32_7 at h
  refine seA ?_
  have hN : ∀ e w, (m32_8 R K1 (e 0) (e 1) (e 5) w) → (thenE (W32 k32_8 Q) Q) .normal e w := fun e w h => then_N (s32_8 (R := R) (Q := Q) (K1 := K1) hN e w h)
  have hR : ∀ e w, (R (e 4) w) → (thenE (W32 k32_8 Q) Q) .ret e w := fun e w h => then_R (hR e w h)
  refine block_ok 1 (by kernel_rfl) ?_
  have hN : ∀ e w, (m32_8 R K1 (e 0) (e 1) (e 5) w) → (inBlockE 1 (thenE (W32 k32_8 Q) Q)) .normal e w := fun e w h => block_N (hN e w h)
  have hR : ∀ e w, (R (e 4) w) → (inBlockE 1 (thenE (W32 k32_8 Q) Q)) .ret e w := fun e w h => block_R (hR e w h)
  refine seA ?_
  have hN : ∀ e w, (m32_9 R K1 (e 0) (e 1) (e 5) (e 25) w) → (thenE (W32 k32_9 (inBlockE 1 (thenE (W32 k32_8 Q) Q))) (inBlockE 1 (thenE (W32 k32_8 Q) Q))) .normal e w := fun e w h => then_N (s32_9 (R := R) (Q := (inBlockE 1 (thenE (W32 k32_8 Q) Q))) (K1 := K1) hN hR e w h)
  exact quA 6 (fun e w => m32_9 R K1 (e 0) (e 1) (e 5) (e 25) w) h hN
theorem s32_4 {R : VP} {Q : EQ} (hR : ∀ e w, (R (e 4) w) → Q .ret e w) (e : Env) (w : World) (h : m32_4 R (e 4) w) : W32 k32_4 Q e w := by
  unfold m32_4 at h
  exact reA (hR _ _ h)
theorem s32_3 {R : VP} {Q : EQ} (hR : ∀ e w, (R (e 4) w) → Q .ret e w) (e : Env) (w : World) (h : m32_3 R w) : W32 k32_3 Q e w := by
  unfold m32_3 at h
  refine seA ?_
  have hN : ∀ e w, (m32_4 R (e 4) w) → (thenE (W32 k32_4 Q) Q) .normal e w := fun e w h => then_N (s32_4 (R := R) (Q := Q) hR e w h)
  exact rgA 8 (fun e w => m32_4 R (e 4) w) h hN
theorem s32_11 {R : VP} {K1 : VP} {Q : EQ} (hN : ∀ e w, (m32_7 R K1 (e 0) (e 1) (e 5) w) → Q .normal e w) (hX0 : ∀ e w, (m32_3 R w) → Q (.exit 0) e w) (e : Env) (w : World) (h : m32_11 R K1 (e 0) (e 1) (e 5) (e 14) w) : W32 k32_11 Q e w := by
  unfold m32_11 at h
  refine coA (Operand.tmp 14) h (fun h1 => ?_) (fun h1 => ?_)
  · exact skA (hN _ _ h1)
  · exact exA 0 (hX0 _ _ h1)
theorem s32_6 {R : VP} {K1 : VP} {Q : EQ} (hN : ∀ e w, (K1 (e 5) w) → Q .normal e w) (hR : ∀ e w, (R (e 4) w) → Q .ret e w) (hX0 : ∀ e w, (m32_3 R w) → Q (.exit 0) e w) (e : Env) (w : World) (h : m32_6 R K1 (e 0) (e 1) (e 5) w) : W32 k32_6 Q e w := by
  unfold m32_6 at h
  refine seA ?_
  have hN : ∀ e w, (m32_7 R K1 (e 0) (e 1) (e 5) w) → (thenE (W32 k32_7 Q) Q) .normal e w := fun e w h => then_N (s32_7 (R := R) (Q := Q) (K1 := K1) hN hR e w h)
  have hX0 : ∀ e w, (m32_3 R w) → (thenE (W32 k32_7 Q) Q) (.exit 0) e w := fun e w h => then_X (hX0 e w h)
  refine seA ?_
  have hN : ∀ e w, (m32_11 R K1 (e 0) (e 1) (e 5) (e 14) w) → (thenE (W32 k32_11 (thenE (W32 k32_7 Q) Q)) (thenE (W32 k32_7 Q) Q)) .normal e w := fun e w h => then_N (s32_11 (R := R) (Q := (thenE (W32 k32_7 Q) Q)) (K1 := K1) hN hX0 e w h)
  exact rgA 4 (fun e w => m32_11 R K1 (e 0) (e 1) (e 5) (e 14) w) h hN
theorem s32_5 {R : VP} {Q : EQ} (hN : ∀ e w, (m32_3 R w) → Q .normal e w) (hR : ∀ e w, (R (e 4) w) → Q .ret e w) (e : Env) (w : World) (h : m32_5 R (e 0) (e 1) (e 5) w) : W32 k32_5 Q e w := by
  unfold m32_5 at h
  refine block_ok 0 (by kernel_rfl) ?_
  have hX0 : ∀ e w, (m32_3 R w) → (inBlockE 0 Q) (.exit 0) e w := fun e w h => inBlock_same (Q := Q) 0 (hN e w h)
  have hR : ∀ e w, (R (e 4) w) → (inBlockE 0 Q) .ret e w := fun e w h => block_R (hR e w h)
  refine loop_ok' (fun (e : Env) => e 5) [0, 1] (by kernel_rfl) (by kernel_rfl) h (fun K e' w' hk h' => ?_)
  have r0 : e' 0 = e 0 := hk 0 (by decide)
  have r1 : e' 1 = e 1 := hk 1 (by decide)
  have hR : ∀ e w, (R (e 4) w) → (thenE (fun (e : Env) w => K (e 5) w) (inBlockE 0 Q)) .ret e w := fun e w h => then_R (hR e w h)
  have hX0 : ∀ e w, (m32_3 R w) → (thenE (fun (e : Env) w => K (e 5) w) (inBlockE 0 Q)) (.exit 0) e w := fun e w h => then_X (hX0 e w h)
  exact s32_6 (R := R) (Q := (thenE (fun (e : Env) w => K (e 5) w) (inBlockE 0 Q))) (K1 := K) (fun _ _ h => then_N h) hR hX0 e' w' (by rw [r0, r1]; exact h')
theorem s32_2 {R : VP} {Q : EQ} (hR : ∀ e w, (R (e 4) w) → Q .ret e w) (e : Env) (w : World) (h : m32_2 R (e 0) (e 1) w) : W32 k32_2 Q e w := by
  unfold m32_2 at h
  refine seA ?_
  have hN : ∀ e w, (m32_3 R w) → (thenE (W32 k32_3 Q) Q) .normal e w := fun e w h => then_N (s32_3 (R := R) (Q := Q) hR e w h)
  have hR : ∀ e w, (R (e 4) w) → (thenE (W32 k32_3 Q) Q) .ret e w := fun e w h => then_R (hR e w h)
  refine seA ?_
  have hN : ∀ e w, (m32_5 R (e 0) (e 1) (e 5) w) → (thenE (W32 k32_5 (thenE (W32 k32_3 Q) Q)) (thenE (W32 k32_3 Q) Q)) .normal e w := fun e w h => then_N (s32_5 (R := R) (Q := (thenE (W32 k32_3 Q) Q)) hN hR e w h)
  exact rgA 3 (fun e w => m32_5 R (e 0) (e 1) (e 5) w) h hN
theorem s32_12 {R : VP} {Q : EQ} (hN : ∀ e w, (m32_2 R (e 0) (e 1) w) → Q .normal e w) (hR : ∀ e w, (R (e 4) w) → Q .ret e w) (e : Env) (w : World) (h : m32_12 R (e 0) (e 1) (e 10) w) : W32 k32_12 Q e w := by
  unfold m32_12 at h
  refine coA (Operand.tmp 10) h (fun h1 => ?_) (fun h1 => ?_)
  · refine seA ?_
    have hN : ∀ e w, (m32_13 R (e 4) w) → (thenE (W32 k32_13 Q) Q) .normal e w := fun e w h => then_N (s32_13 (R := R) (Q := Q) hR e w h)
    exact rgA 2 (fun e w => m32_13 R (e 4) w) h1 hN
  · exact skA (hN _ _ h1)
theorem s32_1 {R : VP} {Q : EQ} (hR : ∀ e w, (R (e 4) w) → Q .ret e w) (e : Env) (w : World) (h : m32_1 R (e 0) (e 1) w) : W32 k32_1 Q e w := by
  unfold m32_1 at h
  refine seA ?_
  have hN : ∀ e w, (m32_2 R (e 0) (e 1) w) → (thenE (W32 k32_2 Q) Q) .normal e w := fun e w h => then_N (s32_2 (R := R) (Q := Q) hR e w h)
  have hR : ∀ e w, (R (e 4) w) → (thenE (W32 k32_2 Q) Q) .ret e w := fun e w h => then_R (hR e w h)
  refine seA ?_
  have hN : ∀ e w, (m32_12 R (e 0) (e 1) (e 10) w) → (thenE (W32 k32_12 (thenE (W32 k32_2 Q) Q)) (thenE (W32 k32_2 Q) Q)) .normal e w := fun e w h => then_N (s32_12 (R := R) (Q := (thenE (W32 k32_2 Q) Q)) hN hR e w h)
  exact rgA 1 (fun e w => m32_12 R (e 0) (e 1) (e 10) w) h hN
theorem s32_0 {R : VP} {Q : EQ} (hR : ∀ e w, (R (e 4) w) → Q .ret e w) (e : Env) (w : World) (h : m32_0 R (e 0) (e 1) w) : W32 k32_0 Q e w := by
  unfold m32_0 at h
  refine seA ?_
  have hN : ∀ e w, (m32_1 R (e 0) (e 1) w) → (thenE (W32 k32_1 Q) Q) .normal e w := fun e w h => then_N (s32_1 (R := R) (Q := Q) hR e w h)
  exact rgA 0 (fun e w => m32_1 R (e 0) (e 1) w) h hN
abbrev m32 (R : VP) (a0 b1 : Value) (w : World) : Prop := m32_0 R a0 b1 w
theorem s32 (a0 b1 : Value) {R : VP} {w : World} (h : m32 R a0 b1 w) :
    Calls Try.prog 32 #[a0, b1] w fun e w' => ∃ v, e = .returned v ∧ R v w' :=
  calls_of_cwp (st := (fun i => cond (Nat.beq i 6) 1 (0))) (c := k32_0) (by kernel_rfl) Try.func32 (by kernel_rfl) (Nat.le_of_ble_eq_true (by kernel_rfl)) (by kernel_rfl)
    (s32_0 (R := R) (Q := endE Try.prog Try.f32 R) (fun e w h => kcast (by kernel_rfl) h) (argsE #[a0, b1]) w (kcast (by kernel_rfl) h))
/-! ### headgate/headgateref09.Count -/
def m21_8 (R : VP) (K1 : (Value × Value) → World → Prop) (l0 m1 n5 i6 : Value) (w : World) : Prop :=
  valP Try.prog (binS BinOp.add 3 (Operand.tmp 11) (Operand.const (Value.int IntKind.i64 1)) i6 (Value.int IntKind.i64 1)) w fun t12 w =>
  K1 (n5, t12) w
def m21_9 (R : VP) (K1 : (Value × Value) → World → Prop) (l0 m1 n5 i6 t18 : Value) (w : World) : Prop :=
  condP t18
  (valP Try.prog (binS BinOp.add 3 (Operand.tmp 19) (Operand.const (Value.int IntKind.i64 1)) n5 (Value.int IntKind.i64 1)) w fun t20 w =>
  m21_8 R K1 l0 m1 t20 i6 w)
  (m21_8 R K1 l0 m1 n5 i6 w)
def m21_7 (R : VP) (K1 : (Value × Value) → World → Prop) (l0 m1 n5 i6 : Value) (w : World) : Prop :=
  valP Try.prog (Instr.indexAt 28 l0 i6) w fun t15 w =>
  valP Try.prog (Instr.loadAt 3 t15) w fun t16 w =>
  valP Try.prog (binS BinOp.eql 3 (Operand.tmp 16) (Operand.tmp 17) t16 m1) w fun t18 w =>
  m21_9 R K1 l0 m1 n5 i6 t18 w
def m21_4 (R : VP) (t4 : Value) (w : World) : Prop :=
  R t4 w
def m21_3 (R : VP) (n5 : Value) (w : World) : Prop :=
  m21_4 R n5 w
def m21_10 (R : VP) (K1 : (Value × Value) → World → Prop) (l0 m1 n5 i6 t10 : Value) (w : World) : Prop :=
  condP t10
  (m21_7 R K1 l0 m1 n5 i6 w)
  (m21_3 R n5 w)
def m21_6 (R : VP) (K1 : (Value × Value) → World → Prop) (l0 m1 n5 i6 : Value) (w : World) : Prop :=
  builtinP Try.prog Builtin.len #[28] 3 #[false] #[l0] w fun t9 w =>
  valP Try.prog (binS BinOp.lss 3 (Operand.tmp 7) (Operand.tmp 9) i6 t9) w fun t10 w =>
  m21_10 R K1 l0 m1 n5 i6 t10 w
def m21_5 (R : VP) (l0 m1 n5 i6 : Value) (w : World) : Prop :=
  loopP (fun (K1 : (Value × Value) → World → Prop) (s : Value × Value) w => m21_6 R K1 l0 m1 s.1 s.2 w) (n5, i6) w
def m21_2 (R : VP) (l0 m1 n5 : Value) (w : World) : Prop :=
  m21_5 R l0 m1 n5 (Value.int IntKind.i64 0) w
def m21_1 (R : VP) (l0 m1 : Value) (w : World) : Prop :=
  m21_2 R l0 m1 (Value.int IntKind.i64 0) w
def m21_0 (R : VP) (l0 m1 : Value) (w : World) : Prop :=
  m21_1 R l0 m1 w
abbrev W21 := cwp Try.prog (fun i => 0)
noncomputable def k21_0 : Code := (bodyOf Try.f21)
noncomputable def k21_1 : Code := (c2 k21_0)
noncomputable def k21_2 : Code := (c2 k21_1)
noncomputable def k21_3 : Code := (c2 k21_2)
noncomputable def k21_4 : Code := (c2 k21_3)
noncomputable def k21_5 : Code := (c2 (c1 k21_2))
noncomputable def k21_6 : Code := (c1 (c1 k21_5))
noncomputable def k21_7 : Code := (c2 k21_6)
noncomputable def k21_8 : Code := (c2 k21_7)
noncomputable def k21_9 : Code := (c2 (c1 (c1 k21_7)))
noncomputable def k21_10 : Code := (c2 (c1 k21_6))
theorem s21_8 {R : VP} {K1 : (Value × Value) → World → Prop} {Q : EQ} (hN : ∀ e w, (K1 ((e 5), (e 6)) w) → Q .normal e w) (e : Env) (w : World) (h : m21_8 R K1 (e 0) (e 1) (e 5) (e 6) w) : W21 k21_8 Q e w := by
  unfold m21_8 at h
  exact rgA 4 (fun e w => K1 ((e 5), (e 6)) w) h hN
theorem s21_9 {R : VP} {K1 : (Value × Value) → World → Prop} {Q : EQ} (hN : ∀ e w, (m21_8 R K1 (e 0) (e 1) (e 5) (e 6) w) → Q .normal e w) (e : Env) (w : World) (h : m21_9 R K1 (e 0) (e 1) (e 5) (e 6) (e 18) w) : W21 k21_9 Q e w := by
  unfold m21_9 at h
  refine coA (Operand.tmp 18) h (fun h1 => ?_) (fun h1 => ?_)
  · exact rgA 6 (fun e w => m21_8 R K1 (e 0) (e 1) (e 5) (e 6) w) h1 hN
  · exact skA (hN _ _ h1)
theorem s21_7 {R : VP} {K1 : (Value × Value) → World → Prop} {Q : EQ} (hN : ∀ e w, (K1 ((e 5), (e 6)) w) → Q .normal e w) (e : Env) (w : World) (h : m21_7 R K1 (e 0) (e 1) (e 5) (e 6) w) : W21 k21_7 Q e w := by
  unfold m21_7 at h
  refine seA ?_
  have hN : ∀ e w, (m21_8 R K1 (e 0) (e 1) (e 5) (e 6) w) → (thenE (W21 k21_8 Q) Q) .normal e w := fun e w h => then_N (s21_8 (R := R) (Q := Q) (K1 := K1) hN e w h)
  refine block_ok 1 (by kernel_rfl) ?_
  have hN : ∀ e w, (m21_8 R K1 (e 0) (e 1) (e 5) (e 6) w) → (inBlockE 1 (thenE (W21 k21_8 Q) Q)) .normal e w := fun e w h => block_N (hN e w h)
  refine seA ?_
  have hN : ∀ e w, (m21_9 R K1 (e 0) (e 1) (e 5) (e 6) (e 18) w) → (thenE (W21 k21_9 (inBlockE 1 (thenE (W21 k21_8 Q) Q))) (inBlockE 1 (thenE (W21 k21_8 Q) Q))) .normal e w := fun e w h => then_N (s21_9 (R := R) (Q := (inBlockE 1 (thenE (W21 k21_8 Q) Q))) (K1 := K1) hN e w h)
  exact rgA 5 (fun e w => m21_9 R K1 (e 0) (e 1) (e 5) (e 6) (e 18) w) h hN
theorem s21_4 {R : VP} {Q : EQ} (hR : ∀ e w, (R (e 4) w) → Q .ret e w) (e : Env) (w : World) (h : m21_4 R (e 4) w) : W21 k21_4 Q e w := by
  unfold m21_4 at h
  exact reA (hR _ _ h)
theorem s21_3 {R : VP} {Q : EQ} (hR : ∀ e w, (R (e 4) w) → Q .ret e w) (e : Env) (w : World) (h : m21_3 R (e 5) w) : W21 k21_3 Q e w := by
  unfold m21_3 at h
  refine seA ?_
  have hN : ∀ e w, (m21_4 R (e 4) w) → (thenE (W21 k21_4 Q) Q) .normal e w := fun e w h => then_N (s21_4 (R := R) (Q := Q) hR e w h)
  exact rgA 7 (fun e w => m21_4 R (e 4) w) h hN
theorem s21_10 {R : VP} {K1 : (Value × Value) → World → Prop} {Q : EQ} (hN : ∀ e w, (m21_7 R K1 (e 0) (e 1) (e 5) (e 6) w) → Q .normal e w) (hX0 : ∀ e w, (m21_3 R (e 5) w) → Q (.exit 0) e w) (e : Env) (w : World) (h : m21_10 R K1 (e 0) (e 1) (e 5) (e 6) (e 10) w) : W21 k21_10 Q e w := by
  unfold m21_10 at h
  refine coA (Operand.tmp 10) h (fun h1 => ?_) (fun h1 => ?_)
  · exact skA (hN _ _ h1)
  · exact exA 0 (hX0 _ _ h1)
theorem s21_6 {R : VP} {K1 : (Value × Value) → World → Prop} {Q : EQ} (hN : ∀ e w, (K1 ((e 5), (e 6)) w) → Q .normal e w) (hX0 : ∀ e w, (m21_3 R (e 5) w) → Q (.exit 0) e w) (e : Env) (w : World) (h : m21_6 R K1 (e 0) (e 1) (e 5) (e 6) w) : W21 k21_6 Q e w := by
  unfold m21_6 at h
  refine seA ?_
  have hN : ∀ e w, (m21_7 R K1 (e 0) (e 1) (e 5) (e 6) w) → (thenE (W21 k21_7 Q) Q) .normal e w := fun e w h => then_N (s21_7 (R := R) (Q := Q) (K1 := K1) hN e w h)
  have hX0 : ∀ e w, (m21_3 R (e 5) w) → (thenE (W21 k21_7 Q) Q) (.exit 0) e w := fun e w h => then_X (hX0 e w h)
  refine seA ?_
  have hN : ∀ e w, (m21_10 R K1 (e 0) (e 1) (e 5) (e 6) (e 10) w) → (thenE (W21 k21_10 (thenE (W21 k21_7 Q) Q)) (thenE (W21 k21_7 Q) Q)) .normal e w := fun e w h => then_N (s21_10 (R := R) (Q := (thenE (W21 k21_7 Q) Q)) (K1 := K1) hN hX0 e w h)
  exact rgA 3 (fun e w => m21_10 R K1 (e 0) (e 1) (e 5) (e 6) (e 10) w) h hN
theorem s21_5 {R : VP} {Q : EQ} (hN : ∀ e w, (m21_3 R (e 5) w) → Q .normal e w) (e : Env) (w : World) (h : m21_5 R (e 0) (e 1) (e 5) (e 6) w) : W21 k21_5 Q e w := by
  unfold m21_5 at h
  refine block_ok 0 (by kernel_rfl) ?_
  have hX0 : ∀ e w, (m21_3 R (e 5) w) → (inBlockE 0 Q) (.exit 0) e w := fun e w h => inBlock_same (Q := Q) 0 (hN e w h)
  refine loop_ok' (fun (e : Env) => (e 5, e 6)) [0, 1] (by kernel_rfl) (by kernel_rfl) h (fun K e' w' hk h' => ?_)
  have r0 : e' 0 = e 0 := hk 0 (by decide)
  have r1 : e' 1 = e 1 := hk 1 (by decide)
  have hX0 : ∀ e w, (m21_3 R (e 5) w) → (thenE (fun (e : Env) w => K ((e 5), (e 6)) w) (inBlockE 0 Q)) (.exit 0) e w := fun e w h => then_X (hX0 e w h)
  exact s21_6 (R := R) (Q := (thenE (fun (e : Env) w => K ((e 5), (e 6)) w) (inBlockE 0 Q))) (K1 := K) (fun _ _ h => then_N h) hX0 e' w' (by rw [r0, r1]; exact h')
theorem s21_2 {R : VP} {Q : EQ} (hR : ∀ e w, (R (e 4) w) → Q .ret e w) (e : Env) (w : World) (h : m21_2 R (e 0) (e 1) (e 5) w) : W21 k21_2 Q e w := by
  unfold m21_2 at h
  refine seA ?_
  have hN : ∀ e w, (m21_3 R (e 5) w) → (thenE (W21 k21_3 Q) Q) .normal e w := fun e w h => then_N (s21_3 (R := R) (Q := Q) hR e w h)
  refine seA ?_
  have hN : ∀ e w, (m21_5 R (e 0) (e 1) (e 5) (e 6) w) → (thenE (W21 k21_5 (thenE (W21 k21_3 Q) Q)) (thenE (W21 k21_3 Q) Q)) .normal e w := fun e w h => then_N (s21_5 (R := R) (Q := (thenE (W21 k21_3 Q) Q)) hN e w h)
  exact rgA 2 (fun e w => m21_5 R (e 0) (e 1) (e 5) (e 6) w) h hN
theorem s21_1 {R : VP} {Q : EQ} (hR : ∀ e w, (R (e 4) w) → Q .ret e w) (e : Env) (w : World) (h : m21_1 R (e 0) (e 1) w) : W21 k21_1 Q e w := by
  unfold m21_1 at h
  refine seA ?_
  have hN : ∀ e w, (m21_2 R (e 0) (e 1) (e 5) w) → (thenE (W21 k21_2 Q) Q) .normal e w := fun e w h => then_N (s21_2 (R := R) (Q := Q) hR e w h)
  exact rgA 1 (fun e w => m21_2 R (e 0) (e 1) (e 5) w) h hN
theorem s21_0 {R : VP} {Q : EQ} (hR : ∀ e w, (R (e 4) w) → Q .ret e w) (e : Env) (w : World) (h : m21_0 R (e 0) (e 1) w) : W21 k21_0 Q e w := by
  unfold m21_0 at h
  refine seA ?_
  have hN : ∀ e w, (m21_1 R (e 0) (e 1) w) → (thenE (W21 k21_1 Q) Q) .normal e w := fun e w h => then_N (s21_1 (R := R) (Q := Q) hR e w h)
  exact rgA 0 (fun e w => m21_1 R (e 0) (e 1) w) h hN
abbrev m21 (R : VP) (l0 m1 : Value) (w : World) : Prop := m21_0 R l0 m1 w
theorem s21 (l0 m1 : Value) {R : VP} {w : World} (h : m21 R l0 m1 w) :
    Calls Try.prog 21 #[l0, m1] w fun e w' => ∃ v, e = .returned v ∧ R v w' :=
  calls_of_cwp (st := (fun i => 0)) (c := k21_0) (by kernel_rfl) Try.func21 (by kernel_rfl) (Nat.le_of_ble_eq_true (by kernel_rfl)) (by kernel_rfl)
    (s21_0 (R := R) (Q := endE Try.prog Try.f21 R) (fun e w h => kcast (by kernel_rfl) h) (argsE #[l0, m1]) w (kcast (by kernel_rfl) h))
/-! ### headgate/headgateref09.has -/
def m102_2 (R : VP) (t4 : Value) (w : World) : Prop :=
  R t4 w
def m102_1 (R : VP) (l0 m1 : Value) (w : World) : Prop :=
  callP Try.prog (fnV 21) #[l0, m1] w fun t7 w =>
  valP Try.prog (binS BinOp.gtr 3 (Operand.tmp 7) (Operand.const (Value.int IntKind.i64 0)) t7 (Value.int IntKind.i64 0)) w fun t8 w =>
  m102_2 R t8 w
def m102_0 (R : VP) (l0 m1 : Value) (w : World) : Prop :=
  m102_1 R l0 m1 w
abbrev W102 := cwp Try.prog (fun i => 0)
noncomputable def k102_0 : Code := (bodyOf Try.f102)
noncomputable def k102_1 : Code := (c2 k102_0)
noncomputable def k102_2 : Code := (c2 k102_1)
theorem s102_2 {R : VP} {Q : EQ} (hR : ∀ e w, (R (e 4) w) → Q .ret e w) (e : Env) (w : World) (h : m102_2 R (e 4) w) : W102 k102_2 Q e w := by
  unfold m102_2 at h
  exact reA (hR _ _ h)
theorem s102_1 {R : VP} {Q : EQ} (hR : ∀ e w, (R (e 4) w) → Q .ret e w) (e : Env) (w : World) (h : m102_1 R (e 0) (e 1) w) : W102 k102_1 Q e w := by
  unfold m102_1 at h
  refine seA ?_
  have hN : ∀ e w, (m102_2 R (e 4) w) → (thenE (W102 k102_2 Q) Q) .normal e w := fun e w h => then_N (s102_2 (R := R) (Q := Q) hR e w h)
  exact rgA 1 (fun e w => m102_2 R (e 4) w) h hN
theorem s102_0 {R : VP} {Q : EQ} (hR : ∀ e w, (R (e 4) w) → Q .ret e w) (e : Env) (w : World) (h : m102_0 R (e 0) (e 1) w) : W102 k102_0 Q e w := by
  unfold m102_0 at h
  refine seA ?_
  have hN : ∀ e w, (m102_1 R (e 0) (e 1) w) → (thenE (W102 k102_1 Q) Q) .normal e w := fun e w h => then_N (s102_1 (R := R) (Q := Q) hR e w h)
  exact rgA 0 (fun e w => m102_1 R (e 0) (e 1) w) h hN
abbrev m102 (R : VP) (l0 m1 : Value) (w : World) : Prop := m102_0 R l0 m1 w
theorem s102 (l0 m1 : Value) {R : VP} {w : World} (h : m102 R l0 m1 w) :
    Calls Try.prog 102 #[l0, m1] w fun e w' => ∃ v, e = .returned v ∧ R v w' :=
  calls_of_cwp (st := (fun i => 0)) (c := k102_0) (by kernel_rfl) Try.func102 (by kernel_rfl) (Nat.le_of_ble_eq_true (by kernel_rfl)) (by kernel_rfl)
    (s102_0 (R := R) (Q := endE Try.prog Try.f102 R) (fun e w h => kcast (by kernel_rfl) h) (argsE #[l0, m1]) w (kcast (by kernel_rfl) h))
/-! ### headgate/headgateref09.above -/
def m103_8 (R : VP) (K1 : (Value × Value) → World → Prop) (l0 members1 n2 k7 i8 : Value) (w : World) : Prop :=
  valP Try.prog (binS BinOp.add 3 (Operand.tmp 13) (Operand.const (Value.int IntKind.i64 1)) i8 (Value.int IntKind.i64 1)) w fun t14 w =>
  K1 (k7, t14) w
def m103_9 (R : VP) (K1 : (Value × Value) → World → Prop) (l0 members1 n2 k7 i8 t22 : Value) (w : World) : Prop :=
  condP t22
  (valP Try.prog (binS BinOp.add 3 (Operand.tmp 23) (Operand.const (Value.int IntKind.i64 1)) k7 (Value.int IntKind.i64 1)) w fun t24 w =>
  m103_8 R K1 l0 members1 n2 t24 i8 w)
  (m103_8 R K1 l0 members1 n2 k7 i8 w)
def m103_7 (R : VP) (K1 : (Value × Value) → World → Prop) (l0 members1 n2 k7 i8 : Value) (w : World) : Prop :=
  valP Try.prog (Instr.indexAt 28 members1 i8) w fun t18 w =>
  valP Try.prog (Instr.loadAt 3 t18) w fun t19 w =>
  callP Try.prog (fnV 21) #[l0, t19] w fun t20 w =>
  valP Try.prog (binS BinOp.gtr 3 (Operand.tmp 20) (Operand.tmp 21) t20 n2) w fun t22 w =>
  m103_9 R K1 l0 members1 n2 k7 i8 t22 w
def m103_4 (R : VP) (t6 : Value) (w : World) : Prop :=
  R t6 w
def m103_3 (R : VP) (k7 : Value) (w : World) : Prop :=
  m103_4 R k7 w
def m103_10 (R : VP) (K1 : (Value × Value) → World → Prop) (l0 members1 n2 k7 i8 t12 : Value) (w : World) : Prop :=
  condP t12
  (m103_7 R K1 l0 members1 n2 k7 i8 w)
  (m103_3 R k7 w)
def m103_6 (R : VP) (K1 : (Value × Value) → World → Prop) (l0 members1 n2 k7 i8 : Value) (w : World) : Prop :=
  builtinP Try.prog Builtin.len #[28] 3 #[false] #[members1] w fun t11 w =>
  valP Try.prog (binS BinOp.lss 3 (Operand.tmp 9) (Operand.tmp 11) i8 t11) w fun t12 w =>
  m103_10 R K1 l0 members1 n2 k7 i8 t12 w
def m103_5 (R : VP) (l0 members1 n2 k7 i8 : Value) (w : World) : Prop :=
  loopP (fun (K1 : (Value × Value) → World → Prop) (s : Value × Value) w => m103_6 R K1 l0 members1 n2 s.1 s.2 w) (k7, i8) w
def m103_2 (R : VP) (l0 members1 n2 k7 : Value) (w : World) : Prop :=
  m103_5 R l0 members1 n2 k7 (Value.int IntKind.i64 0) w
def m103_1 (R : VP) (l0 members1 n2 : Value) (w : World) : Prop :=
  m103_2 R l0 members1 n2 (Value.int IntKind.i64 0) w
def m103_0 (R : VP) (l0 members1 n2 : Value) (w : World) : Prop :=
  m103_1 R l0 members1 n2 w
abbrev W103 := cwp Try.prog (fun i => 0)
noncomputable def k103_0 : Code := (bodyOf Try.f103)
noncomputable def k103_1 : Code := (c2 k103_0)
noncomputable def k103_2 : Code := (c2 k103_1)
noncomputable def k103_3 : Code := (c2 k103_2)
noncomputable def k103_4 : Code := (c2 k103_3)
noncomputable def k103_5 : Code := (c2 (c1 k103_2))
noncomputable def k103_6 : Code := (c1 (c1 k103_5))
noncomputable def k103_7 : Code := (c2 k103_6)
noncomputable def k103_8 : Code := (c2 k103_7)
noncomputable def k103_9 : Code := (c2 (c1 (c1 k103_7)))
noncomputable def k103_10 : Code := (c2 (c1 k103_6))
theorem s103_8 {R : VP} {K1 : (Value × Value) → World → Prop} {Q : EQ} (hN : ∀ e w, (K1 ((e 7), (e 8)) w) → Q .normal e w) (e : Env) (w : World) (h : m103_8 R K1 (e 0) (e 1) (e 2) (e 7) (e 8) w) : W103 k103_8 Q e w := by
  unfold m103_8 at h
  exact rgA 4 (fun e w => K1 ((e 7), (e 8)) w) h hN
theorem s103_9 {R : VP} {K1 : (Value × Value) → World → Prop} {Q : EQ} (hN : ∀ e w, (m103_8 R K1 (e 0) (e 1) (e 2) (e 7) (e 8) w) → Q .normal e w) (e : Env) (w : World) (h : m103_9 R K1 (e 0) (e 1) (e 2) (e 7) (e 8) (e 22) w) : W103 k103_9 Q e w := by
  unfold m103_9 at h
  refine coA (Operand.tmp 22) h (fun h1 => ?_) (fun h1 => ?_)
  · exact rgA 6 (fun e w => m103_8 R K1 (e 0) (e 1) (e 2) (e 7) (e 8) w) h1 hN
  · exact skA (hN _ _ h1)
theorem s103_7 {R : VP} {K1 : (Value × Value) → World → Prop} {Q : EQ} (hN : ∀ e w, (K1 ((e 7), (e 8)) w) → Q .normal e w) (e : Env) (w : World) (h : m103_7 R K1 (e 0) (e 1) (e 2) (e 7) (e 8) w) : W103 k103_7 Q e w := by
  unfold m103_7 at h
  refine seA ?_
  have hN : ∀ e w, (m103_8 R K1 (e 0) (e 1) (e 2) (e 7) (e 8) w) → (thenE (W103 k103_8 Q) Q) .normal e w := fun e w h => then_N (s103_8 (R := R) (Q := Q) (K1 := K1) hN e w h)
  refine block_ok 1 (by kernel_rfl) ?_
  have hN : ∀ e w, (m103_8 R K1 (e 0) (e 1) (e 2) (e 7) (e 8) w) → (inBlockE 1 (thenE (W103 k103_8 Q) Q)) .normal e w := fun e w h => block_N (hN e w h)
  refine seA ?_
  have hN : ∀ e w, (m103_9 R K1 (e 0) (e 1) (e 2) (e 7) (e 8) (e 22) w) → (thenE (W103 k103_9 (inBlockE 1 (thenE (W103 k103_8 Q) Q))) (inBlockE 1 (thenE (W103 k103_8 Q) Q))) .normal e w := fun e w h => then_N (s103_9 (R := R) (Q := (inBlockE 1 (thenE (W103 k103_8 Q) Q))) (K1 := K1) hN e w h)
  exact rgA 5 (fun e w => m103_9 R K1 (e 0) (e 1) (e 2) (e 7) (e 8) (e 22) w) h hN
theorem s103_4 {R : VP} {Q : EQ} (hR : ∀ e w, (R (e 6) w) → Q .ret e w) (e : Env) (w : World) (h : m103_4 R (e 6) w) : W103 k103_4 Q e w := by
  unfold m103_4 at h
  exact reA (hR _ _ h)
theorem s103_3 {R : VP} {Q : EQ} (hR : ∀ e w, (R (e 6) w) → Q .ret e w) (e : Env) (w : World) (h : m103_3 R (e 7) w) : W103 k103_3 Q e w := by
  unfold m103_3 at h
  refine seA ?_
  have hN : ∀ e w, (m103_4 R (e 6) w) → (thenE (W103 k103_4 Q) Q) .normal e w := fun e w h => then_N (s103_4 (R := R) (Q := Q) hR e w h)
  exact rgA 7 (fun e w => m103_4 R (e 6) w) h hN
theorem s103_10 {R : VP} {K1 : (Value × Value) → World → Prop} {Q : EQ} (hN : ∀ e w, (m103_7 R K1 (e 0) (e 1) (e 2) (e 7) (e 8) w) → Q .normal e w) (hX0 : ∀ e w, (m103_3 R (e 7) w) → Q (.exit 0) e w) (e : Env) (w : World) (h : m103_10 R K1 (e 0) (e 1) (e 2) (e 7) (e 8) (e 12) w) : W103 k103_10 Q e w := by
  unfold m103_10 at h
  refine coA (Operand.tmp 12) h (fun h1 => ?_) (fun h1 => ?_)
  · exact skA (hN _ _ h1)
  · exact exA 0 (hX0 _ _ h1)
theorem s103_6 {R : VP} {K1 : (Value × Value) → World → Prop} {Q : EQ} (hN : ∀ e w, (K1 ((e 7), (e 8)) w) → Q .normal e w) (hX0 : ∀ e w, (m103_3 R (e 7) w) → Q (.exit 0) e w) (e : Env) (w : World) (h : m103_6 R K1 (e 0) (e 1) (e 2) (e 7) (e 8) w) : W103 k103_6 Q e w := by
  unfold m103_6 at h
  refine seA ?_
  have hN : ∀ e w, (m103_7 R K1 (e 0) (e 1) (e 2) (e 7) (e 8) w) → (thenE (W103 k103_7 Q) Q) .normal e w := fun e w h => then_N (s103_7 (R := R) (Q := Q) (K1 := K1) hN e w h)
  have hX0 : ∀ e w, (m103_3 R (e 7) w) → (thenE (W103 k103_7 Q) Q) (.exit 0) e w := fun e w h => then_X (hX0 e w h)
  refine seA ?_
  have hN : ∀ e w, (m103_10 R K1 (e 0) (e 1) (e 2) (e 7) (e 8) (e 12) w) → (thenE (W103 k103_10 (thenE (W103 k103_7 Q) Q)) (thenE (W103 k103_7 Q) Q)) .normal e w := fun e w h => then_N (s103_10 (R := R) (Q := (thenE (W103 k103_7 Q) Q)) (K1 := K1) hN hX0 e w h)
  exact rgA 3 (fun e w => m103_10 R K1 (e 0) (e 1) (e 2) (e 7) (e 8) (e 12) w) h hN
theorem s103_5 {R : VP} {Q : EQ} (hN : ∀ e w, (m103_3 R (e 7) w) → Q .normal e w) (e : Env) (w : World) (h : m103_5 R (e 0) (e 1) (e 2) (e 7) (e 8) w) : W103 k103_5 Q e w := by
  unfold m103_5 at h
  refine block_ok 0 (by kernel_rfl) ?_
  have hX0 : ∀ e w, (m103_3 R (e 7) w) → (inBlockE 0 Q) (.exit 0) e w := fun e w h => inBlock_same (Q := Q) 0 (hN e w h)
  refine loop_ok' (fun (e : Env) => (e 7, e 8)) [0, 1, 2] (by kernel_rfl) (by kernel_rfl) h (fun K e' w' hk h' => ?_)
  have r0 : e' 0 = e 0 := hk 0 (by decide)
  have r1 : e' 1 = e 1 := hk 1 (by decide)
  have r2 : e' 2 = e 2 := hk 2 (by decide)
  have hX0 : ∀ e w, (m103_3 R (e 7) w) → (thenE (fun (e : Env) w => K ((e 7), (e 8)) w) (inBlockE 0 Q)) (.exit 0) e w := fun e w h => then_X (hX0 e w h)
  exact s103_6 (R := R) (Q := (thenE (fun (e : Env) w => K ((e 7), (e 8)) w) (inBlockE 0 Q))) (K1 := K) (fun _ _ h => then_N h) hX0 e' w' (by rw [r0, r1, r2]; exact h')
theorem s103_2 {R : VP} {Q : EQ} (hR : ∀ e w, (R (e 6) w) → Q .ret e w) (e : Env) (w : World) (h : m103_2 R (e 0) (e 1) (e 2) (e 7) w) : W103 k103_2 Q e w := by
  unfold m103_2 at h
  refine seA ?_
  have hN : ∀ e w, (m103_3 R (e 7) w) → (thenE (W103 k103_3 Q) Q) .normal e w := fun e w h => then_N (s103_3 (R := R) (Q := Q) hR e w h)
  refine seA ?_
  have hN : ∀ e w, (m103_5 R (e 0) (e 1) (e 2) (e 7) (e 8) w) → (thenE (W103 k103_5 (thenE (W103 k103_3 Q) Q)) (thenE (W103 k103_3 Q) Q)) .normal e w := fun e w h => then_N (s103_5 (R := R) (Q := (thenE (W103 k103_3 Q) Q)) hN e w h)
  exact rgA 2 (fun e w => m103_5 R (e 0) (e 1) (e 2) (e 7) (e 8) w) h hN
theorem s103_1 {R : VP} {Q : EQ} (hR : ∀ e w, (R (e 6) w) → Q .ret e w) (e : Env) (w : World) (h : m103_1 R (e 0) (e 1) (e 2) w) : W103 k103_1 Q e w := by
  unfold m103_1 at h
  refine seA ?_
  have hN : ∀ e w, (m103_2 R (e 0) (e 1) (e 2) (e 7) w) → (thenE (W103 k103_2 Q) Q) .normal e w := fun e w h => then_N (s103_2 (R := R) (Q := Q) hR e w h)
  exact rgA 1 (fun e w => m103_2 R (e 0) (e 1) (e 2) (e 7) w) h hN
theorem s103_0 {R : VP} {Q : EQ} (hR : ∀ e w, (R (e 6) w) → Q .ret e w) (e : Env) (w : World) (h : m103_0 R (e 0) (e 1) (e 2) w) : W103 k103_0 Q e w := by
  unfold m103_0 at h
  refine seA ?_
  have hN : ∀ e w, (m103_1 R (e 0) (e 1) (e 2) w) → (thenE (W103 k103_1 Q) Q) .normal e w := fun e w h => then_N (s103_1 (R := R) (Q := Q) hR e w h)
  exact rgA 0 (fun e w => m103_1 R (e 0) (e 1) (e 2) w) h hN
abbrev m103 (R : VP) (l0 members1 n2 : Value) (w : World) : Prop := m103_0 R l0 members1 n2 w
theorem s103 (l0 members1 n2 : Value) {R : VP} {w : World} (h : m103 R l0 members1 n2 w) :
    Calls Try.prog 103 #[l0, members1, n2] w fun e w' => ∃ v, e = .returned v ∧ R v w' :=
  calls_of_cwp (st := (fun i => 0)) (c := k103_0) (by kernel_rfl) Try.func103 (by kernel_rfl) (Nat.le_of_ble_eq_true (by kernel_rfl)) (by kernel_rfl)
    (s103_0 (R := R) (Q := endE Try.prog Try.f103 R) (fun e w h => kcast (by kernel_rfl) h) (argsE #[l0, members1, n2]) w (kcast (by kernel_rfl) h))
end Go.Proofs.Ytjjmlopmemmobaa.M
