/- What functions' texts ask of their ends, told over values that have names; printed by a program of this work. -/
import Derived.Test.YtjjmlopmemmobaaFw
import Derived.Test.YtjjmlopmemmobaaProg
namespace Go.Proofs.Ytjjmlopmemmobaa.M
open Go.Proofs.Ytjjmlopmemmobaa.F
set_option linter.unusedVariables false
set_option maxRecDepth 100000
/-! ### headgate/group.New -/
def m36_5 (R : VP) (t8 t9 : Value) (w : World) : Prop :=
  R (Value.tuple #[t8, t9]) w
def m36_3 (R : VP) (t8 t9 : Value) (w : World) : Prop :=
  R (Value.tuple #[t8, t9]) w
def m36_2 (R : VP) (parts0 sticky1 gen2 next3 : Value) (w : World) : Prop :=
  valP Try.prog (Instr.makeSlice 28 parts0 parts0) w fun t37 w =>
  valP Try.prog (Instr.build 103 #[(0, parts0), (1, sticky1), (2, gen2), (3, next3), (6, t37)]) w fun t38 w =>
  valP Try.prog (Instr.box 103 t38) w fun t39 w =>
  m36_3 R t39 (Value.int IntKind.i64 0) w
def m36_4 (R : VP) (parts0 sticky1 gen2 next3 t31 : Value) (w : World) : Prop :=
  condP t31
  (m36_5 R (Value.pointer none) (Value.int IntKind.i64 1) w)
  (m36_2 R parts0 sticky1 gen2 next3 w)
def m36_1 (R : VP) (parts0 sticky1 gen2 next3 : Value) (w : World) : Prop :=
  valP Try.prog (binS BinOp.lss 3 (Operand.tmp 10) (Operand.const (Value.int IntKind.i64 1)) parts0 (Value.int IntKind.i64 1)) w fun t11 w =>
  condP t11
  (pickP t11 (Value.bool true) undef fun t15 =>
  pickP t15 (Value.bool true) undef fun t19 =>
  pickP t19 (Value.bool true) undef fun t23 =>
  pickP t23 (Value.bool true) undef fun t27 =>
  pickP t27 (Value.bool true) undef fun t31 =>
  m36_4 R parts0 sticky1 gen2 next3 t31 w)
  (valP Try.prog (binS BinOp.gtr 3 (Operand.tmp 13) (Operand.const (Value.int IntKind.i64 4)) parts0 (Value.int IntKind.i64 4)) w fun t14 w =>
  pickP t11 (Value.bool true) t14 fun t15 =>
  condP t15
  (pickP t15 (Value.bool true) undef fun t19 =>
  pickP t19 (Value.bool true) undef fun t23 =>
  pickP t23 (Value.bool true) undef fun t27 =>
  pickP t27 (Value.bool true) undef fun t31 =>
  m36_4 R parts0 sticky1 gen2 next3 t31 w)
  (valP Try.prog (binS BinOp.lss 3 (Operand.tmp 17) (Operand.const (Value.int IntKind.i64 0)) gen2 (Value.int IntKind.i64 0)) w fun t18 w =>
  pickP t15 (Value.bool true) t18 fun t19 =>
  condP t19
  (pickP t19 (Value.bool true) undef fun t23 =>
  pickP t23 (Value.bool true) undef fun t27 =>
  pickP t27 (Value.bool true) undef fun t31 =>
  m36_4 R parts0 sticky1 gen2 next3 t31 w)
  (valP Try.prog (binS BinOp.gtr 3 (Operand.tmp 21) (Operand.const (Value.int IntKind.i64 1099511627776)) gen2 (Value.int IntKind.i64 1099511627776)) w fun t22 w =>
  pickP t19 (Value.bool true) t22 fun t23 =>
  condP t23
  (pickP t23 (Value.bool true) undef fun t27 =>
  pickP t27 (Value.bool true) undef fun t31 =>
  m36_4 R parts0 sticky1 gen2 next3 t31 w)
  (valP Try.prog (binS BinOp.lss 3 (Operand.tmp 25) (Operand.const (Value.int IntKind.i64 1)) next3 (Value.int IntKind.i64 1)) w fun t26 w =>
  pickP t23 (Value.bool true) t26 fun t27 =>
  condP t27
  (pickP t27 (Value.bool true) undef fun t31 =>
  m36_4 R parts0 sticky1 gen2 next3 t31 w)
  (valP Try.prog (binS BinOp.gtr 3 (Operand.tmp 29) (Operand.const (Value.int IntKind.i64 1099511627776)) next3 (Value.int IntKind.i64 1099511627776)) w fun t30 w =>
  pickP t27 (Value.bool true) t30 fun t31 =>
  m36_4 R parts0 sticky1 gen2 next3 t31 w)))))
def m36_0 (R : VP) (parts0 sticky1 gen2 next3 : Value) (w : World) : Prop :=
  m36_1 R parts0 sticky1 gen2 next3 w
abbrev W36 := cwp Try.prog (fun i => 0)
noncomputable def k36_0 : Code := (bodyOf Try.f36)
noncomputable def k36_1 : Code := (c2 k36_0)
noncomputable def k36_2 : Code := (c2 k36_1)
noncomputable def k36_3 : Code := (c2 k36_2)
noncomputable def k36_4 : Code := (c2 (c1 k36_1))
noncomputable def k36_5 : Code := (c2 (c1 k36_4))
theorem s36_5 {R : VP} {Q : EQ} (hR : ∀ e w, (R (Value.tuple #[(e 8), (e 9)]) w) → Q .ret e w) (e : Env) (w : World) (h : m36_5 R (e 8) (e 9) w) : W36 k36_5 Q e w := by
  unfold m36_5 at h
  exact reA (hR _ _ h)
theorem s36_3 {R : VP} {Q : EQ} (hR : ∀ e w, (R (Value.tuple #[(e 8), (e 9)]) w) → Q .ret e w) (e : Env) (w : World) (h : m36_3 R (e 8) (e 9) w) : W36 k36_3 Q e w := by
  unfold m36_3 at h
  exact reA (hR _ _ h)
theorem s36_2 {R : VP} {Q : EQ} (hR : ∀ e w, (R (Value.tuple #[(e 8), (e 9)]) w) → Q .ret e w) (e : Env) (w : World) (h : m36_2 R (e 0) (e 1) (e 2) (e 3) w) : W36 k36_2 Q e w := by
  unfold m36_2 at h
  refine seA ?_
  have hN : ∀ e w, (m36_3 R (e 8) (e 9) w) → (thenE (W36 k36_3 Q) Q) .normal e w := fun e w h => then_N (s36_3 (R := R) (Q := Q) hR e w h)
  exact rgA 3 (fun e w => m36_3 R (e 8) (e 9) w) h hN
theorem s36_4 {R : VP} {Q : EQ} (hN : ∀ e w, (m36_2 R (e 0) (e 1) (e 2) (e 3) w) → Q .normal e w) (hR : ∀ e w, (R (Value.tuple #[(e 8), (e 9)]) w) → Q .ret e w) (e : Env) (w : World) (h : m36_4 R (e 0) (e 1) (e 2) (e 3) (e 31) w) : W36 k36_4 Q e w := by
  unfold m36_4 at h
  refine coA (Operand.tmp 31) h (fun h1 => ?_) (fun h1 => ?_)
  · refine seA ?_
    have hN : ∀ e w, (m36_5 R (e 8) (e 9) w) → (thenE (W36 k36_5 Q) Q) .normal e w := fun e w h => then_N (s36_5 (R := R) (Q := Q) hR e w h)
    exact rgA 2 (fun e w => m36_5 R (e 8) (e 9) w) h1 hN
  · exact skA (hN _ _ h1)
theorem s36_1 {R : VP} {Q : EQ} (hR : ∀ e w, (R (Value.tuple #[(e 8), (e 9)]) w) → Q .ret e w) (e : Env) (w : World) (h : m36_1 R (e 0) (e 1) (e 2) (e 3) w) : W36 k36_1 Q e w := by
  unfold m36_1 at h
  refine seA ?_
  have hN : ∀ e w, (m36_2 R (e 0) (e 1) (e 2) (e 3) w) → (thenE (W36 k36_2 Q) Q) .normal e w := fun e w h => then_N (s36_2 (R := R) (Q := Q) hR e w h)
  have hR : ∀ e w, (R (Value.tuple #[(e 8), (e 9)]) w) → (thenE (W36 k36_2 Q) Q) .ret e w := fun e w h => then_R (hR e w h)
  refine seA ?_
  have hN : ∀ e w, (m36_4 R (e 0) (e 1) (e 2) (e 3) (e 31) w) → (thenE (W36 k36_4 (thenE (W36 k36_2 Q) Q)) (thenE (W36 k36_2 Q) Q)) .normal e w := fun e w h => then_N (s36_4 (R := R) (Q := (thenE (W36 k36_2 Q) Q)) hN hR e w h)
  exact rgK 1 (fun e w => m36_4 R (e 0) (e 1) (e 2) (e 3) (e 31) w) h hN
theorem s36_0 {R : VP} {Q : EQ} (hR : ∀ e w, (R (Value.tuple #[(e 8), (e 9)]) w) → Q .ret e w) (e : Env) (w : World) (h : m36_0 R (e 0) (e 1) (e 2) (e 3) w) : W36 k36_0 Q e w := by
  unfold m36_0 at h
  refine seA ?_
  have hN : ∀ e w, (m36_1 R (e 0) (e 1) (e 2) (e 3) w) → (thenE (W36 k36_1 Q) Q) .normal e w := fun e w h => then_N (s36_1 (R := R) (Q := Q) hR e w h)
  exact rgA 0 (fun e w => m36_1 R (e 0) (e 1) (e 2) (e 3) w) h hN
abbrev m36 (R : VP) (parts0 sticky1 gen2 next3 : Value) (w : World) : Prop := m36_0 R parts0 sticky1 gen2 next3 w
theorem s36 (parts0 sticky1 gen2 next3 : Value) {R : VP} {w : World} (h : m36 R parts0 sticky1 gen2 next3 w) :
    Calls Try.prog 36 #[parts0, sticky1, gen2, next3] w fun e w' => ∃ v, e = .returned v ∧ R v w' :=
  calls_of_cwp (st := (fun i => 0)) (c := k36_0) (by kernel_rfl) Try.func36 (by kernel_rfl) (Nat.le_of_ble_eq_true (by kernel_rfl)) (by kernel_rfl)
    (s36_0 (R := R) (Q := endE Try.prog Try.f36 R) (fun e w h => kcast (by kernel_rfl) h) (argsE #[parts0, sticky1, gen2, next3]) w (kcast (by kernel_rfl) h))
/-! ### headgate/headgatelaw10.some -/
def m37_5 (R : VP) (t2 : Value) (w : World) : Prop :=
  R t2 w
def m37_3 (R : VP) (t2 : Value) (w : World) : Prop :=
  R t2 w
def m37_2 (R : VP) (l0 : Value) (w : World) : Prop :=
  m37_3 R l0 w
def m37_4 (R : VP) (l0 t5 : Value) (w : World) : Prop :=
  condP t5
  (valP Try.prog (Instr.sliceAt 58 l0 none (some (Value.int IntKind.i64 120)) none) w fun t7 w =>
  m37_5 R t7 w)
  (m37_2 R l0 w)
def m37_1 (R : VP) (l0 : Value) (w : World) : Prop :=
  builtinP Try.prog Builtin.len #[58] 3 #[false] #[l0] w fun t4 w =>
  valP Try.prog (binS BinOp.gtr 3 (Operand.tmp 4) (Operand.const (Value.int IntKind.i64 120)) t4 (Value.int IntKind.i64 120)) w fun t5 w =>
  m37_4 R l0 t5 w
def m37_0 (R : VP) (l0 : Value) (w : World) : Prop :=
  m37_1 R l0 w
abbrev W37 := cwp Try.prog (fun i => 0)
noncomputable def k37_0 : Code := (bodyOf Try.f37)
noncomputable def k37_1 : Code := (c2 k37_0)
noncomputable def k37_2 : Code := (c2 k37_1)
noncomputable def k37_3 : Code := (c2 k37_2)
noncomputable def k37_4 : Code := (c2 (c1 k37_1))
noncomputable def k37_5 : Code := (c2 (c1 k37_4))
theorem s37_5 {R : VP} {Q : EQ} (hR : ∀ e w, (R (e 2) w) → Q .ret e w) (e : Env) (w : World) (h : m37_5 R (e 2) w) : W37 k37_5 Q e w := by
  unfold m37_5 at h
  exact reA (hR _ _ h)
theorem s37_3 {R : VP} {Q : EQ} (hR : ∀ e w, (R (e 2) w) → Q .ret e w) (e : Env) (w : World) (h : m37_3 R (e 2) w) : W37 k37_3 Q e w := by
  unfold m37_3 at h
  exact reA (hR _ _ h)
theorem s37_2 {R : VP} {Q : EQ} (hR : ∀ e w, (R (e 2) w) → Q .ret e w) (e : Env) (w : World) (h : m37_2 R (e 0) w) : W37 k37_2 Q e w := by
  unfold m37_2 at h
  refine seA ?_
  have hN : ∀ e w, (m37_3 R (e 2) w) → (thenE (W37 k37_3 Q) Q) .normal e w := fun e w h => then_N (s37_3 (R := R) (Q := Q) hR e w h)
  exact rgA 3 (fun e w => m37_3 R (e 2) w) h hN
theorem s37_4 {R : VP} {Q : EQ} (hN : ∀ e w, (m37_2 R (e 0) w) → Q .normal e w) (hR : ∀ e w, (R (e 2) w) → Q .ret e w) (e : Env) (w : World) (h : m37_4 R (e 0) (e 5) w) : W37 k37_4 Q e w := by
  unfold m37_4 at h
  refine coA (Operand.tmp 5) h (fun h1 => ?_) (fun h1 => ?_)
  · refine seA ?_
    have hN : ∀ e w, (m37_5 R (e 2) w) → (thenE (W37 k37_5 Q) Q) .normal e w := fun e w h => then_N (s37_5 (R := R) (Q := Q) hR e w h)
    exact rgA 2 (fun e w => m37_5 R (e 2) w) h1 hN
  · exact skA (hN _ _ h1)
theorem s37_1 {R : VP} {Q : EQ} (hR : ∀ e w, (R (e 2) w) → Q .ret e w) (e : Env) (w : World) (h : m37_1 R (e 0) w) : W37 k37_1 Q e w := by
  unfold m37_1 at h
  refine seA ?_
  have hN : ∀ e w, (m37_2 R (e 0) w) → (thenE (W37 k37_2 Q) Q) .normal e w := fun e w h => then_N (s37_2 (R := R) (Q := Q) hR e w h)
  have hR : ∀ e w, (R (e 2) w) → (thenE (W37 k37_2 Q) Q) .ret e w := fun e w h => then_R (hR e w h)
  refine seA ?_
  have hN : ∀ e w, (m37_4 R (e 0) (e 5) w) → (thenE (W37 k37_4 (thenE (W37 k37_2 Q) Q)) (thenE (W37 k37_2 Q) Q)) .normal e w := fun e w h => then_N (s37_4 (R := R) (Q := (thenE (W37 k37_2 Q) Q)) hN hR e w h)
  exact rgA 1 (fun e w => m37_4 R (e 0) (e 5) w) h hN
theorem s37_0 {R : VP} {Q : EQ} (hR : ∀ e w, (R (e 2) w) → Q .ret e w) (e : Env) (w : World) (h : m37_0 R (e 0) w) : W37 k37_0 Q e w := by
  unfold m37_0 at h
  refine seA ?_
  have hN : ∀ e w, (m37_1 R (e 0) w) → (thenE (W37 k37_1 Q) Q) .normal e w := fun e w h => then_N (s37_1 (R := R) (Q := Q) hR e w h)
  exact rgA 0 (fun e w => m37_1 R (e 0) w) h hN
abbrev m37 (R : VP) (l0 : Value) (w : World) : Prop := m37_0 R l0 w
theorem s37 (l0 : Value) {R : VP} {w : World} (h : m37 R l0 w) :
    Calls Try.prog 37 #[l0] w fun e w' => ∃ v, e = .returned v ∧ R v w' :=
  calls_of_cwp (st := (fun i => 0)) (c := k37_0) (by kernel_rfl) Try.func37 (by kernel_rfl) (Nat.le_of_ble_eq_true (by kernel_rfl)) (by kernel_rfl)
    (s37_0 (R := R) (Q := endE Try.prog Try.f37 R) (fun e w h => kcast (by kernel_rfl) h) (argsE #[l0]) w (kcast (by kernel_rfl) h))
/-! ### headgate/headgatelaw10.does -/
def m38_8 (R : VP) (g0 t40 : Value) (w : World) : Prop :=
  condP t40
  (callP Try.prog (fnV 42) #[g0] w fun t45 w =>
  R (Value.tuple #[]) w)
  (R (Value.tuple #[]) w)
def m38_10 (R : VP) (g0 t11 t40 : Value) (w : World) : Prop :=
  condP t40
  (m38_8 R g0 t40 w)
  (valP Try.prog (binS BinOp.eql 3 (Operand.tmp 11) (Operand.const (Value.int IntKind.i64 8)) t11 (Value.int IntKind.i64 8)) w fun t43 w =>
  m38_8 R g0 t43 w)
def m38_9 (R : VP) (g0 t11 t40 : Value) (w : World) : Prop :=
  condP t40
  (m38_8 R g0 t40 w)
  (valP Try.prog (binS BinOp.eql 3 (Operand.tmp 11) (Operand.const (Value.int IntKind.i64 7)) t11 (Value.int IntKind.i64 7)) w fun t42 w =>
  m38_10 R g0 t11 t42 w)
def m38_7 (R : VP) (g0 x3 t11 t34 : Value) (w : World) : Prop :=
  condP t34
  (valP Try.prog (Instr.fieldAt 65 x3 1) w fun t37 w =>
  valP Try.prog (Instr.loadAt 3 t37) w fun t38 w =>
  callP Try.prog (fnV 49) #[g0, t38] w fun t39 w =>
  R (Value.tuple #[]) w)
  (valP Try.prog (binS BinOp.eql 3 (Operand.tmp 11) (Operand.const (Value.int IntKind.i64 6)) t11 (Value.int IntKind.i64 6)) w fun t41 w =>
  m38_9 R g0 t11 t41 w)
def m38_6 (R : VP) (g0 x3 t11 t25 : Value) (w : World) : Prop :=
  condP t25
  (valP Try.prog (Instr.fieldAt 65 x3 1) w fun t29 w =>
  valP Try.prog (Instr.loadAt 3 t29) w fun t30 w =>
  valP Try.prog (Instr.fieldAt 65 x3 2) w fun t31 w =>
  valP Try.prog (Instr.loadAt 3 t31) w fun t32 w =>
  callP Try.prog (fnV 48) #[g0, t30, t32] w fun t33 w =>
  R (Value.tuple #[]) w)
  (valP Try.prog (binS BinOp.eql 3 (Operand.tmp 11) (Operand.const (Value.int IntKind.i64 5)) t11 (Value.int IntKind.i64 5)) w fun t35 w =>
  m38_7 R g0 x3 t11 t35 w)
def m38_11 (R : VP) (g0 x3 t11 t25 : Value) (w : World) : Prop :=
  condP t25
  (m38_6 R g0 x3 t11 t25 w)
  (valP Try.prog (binS BinOp.eql 3 (Operand.tmp 11) (Operand.const (Value.int IntKind.i64 4)) t11 (Value.int IntKind.i64 4)) w fun t27 w =>
  m38_6 R g0 x3 t11 t27 w)
def m38_5 (R : VP) (g0 x3 t11 t19 : Value) (w : World) : Prop :=
  condP t19
  (valP Try.prog (Instr.fieldAt 65 x3 1) w fun t22 w =>
  valP Try.prog (Instr.loadAt 3 t22) w fun t23 w =>
  callP Try.prog (fnV 41) #[g0, t23] w fun t24 w =>
  R (Value.tuple #[]) w)
  (valP Try.prog (binS BinOp.eql 3 (Operand.tmp 11) (Operand.const (Value.int IntKind.i64 3)) t11 (Value.int IntKind.i64 3)) w fun t26 w =>
  m38_11 R g0 x3 t11 t26 w)
def m38_4 (R : VP) (g0 x3 t11 t12 : Value) (w : World) : Prop :=
  condP t12
  (valP Try.prog (Instr.fieldAt 65 x3 1) w fun t16 w =>
  valP Try.prog (Instr.loadAt 3 t16) w fun t17 w =>
  callP Try.prog (fnV 54) #[g0, t17] w fun t18 w =>
  R (Value.tuple #[]) w)
  (valP Try.prog (binS BinOp.eql 3 (Operand.tmp 11) (Operand.const (Value.int IntKind.i64 2)) t11 (Value.int IntKind.i64 2)) w fun t20 w =>
  m38_5 R g0 x3 t11 t20 w)
def m38_12 (R : VP) (g0 x3 t11 t12 : Value) (w : World) : Prop :=
  condP t12
  (m38_4 R g0 x3 t11 t12 w)
  (valP Try.prog (binS BinOp.eql 3 (Operand.tmp 11) (Operand.const (Value.int IntKind.i64 1)) t11 (Value.int IntKind.i64 1)) w fun t14 w =>
  m38_4 R g0 x3 t11 t14 w)
def m38_3 (R : VP) (g0 x3 t11 : Value) (w : World) : Prop :=
  valP Try.prog (binS BinOp.eql 3 (Operand.tmp 11) (Operand.const (Value.int IntKind.i64 0)) t11 (Value.int IntKind.i64 0)) w fun t13 w =>
  m38_12 R g0 x3 t11 t13 w
def m38_2 (R : VP) (g0 x3 : Value) (w : World) : Prop :=
  valP Try.prog (Instr.fieldAt 65 x3 0) w fun t10 w =>
  valP Try.prog (Instr.loadAt 3 t10) w fun t11 w =>
  m38_3 R g0 x3 t11 w
def m38_1 (R : VP) (g0 x3 : Value) (w : World) : Prop :=
  anyDraw w fun w =>
  (valP Try.prog (Instr.loadAt 65 x3) w fun t4 w =>
  callP Try.prog (fnV 39) #[g0] w fun t6 w =>
  callP Try.prog (fnV 44) #[g0] w fun t8 w =>
  callP Try.prog (fnV 52) #[t4, t6, t8] w fun t9 w =>
  unitP Try.prog (Instr.storeAt 65 x3 t9) w fun _ w =>
  m38_2 R g0 x3 w) ∧ (callP Try.prog (fnV 39) #[g0] w fun t6 w =>
  (valP Try.prog (Instr.loadAt 65 x3) w fun t4 w =>
  callP Try.prog (fnV 44) #[g0] w fun t8 w =>
  callP Try.prog (fnV 52) #[t4, t6, t8] w fun t9 w =>
  unitP Try.prog (Instr.storeAt 65 x3 t9) w fun _ w =>
  m38_2 R g0 x3 w) ∧ (callP Try.prog (fnV 44) #[g0] w fun t8 w =>
  valP Try.prog (Instr.loadAt 65 x3) w fun t4 w =>
  callP Try.prog (fnV 52) #[t4, t6, t8] w fun t9 w =>
  unitP Try.prog (Instr.storeAt 65 x3 t9) w fun _ w =>
  m38_2 R g0 x3 w))
def m38_0 (R : VP) (g0 x1 : Value) (w : World) : Prop :=
  valP Try.prog (Instr.box 65 x1) w fun x3 w =>
  m38_1 R g0 x3 w
abbrev W38 := cwp Try.prog (fun i => 0)
noncomputable def k38_0 : Code := (bodyOf Try.f38)
noncomputable def k38_1 : Code := (c2 k38_0)
noncomputable def k38_2 : Code := (c2 k38_1)
noncomputable def k38_3 : Code := (c2 k38_2)
noncomputable def k38_4 : Code := (c2 (c1 k38_3))
noncomputable def k38_5 : Code := (c2 (c2 k38_4))
noncomputable def k38_6 : Code := (c2 (c2 k38_5))
noncomputable def k38_7 : Code := (c2 (c2 k38_6))
noncomputable def k38_8 : Code := (c2 (c2 k38_7))
noncomputable def k38_9 : Code := (c2 (c1 (c2 k38_7)))
noncomputable def k38_10 : Code := (c2 (c2 k38_9))
noncomputable def k38_11 : Code := (c2 (c1 (c2 k38_5)))
noncomputable def k38_12 : Code := (c2 (c1 (c1 k38_3)))
theorem s38_8 {R : VP} {Q : EQ} (hN : ∀ e w, (R (Value.tuple #[]) w) → Q .normal e w) (e : Env) (w : World) (h : m38_8 R (e 0) (e 40) w) : W38 k38_8 Q e w := by
  unfold m38_8 at h
  refine coA (Operand.tmp 40) h (fun h1 => ?_) (fun h1 => ?_)
  · exact rgA 16 (fun e w => R (Value.tuple #[]) w) h1 hN
  · exact skA (hN _ _ h1)
theorem s38_10 {R : VP} {Q : EQ} (hN : ∀ e w, (m38_8 R (e 0) (e 40) w) → Q .normal e w) (e : Env) (w : World) (h : m38_10 R (e 0) (e 11) (e 40) w) : W38 k38_10 Q e w := by
  unfold m38_10 at h
  refine coA (Operand.tmp 40) h (fun h1 => ?_) (fun h1 => ?_)
  · exact skA (hN _ _ h1)
  · exact rgA 15 (fun e w => m38_8 R (e 0) (e 40) w) h1 hN
theorem s38_9 {R : VP} {Q : EQ} (hN : ∀ e w, (m38_8 R (e 0) (e 40) w) → Q .normal e w) (e : Env) (w : World) (h : m38_9 R (e 0) (e 11) (e 40) w) : W38 k38_9 Q e w := by
  unfold m38_9 at h
  refine coA (Operand.tmp 40) h (fun h1 => ?_) (fun h1 => ?_)
  · exact skA (hN _ _ h1)
  · refine seA ?_
    have hN : ∀ e w, (m38_10 R (e 0) (e 11) (e 40) w) → (thenE (W38 k38_10 Q) Q) .normal e w := fun e w h => then_N (s38_10 (R := R) (Q := Q) hN e w h)
    exact rgA 14 (fun e w => m38_10 R (e 0) (e 11) (e 40) w) h1 hN
theorem s38_7 {R : VP} {Q : EQ} (hN : ∀ e w, (R (Value.tuple #[]) w) → Q .normal e w) (e : Env) (w : World) (h : m38_7 R (e 0) (e 3) (e 11) (e 34) w) : W38 k38_7 Q e w := by
  unfold m38_7 at h
  refine coA (Operand.tmp 34) h (fun h1 => ?_) (fun h1 => ?_)
  · exact rgA 12 (fun e w => R (Value.tuple #[]) w) h1 hN
  · refine seA ?_
    have hN : ∀ e w, (m38_8 R (e 0) (e 40) w) → (thenE (W38 k38_8 Q) Q) .normal e w := fun e w h => then_N (s38_8 (R := R) (Q := Q) hN e w h)
    refine seA ?_
    have hN : ∀ e w, (m38_9 R (e 0) (e 11) (e 40) w) → (thenE (W38 k38_9 (thenE (W38 k38_8 Q) Q)) (thenE (W38 k38_8 Q) Q)) .normal e w := fun e w h => then_N (s38_9 (R := R) (Q := (thenE (W38 k38_8 Q) Q)) hN e w h)
    exact rgA 13 (fun e w => m38_9 R (e 0) (e 11) (e 40) w) h1 hN
theorem s38_6 {R : VP} {Q : EQ} (hN : ∀ e w, (R (Value.tuple #[]) w) → Q .normal e w) (e : Env) (w : World) (h : m38_6 R (e 0) (e 3) (e 11) (e 25) w) : W38 k38_6 Q e w := by
  unfold m38_6 at h
  refine coA (Operand.tmp 25) h (fun h1 => ?_) (fun h1 => ?_)
  · exact rgA 10 (fun e w => R (Value.tuple #[]) w) h1 hN
  · refine seA ?_
    have hN : ∀ e w, (m38_7 R (e 0) (e 3) (e 11) (e 34) w) → (thenE (W38 k38_7 Q) Q) .normal e w := fun e w h => then_N (s38_7 (R := R) (Q := Q) hN e w h)
    exact rgA 11 (fun e w => m38_7 R (e 0) (e 3) (e 11) (e 34) w) h1 hN
theorem s38_11 {R : VP} {Q : EQ} (hN : ∀ e w, (m38_6 R (e 0) (e 3) (e 11) (e 25) w) → Q .normal e w) (e : Env) (w : World) (h : m38_11 R (e 0) (e 3) (e 11) (e 25) w) : W38 k38_11 Q e w := by
  unfold m38_11 at h
  refine coA (Operand.tmp 25) h (fun h1 => ?_) (fun h1 => ?_)
  · exact skA (hN _ _ h1)
  · exact rgA 9 (fun e w => m38_6 R (e 0) (e 3) (e 11) (e 25) w) h1 hN
theorem s38_5 {R : VP} {Q : EQ} (hN : ∀ e w, (R (Value.tuple #[]) w) → Q .normal e w) (e : Env) (w : World) (h : m38_5 R (e 0) (e 3) (e 11) (e 19) w) : W38 k38_5 Q e w := by
  unfold m38_5 at h
  refine coA (Operand.tmp 19) h (fun h1 => ?_) (fun h1 => ?_)
  · exact rgA 7 (fun e w => R (Value.tuple #[]) w) h1 hN
  · refine seA ?_
    have hN : ∀ e w, (m38_6 R (e 0) (e 3) (e 11) (e 25) w) → (thenE (W38 k38_6 Q) Q) .normal e w := fun e w h => then_N (s38_6 (R := R) (Q := Q) hN e w h)
    refine seA ?_
    have hN : ∀ e w, (m38_11 R (e 0) (e 3) (e 11) (e 25) w) → (thenE (W38 k38_11 (thenE (W38 k38_6 Q) Q)) (thenE (W38 k38_6 Q) Q)) .normal e w := fun e w h => then_N (s38_11 (R := R) (Q := (thenE (W38 k38_6 Q) Q)) hN e w h)
    exact rgA 8 (fun e w => m38_11 R (e 0) (e 3) (e 11) (e 25) w) h1 hN
theorem s38_4 {R : VP} {Q : EQ} (hN : ∀ e w, (R (Value.tuple #[]) w) → Q .normal e w) (e : Env) (w : World) (h : m38_4 R (e 0) (e 3) (e 11) (e 12) w) : W38 k38_4 Q e w := by
  unfold m38_4 at h
  refine coA (Operand.tmp 12) h (fun h1 => ?_) (fun h1 => ?_)
  · exact rgA 5 (fun e w => R (Value.tuple #[]) w) h1 hN
  · refine seA ?_
    have hN : ∀ e w, (m38_5 R (e 0) (e 3) (e 11) (e 19) w) → (thenE (W38 k38_5 Q) Q) .normal e w := fun e w h => then_N (s38_5 (R := R) (Q := Q) hN e w h)
    exact rgA 6 (fun e w => m38_5 R (e 0) (e 3) (e 11) (e 19) w) h1 hN
theorem s38_12 {R : VP} {Q : EQ} (hN : ∀ e w, (m38_4 R (e 0) (e 3) (e 11) (e 12) w) → Q .normal e w) (e : Env) (w : World) (h : m38_12 R (e 0) (e 3) (e 11) (e 12) w) : W38 k38_12 Q e w := by
  unfold m38_12 at h
  refine coA (Operand.tmp 12) h (fun h1 => ?_) (fun h1 => ?_)
  · exact skA (hN _ _ h1)
  · exact rgA 4 (fun e w => m38_4 R (e 0) (e 3) (e 11) (e 12) w) h1 hN
theorem s38_3 {R : VP} {Q : EQ} (hN : ∀ e w, (R (Value.tuple #[]) w) → Q .normal e w) (e : Env) (w : World) (h : m38_3 R (e 0) (e 3) (e 11) w) : W38 k38_3 Q e w := by
  unfold m38_3 at h
  refine block_ok 0 (by kernel_rfl) ?_
  have hN : ∀ e w, (R (Value.tuple #[]) w) → (inBlockE 0 Q) .normal e w := fun e w h => block_N (hN e w h)
  refine seA ?_
  have hN : ∀ e w, (m38_4 R (e 0) (e 3) (e 11) (e 12) w) → (thenE (W38 k38_4 (inBlockE 0 Q)) (inBlockE 0 Q)) .normal e w := fun e w h => then_N (s38_4 (R := R) (Q := (inBlockE 0 Q)) hN e w h)
  refine seA ?_
  have hN : ∀ e w, (m38_12 R (e 0) (e 3) (e 11) (e 12) w) → (thenE (W38 k38_12 (thenE (W38 k38_4 (inBlockE 0 Q)) (inBlockE 0 Q))) (thenE (W38 k38_4 (inBlockE 0 Q)) (inBlockE 0 Q))) .normal e w := fun e w h => then_N (s38_12 (R := R) (Q := (thenE (W38 k38_4 (inBlockE 0 Q)) (inBlockE 0 Q))) hN e w h)
  exact rgA 3 (fun e w => m38_12 R (e 0) (e 3) (e 11) (e 12) w) h hN
theorem s38_2 {R : VP} {Q : EQ} (hN : ∀ e w, (R (Value.tuple #[]) w) → Q .normal e w) (e : Env) (w : World) (h : m38_2 R (e 0) (e 3) w) : W38 k38_2 Q e w := by
  unfold m38_2 at h
  refine seA ?_
  have hN : ∀ e w, (m38_3 R (e 0) (e 3) (e 11) w) → (thenE (W38 k38_3 Q) Q) .normal e w := fun e w h => then_N (s38_3 (R := R) (Q := Q) hN e w h)
  exact rgA 2 (fun e w => m38_3 R (e 0) (e 3) (e 11) w) h hN
theorem s38_1 {R : VP} {Q : EQ} (hN : ∀ e w, (R (Value.tuple #[]) w) → Q .normal e w) (e : Env) (w : World) (h : m38_1 R (e 0) (e 3) w) : W38 k38_1 Q e w := by
  unfold m38_1 at h
  refine seA ?_
  have hN : ∀ e w, (m38_2 R (e 0) (e 3) w) → (thenE (W38 k38_2 Q) Q) .normal e w := fun e w h => then_N (s38_2 (R := R) (Q := Q) hN e w h)
  exact tree_ok 1 7 [false, false, false, false, false, false, false] (.take 1 [false, true, false, false, false, false, false] (.take 3 [false, true, false, true, false, false, false] (.alt 0 [true, true, false, true, false, false, false] (.alt 2 [true, true, true, true, false, false, false] (.alt 4 [true, true, true, true, true, false, false] (.alt 5 [true, true, true, true, true, true, false] (.alt 6 [true, true, true, true, true, true, true] .done .stop) .stop) .stop) .stop) (.alt 2 [false, true, true, true, false, false, false] (.alt 0 [true, true, true, true, false, false, false] (.alt 4 [true, true, true, true, true, false, false] (.alt 5 [true, true, true, true, true, true, false] (.alt 6 [true, true, true, true, true, true, true] .done .stop) .stop) .stop) (.alt 4 [false, true, true, true, true, false, false] (.alt 0 [true, true, true, true, true, false, false] (.alt 5 [true, true, true, true, true, true, false] (.alt 6 [true, true, true, true, true, true, true] .done .stop) .stop) .stop) .stop)) .stop)))) (fun e w => m38_2 R (e 0) (e 3) w) (by kernel_rfl) (by kernel_rfl) (by kernel_rfl) (by kernel_rfl) (by kernel_rfl) (by kernel_rfl) (kcast (by kernel_rfl) h) hN (by kernel_rfl)
theorem s38_0 {R : VP} {Q : EQ} (hN : ∀ e w, (R (Value.tuple #[]) w) → Q .normal e w) (e : Env) (w : World) (h : m38_0 R (e 0) (e 1) w) : W38 k38_0 Q e w := by
  unfold m38_0 at h
  refine seA ?_
  have hN : ∀ e w, (m38_1 R (e 0) (e 3) w) → (thenE (W38 k38_1 Q) Q) .normal e w := fun e w h => then_N (s38_1 (R := R) (Q := Q) hN e w h)
  exact rgA 0 (fun e w => m38_1 R (e 0) (e 3) w) h hN
abbrev m38 (R : VP) (g0 x1 : Value) (w : World) : Prop := m38_0 R g0 x1 w
theorem s38 (g0 x1 : Value) {R : VP} {w : World} (h : m38 R g0 x1 w) :
    Calls Try.prog 38 #[g0, x1] w fun e w' => ∃ v, e = .returned v ∧ R v w' :=
  calls_of_cwp (st := (fun i => 0)) (c := k38_0) (by kernel_rfl) Try.func38 (by kernel_rfl) (Nat.le_of_ble_eq_true (by kernel_rfl)) (by kernel_rfl)
    (s38_0 (R := R) (Q := endE Try.prog Try.f38 R) (fun e w h => kcast (by kernel_rfl) h) (argsE #[g0, x1]) w (kcast (by kernel_rfl) h))
/-! ### (*headgate/group.Group).Members -/
def m39_5 (R : VP) (t2 : Value) (w : World) : Prop :=
  R t2 w
def m39_3 (R : VP) (t2 : Value) (w : World) : Prop :=
  R t2 w
def m39_2 (R : VP) (g0 : Value) (w : World) : Prop :=
  nilCheckP g0 fun t6 =>
  valP Try.prog (Instr.fieldAt 103 t6 5) w fun t7 w =>
  valP Try.prog (Instr.loadAt 66 t7) w fun t8 w =>
  callP Try.prog (fnV 69) #[t8] w fun t9 w =>
  m39_3 R t9 w
def m39_4 (R : VP) (g0 t4 : Value) (w : World) : Prop :=
  condP t4
  (m39_5 R (Value.slice none 0 0) w)
  (m39_2 R g0 w)
def m39_1 (R : VP) (g0 : Value) (w : World) : Prop :=
  valP Try.prog (binS BinOp.eql 59 (Operand.tmp 3) (Operand.const (Value.pointer none)) g0 (Value.pointer none)) w fun t4 w =>
  m39_4 R g0 t4 w
def m39_0 (R : VP) (g0 : Value) (w : World) : Prop :=
  m39_1 R g0 w
abbrev W39 := cwp Try.prog (fun i => 0)
noncomputable def k39_0 : Code := (bodyOf Try.f39)
noncomputable def k39_1 : Code := (c2 k39_0)
noncomputable def k39_2 : Code := (c2 k39_1)
noncomputable def k39_3 : Code := (c2 k39_2)
noncomputable def k39_4 : Code := (c2 (c1 k39_1))
noncomputable def k39_5 : Code := (c2 (c1 k39_4))
theorem s39_5 {R : VP} {Q : EQ} (hR : ∀ e w, (R (e 2) w) → Q .ret e w) (e : Env) (w : World) (h : m39_5 R (e 2) w) : W39 k39_5 Q e w := by
  unfold m39_5 at h
  exact reA (hR _ _ h)
theorem s39_3 {R : VP} {Q : EQ} (hR : ∀ e w, (R (e 2) w) → Q .ret e w) (e : Env) (w : World) (h : m39_3 R (e 2) w) : W39 k39_3 Q e w := by
  unfold m39_3 at h
  exact reA (hR _ _ h)
theorem s39_2 {R : VP} {Q : EQ} (hR : ∀ e w, (R (e 2) w) → Q .ret e w) (e : Env) (w : World) (h : m39_2 R (e 0) w) : W39 k39_2 Q e w := by
  unfold m39_2 at h
  refine seA ?_
  have hN : ∀ e w, (m39_3 R (e 2) w) → (thenE (W39 k39_3 Q) Q) .normal e w := fun e w h => then_N (s39_3 (R := R) (Q := Q) hR e w h)
  exact rgA 3 (fun e w => m39_3 R (e 2) w) h hN
theorem s39_4 {R : VP} {Q : EQ} (hN : ∀ e w, (m39_2 R (e 0) w) → Q .normal e w) (hR : ∀ e w, (R (e 2) w) → Q .ret e w) (e : Env) (w : World) (h : m39_4 R (e 0) (e 4) w) : W39 k39_4 Q e w := by
  unfold m39_4 at h
  refine coA (Operand.tmp 4) h (fun h1 => ?_) (fun h1 => ?_)
  · refine seA ?_
    have hN : ∀ e w, (m39_5 R (e 2) w) → (thenE (W39 k39_5 Q) Q) .normal e w := fun e w h => then_N (s39_5 (R := R) (Q := Q) hR e w h)
    exact rgA 2 (fun e w => m39_5 R (e 2) w) h1 hN
  · exact skA (hN _ _ h1)
theorem s39_1 {R : VP} {Q : EQ} (hR : ∀ e w, (R (e 2) w) → Q .ret e w) (e : Env) (w : World) (h : m39_1 R (e 0) w) : W39 k39_1 Q e w := by
  unfold m39_1 at h
  refine seA ?_
  have hN : ∀ e w, (m39_2 R (e 0) w) → (thenE (W39 k39_2 Q) Q) .normal e w := fun e w h => then_N (s39_2 (R := R) (Q := Q) hR e w h)
  have hR : ∀ e w, (R (e 2) w) → (thenE (W39 k39_2 Q) Q) .ret e w := fun e w h => then_R (hR e w h)
  refine seA ?_
  have hN : ∀ e w, (m39_4 R (e 0) (e 4) w) → (thenE (W39 k39_4 (thenE (W39 k39_2 Q) Q)) (thenE (W39 k39_2 Q) Q)) .normal e w := fun e w h => then_N (s39_4 (R := R) (Q := (thenE (W39 k39_2 Q) Q)) hN hR e w h)
  exact rgA 1 (fun e w => m39_4 R (e 0) (e 4) w) h hN
theorem s39_0 {R : VP} {Q : EQ} (hR : ∀ e w, (R (e 2) w) → Q .ret e w) (e : Env) (w : World) (h : m39_0 R (e 0) w) : W39 k39_0 Q e w := by
  unfold m39_0 at h
  refine seA ?_
  have hN : ∀ e w, (m39_1 R (e 0) w) → (thenE (W39 k39_1 Q) Q) .normal e w := fun e w h => then_N (s39_1 (R := R) (Q := Q) hR e w h)
  exact rgA 0 (fun e w => m39_1 R (e 0) w) h hN
abbrev m39 (R : VP) (g0 : Value) (w : World) : Prop := m39_0 R g0 w
theorem s39 (g0 : Value) {R : VP} {w : World} (h : m39 R g0 w) :
    Calls Try.prog 39 #[g0] w fun e w' => ∃ v, e = .returned v ∧ R v w' :=
  calls_of_cwp (st := (fun i => 0)) (c := k39_0) (by kernel_rfl) Try.func39 (by kernel_rfl) (Nat.le_of_ble_eq_true (by kernel_rfl)) (by kernel_rfl)
    (s39_0 (R := R) (Q := endE Try.prog Try.f39 R) (fun e w h => kcast (by kernel_rfl) h) (argsE #[g0]) w (kcast (by kernel_rfl) h))
/-! ### headgate/headgatelaw10.awake -/
def m40_11 (R : VP) (t0 : Value) (w : World) : Prop :=
  R t0 w
def m40_9 (R : VP) (t0 : Value) (w : World) : Prop :=
  R t0 w
def m40_8 (R : VP) (g1 a3 b4 c6 d7 x9 h10 i11 y13 : Value) (w : World) : Prop :=
  valP Try.prog (binS BinOp.eql 3 (Operand.tmp 46) (Operand.const (Value.int IntKind.i64 1)) a3 (Value.int IntKind.i64 1)) w fun t47 w =>
  condP t47
  (valP Try.prog (binS BinOp.eql 3 (Operand.tmp 49) (Operand.const (Value.int IntKind.i64 1)) b4 (Value.int IntKind.i64 1)) w fun t50 w =>
  pickP t47 t50 (Value.bool false) fun t51 =>
  condP t51
  (valP Try.prog (binS BinOp.eql 3 (Operand.tmp 53) (Operand.const (Value.int IntKind.i64 2)) c6 (Value.int IntKind.i64 2)) w fun t54 w =>
  pickP t51 t54 (Value.bool false) fun t55 =>
  condP t55
  (valP Try.prog (binS BinOp.eql 3 (Operand.tmp 57) (Operand.const (Value.int IntKind.i64 2)) d7 (Value.int IntKind.i64 2)) w fun t58 w =>
  pickP t55 t58 (Value.bool false) fun t59 =>
  condP t59
  (valP Try.prog (Instr.buildSlice 28 2 #[(0, (Value.int IntKind.i64 1)), (1, (Value.int IntKind.i64 2))]) w fun t62 w =>
  callP Try.prog (fnV 32) #[x9, t62] w fun t63 w =>
  pickP t59 t63 (Value.bool false) fun t64 =>
  condP t64
  (valP Try.prog (binS BinOp.eql 3 (Operand.tmp 66) (Operand.const (Value.int IntKind.i64 3)) h10 (Value.int IntKind.i64 3)) w fun t67 w =>
  pickP t64 t67 (Value.bool false) fun t68 =>
  condP t68
  (valP Try.prog (binS BinOp.eql 3 (Operand.tmp 70) (Operand.const (Value.int IntKind.i64 3)) i11 (Value.int IntKind.i64 3)) w fun t71 w =>
  pickP t68 t71 (Value.bool false) fun t72 =>
  condP t72
  (valP Try.prog (Instr.buildSlice 28 2 #[(0, (Value.int IntKind.i64 2)), (1, (Value.int IntKind.i64 3))]) w fun t75 w =>
  callP Try.prog (fnV 32) #[y13, t75] w fun t76 w =>
  pickP t72 t76 (Value.bool false) fun t77 =>
  condP t77
  (callP Try.prog (fnV 48) #[g1, (Value.int IntKind.i64 2), (Value.int IntKind.i64 2)] w fun t80 w =>
  valP Try.prog (binS BinOp.eql 26 (Operand.tmp 80) (Operand.const (Value.int IntKind.i64 12)) t80 (Value.int IntKind.i64 12)) w fun t81 w =>
  pickP t77 t81 (Value.bool false) fun t82 =>
  condP t82
  (callP Try.prog (fnV 48) #[g1, (Value.int IntKind.i64 1), (Value.int IntKind.i64 3)] w fun t85 w =>
  valP Try.prog (binS BinOp.eql 26 (Operand.tmp 85) (Operand.const (Value.int IntKind.i64 11)) t85 (Value.int IntKind.i64 11)) w fun t86 w =>
  pickP t82 t86 (Value.bool false) fun t87 =>
  m40_9 R t87 w)
  (pickP t82 undef (Value.bool false) fun t87 =>
  m40_9 R t87 w))
  (pickP t77 undef (Value.bool false) fun t82 =>
  pickP t82 undef (Value.bool false) fun t87 =>
  m40_9 R t87 w))
  (pickP t72 undef (Value.bool false) fun t77 =>
  pickP t77 undef (Value.bool false) fun t82 =>
  pickP t82 undef (Value.bool false) fun t87 =>
  m40_9 R t87 w))
  (pickP t68 undef (Value.bool false) fun t72 =>
  pickP t72 undef (Value.bool false) fun t77 =>
  pickP t77 undef (Value.bool false) fun t82 =>
  pickP t82 undef (Value.bool false) fun t87 =>
  m40_9 R t87 w))
  (pickP t64 undef (Value.bool false) fun t68 =>
  pickP t68 undef (Value.bool false) fun t72 =>
  pickP t72 undef (Value.bool false) fun t77 =>
  pickP t77 undef (Value.bool false) fun t82 =>
  pickP t82 undef (Value.bool false) fun t87 =>
  m40_9 R t87 w))
  (pickP t59 undef (Value.bool false) fun t64 =>
  pickP t64 undef (Value.bool false) fun t68 =>
  pickP t68 undef (Value.bool false) fun t72 =>
  pickP t72 undef (Value.bool false) fun t77 =>
  pickP t77 undef (Value.bool false) fun t82 =>
  pickP t82 undef (Value.bool false) fun t87 =>
  m40_9 R t87 w))
  (pickP t55 undef (Value.bool false) fun t59 =>
  pickP t59 undef (Value.bool false) fun t64 =>
  pickP t64 undef (Value.bool false) fun t68 =>
  pickP t68 undef (Value.bool false) fun t72 =>
  pickP t72 undef (Value.bool false) fun t77 =>
  pickP t77 undef (Value.bool false) fun t82 =>
  pickP t82 undef (Value.bool false) fun t87 =>
  m40_9 R t87 w))
  (pickP t51 undef (Value.bool false) fun t55 =>
  pickP t55 undef (Value.bool false) fun t59 =>
  pickP t59 undef (Value.bool false) fun t64 =>
  pickP t64 undef (Value.bool false) fun t68 =>
  pickP t68 undef (Value.bool false) fun t72 =>
  pickP t72 undef (Value.bool false) fun t77 =>
  pickP t77 undef (Value.bool false) fun t82 =>
  pickP t82 undef (Value.bool false) fun t87 =>
  m40_9 R t87 w))
  (pickP t47 undef (Value.bool false) fun t51 =>
  pickP t51 undef (Value.bool false) fun t55 =>
  pickP t55 undef (Value.bool false) fun t59 =>
  pickP t59 undef (Value.bool false) fun t64 =>
  pickP t64 undef (Value.bool false) fun t68 =>
  pickP t68 undef (Value.bool false) fun t72 =>
  pickP t72 undef (Value.bool false) fun t77 =>
  pickP t77 undef (Value.bool false) fun t82 =>
  pickP t82 undef (Value.bool false) fun t87 =>
  m40_9 R t87 w)
def m40_7 (R : VP) (g1 a3 b4 c6 d7 x9 h10 i11 : Value) (w : World) : Prop :=
  callP Try.prog (fnV 46) #[g1] w fun t45 w =>
  m40_8 R g1 a3 b4 c6 d7 x9 h10 i11 t45 w
def m40_6 (R : VP) (g1 a3 b4 c6 d7 x9 : Value) (w : World) : Prop :=
  callP Try.prog (fnV 54) #[g1, (Value.int IntKind.i64 1)] w fun t40 w =>
  valP Try.prog (Instr.extract t40 0) w fun t41 w =>
  valP Try.prog (Instr.extract t40 1) w fun t42 w =>
  valP Try.prog (Instr.extract t40 2) w fun t43 w =>
  m40_7 R g1 a3 b4 c6 d7 x9 t41 t42 w
def m40_5 (R : VP) (g1 a3 b4 c6 d7 : Value) (w : World) : Prop :=
  callP Try.prog (fnV 46) #[g1] w fun t37 w =>
  m40_6 R g1 a3 b4 c6 d7 t37 w
def m40_4 (R : VP) (g1 a3 b4 : Value) (w : World) : Prop :=
  callP Try.prog (fnV 54) #[g1, (Value.int IntKind.i64 2)] w fun t32 w =>
  valP Try.prog (Instr.extract t32 0) w fun t33 w =>
  valP Try.prog (Instr.extract t32 1) w fun t34 w =>
  valP Try.prog (Instr.extract t32 2) w fun t35 w =>
  m40_5 R g1 a3 b4 t33 t34 w
def m40_3 (R : VP) (g1 : Value) (w : World) : Prop :=
  callP Try.prog (fnV 54) #[g1, (Value.int IntKind.i64 1)] w fun t26 w =>
  valP Try.prog (Instr.extract t26 0) w fun t27 w =>
  valP Try.prog (Instr.extract t26 1) w fun t28 w =>
  valP Try.prog (Instr.extract t26 2) w fun t29 w =>
  m40_4 R g1 t27 t28 w
def m40_10 (R : VP) (g1 t23 : Value) (w : World) : Prop :=
  condP t23
  (m40_11 R (Value.bool false) w)
  (m40_3 R g1 w)
def m40_2 (R : VP) (g1 e2 : Value) (w : World) : Prop :=
  valP Try.prog (binS BinOp.neq 26 (Operand.tmp 18) (Operand.const (Value.int IntKind.i64 0)) e2 (Value.int IntKind.i64 0)) w fun t19 w =>
  condP t19
  (pickP t19 (Value.bool true) undef fun t23 =>
  m40_10 R g1 t23 w)
  (valP Try.prog (binS BinOp.eql 59 (Operand.tmp 21) (Operand.const (Value.pointer none)) g1 (Value.pointer none)) w fun t22 w =>
  pickP t19 (Value.bool true) t22 fun t23 =>
  m40_10 R g1 t23 w)
def m40_1 (R : VP) (w : World) : Prop :=
  callP Try.prog (fnV 36) #[(Value.int IntKind.i64 2), (Value.bool false), (Value.int IntKind.i64 0), (Value.int IntKind.i64 1)] w fun t15 w =>
  valP Try.prog (Instr.extract t15 0) w fun t16 w =>
  valP Try.prog (Instr.extract t15 1) w fun t17 w =>
  m40_2 R t16 t17 w
def m40_0 (R : VP) (w : World) : Prop :=
  m40_1 R w
abbrev W40 := cwp Try.prog (fun i => 0)
noncomputable def k40_0 : Code := (bodyOf Try.f40)
noncomputable def k40_1 : Code := (c2 k40_0)
noncomputable def k40_2 : Code := (c2 k40_1)
noncomputable def k40_3 : Code := (c2 k40_2)
noncomputable def k40_4 : Code := (c2 k40_3)
noncomputable def k40_5 : Code := (c2 k40_4)
noncomputable def k40_6 : Code := (c2 k40_5)
noncomputable def k40_7 : Code := (c2 k40_6)
noncomputable def k40_8 : Code := (c2 k40_7)
noncomputable def k40_9 : Code := (c2 k40_8)
noncomputable def k40_10 : Code := (c2 (c1 k40_2))
noncomputable def k40_11 : Code := (c2 (c1 k40_10))
theorem s40_11 {R : VP} {Q : EQ} (hR : ∀ e w, (R (e 0) w) → Q .ret e w) (e : Env) (w : World) (h : m40_11 R (e 0) w) : W40 k40_11 Q e w := by
  unfold m40_11 at h
  exact reA (hR _ _ h)
theorem s40_9 {R : VP} {Q : EQ} (hR : ∀ e w, (R (e 0) w) → Q .ret e w) (e : Env) (w : World) (h : m40_9 R (e 0) w) : W40 k40_9 Q e w := by
  unfold m40_9 at h
  exact reA (hR _ _ h)
theorem s40_8 {R : VP} {Q : EQ} (hR : ∀ e w, (R (e 0) w) → Q .ret e w) (e : Env) (w : World) (h : m40_8 R (e 1) (e 3) (e 4) (e 6) (e 7) (e 9) (e 10) (e 11) (e 13) w) : W40 k40_8 Q e w := by
  unfold m40_8 at h
  refine seA ?_
  have hN : ∀ e w, (m40_9 R (e 0) w) → (thenE (W40 k40_9 Q) Q) .normal e w := fun e w h => then_N (s40_9 (R := R) (Q := Q) hR e w h)
  exact rgK 9 (fun e w => m40_9 R (e 0) w) h hN
theorem s40_7 {R : VP} {Q : EQ} (hR : ∀ e w, (R (e 0) w) → Q .ret e w) (e : Env) (w : World) (h : m40_7 R (e 1) (e 3) (e 4) (e 6) (e 7) (e 9) (e 10) (e 11) w) : W40 k40_7 Q e w := by
  unfold m40_7 at h
  refine seA ?_
  have hN : ∀ e w, (m40_8 R (e 1) (e 3) (e 4) (e 6) (e 7) (e 9) (e 10) (e 11) (e 13) w) → (thenE (W40 k40_8 Q) Q) .normal e w := fun e w h => then_N (s40_8 (R := R) (Q := Q) hR e w h)
  exact rgA 8 (fun e w => m40_8 R (e 1) (e 3) (e 4) (e 6) (e 7) (e 9) (e 10) (e 11) (e 13) w) h hN
theorem s40_6 {R : VP} {Q : EQ} (hR : ∀ e w, (R (e 0) w) → Q .ret e w) (e : Env) (w : World) (h : m40_6 R (e 1) (e 3) (e 4) (e 6) (e 7) (e 9) w) : W40 k40_6 Q e w := by
  unfold m40_6 at h
  refine seA ?_
  have hN : ∀ e w, (m40_7 R (e 1) (e 3) (e 4) (e 6) (e 7) (e 9) (e 10) (e 11) w) → (thenE (W40 k40_7 Q) Q) .normal e w := fun e w h => then_N (s40_7 (R := R) (Q := Q) hR e w h)
  exact rgA 7 (fun e w => m40_7 R (e 1) (e 3) (e 4) (e 6) (e 7) (e 9) (e 10) (e 11) w) h hN
theorem s40_5 {R : VP} {Q : EQ} (hR : ∀ e w, (R (e 0) w) → Q .ret e w) (e : Env) (w : World) (h : m40_5 R (e 1) (e 3) (e 4) (e 6) (e 7) w) : W40 k40_5 Q e w := by
  unfold m40_5 at h
  refine seA ?_
  have hN : ∀ e w, (m40_6 R (e 1) (e 3) (e 4) (e 6) (e 7) (e 9) w) → (thenE (W40 k40_6 Q) Q) .normal e w := fun e w h => then_N (s40_6 (R := R) (Q := Q) hR e w h)
  exact rgA 6 (fun e w => m40_6 R (e 1) (e 3) (e 4) (e 6) (e 7) (e 9) w) h hN
theorem s40_4 {R : VP} {Q : EQ} (hR : ∀ e w, (R (e 0) w) → Q .ret e w) (e : Env) (w : World) (h : m40_4 R (e 1) (e 3) (e 4) w) : W40 k40_4 Q e w := by
  unfold m40_4 at h
  refine seA ?_
  have hN : ∀ e w, (m40_5 R (e 1) (e 3) (e 4) (e 6) (e 7) w) → (thenE (W40 k40_5 Q) Q) .normal e w := fun e w h => then_N (s40_5 (R := R) (Q := Q) hR e w h)
  exact rgA 5 (fun e w => m40_5 R (e 1) (e 3) (e 4) (e 6) (e 7) w) h hN
theorem s40_3 {R : VP} {Q : EQ} (hR : ∀ e w, (R (e 0) w) → Q .ret e w) (e : Env) (w : World) (h : m40_3 R (e 1) w) : W40 k40_3 Q e w := by
  unfold m40_3 at h
  refine seA ?_
  have hN : ∀ e w, (m40_4 R (e 1) (e 3) (e 4) w) → (thenE (W40 k40_4 Q) Q) .normal e w := fun e w h => then_N (s40_4 (R := R) (Q := Q) hR e w h)
  exact rgA 4 (fun e w => m40_4 R (e 1) (e 3) (e 4) w) h hN
theorem s40_10 {R : VP} {Q : EQ} (hN : ∀ e w, (m40_3 R (e 1) w) → Q .normal e w) (hR : ∀ e w, (R (e 0) w) → Q .ret e w) (e : Env) (w : World) (h : m40_10 R (e 1) (e 23) w) : W40 k40_10 Q e w := by
  unfold m40_10 at h
  refine coA (Operand.tmp 23) h (fun h1 => ?_) (fun h1 => ?_)
  · refine seA ?_
    have hN : ∀ e w, (m40_11 R (e 0) w) → (thenE (W40 k40_11 Q) Q) .normal e w := fun e w h => then_N (s40_11 (R := R) (Q := Q) hR e w h)
    exact rgA 3 (fun e w => m40_11 R (e 0) w) h1 hN
  · exact skA (hN _ _ h1)
theorem s40_2 {R : VP} {Q : EQ} (hR : ∀ e w, (R (e 0) w) → Q .ret e w) (e : Env) (w : World) (h : m40_2 R (e 1) (e 2) w) : W40 k40_2 Q e w := by
  unfold m40_2 at h
  refine seA ?_
  have hN : ∀ e w, (m40_3 R (e 1) w) → (thenE (W40 k40_3 Q) Q) .normal e w := fun e w h => then_N (s40_3 (R := R) (Q := Q) hR e w h)
  have hR : ∀ e w, (R (e 0) w) → (thenE (W40 k40_3 Q) Q) .ret e w := fun e w h => then_R (hR e w h)
  refine seA ?_
  have hN : ∀ e w, (m40_10 R (e 1) (e 23) w) → (thenE (W40 k40_10 (thenE (W40 k40_3 Q) Q)) (thenE (W40 k40_3 Q) Q)) .normal e w := fun e w h => then_N (s40_10 (R := R) (Q := (thenE (W40 k40_3 Q) Q)) hN hR e w h)
  exact rgA 2 (fun e w => m40_10 R (e 1) (e 23) w) h hN
theorem s40_1 {R : VP} {Q : EQ} (hR : ∀ e w, (R (e 0) w) → Q .ret e w) (e : Env) (w : World) (h : m40_1 R w) : W40 k40_1 Q e w := by
  unfold m40_1 at h
  refine seA ?_
  have hN : ∀ e w, (m40_2 R (e 1) (e 2) w) → (thenE (W40 k40_2 Q) Q) .normal e w := fun e w h => then_N (s40_2 (R := R) (Q := Q) hR e w h)
  exact rgA 1 (fun e w => m40_2 R (e 1) (e 2) w) h hN
theorem s40_0 {R : VP} {Q : EQ} (hR : ∀ e w, (R (e 0) w) → Q .ret e w) (e : Env) (w : World) (h : m40_0 R w) : W40 k40_0 Q e w := by
  unfold m40_0 at h
  refine seA ?_
  have hN : ∀ e w, (m40_1 R w) → (thenE (W40 k40_1 Q) Q) .normal e w := fun e w h => then_N (s40_1 (R := R) (Q := Q) hR e w h)
  exact rgA 0 (fun e w => m40_1 R w) h hN
abbrev m40 (R : VP) (w : World) : Prop := m40_0 R w
theorem s40  {R : VP} {w : World} (h : m40 R  w) :
    Calls Try.prog 40 #[] w fun e w' => ∃ v, e = .returned v ∧ R v w' :=
  calls_of_cwp (st := (fun i => 0)) (c := k40_0) (by kernel_rfl) Try.func40 (by kernel_rfl) (Nat.le_of_ble_eq_true (by kernel_rfl)) (by kernel_rfl)
    (s40_0 (R := R) (Q := endE Try.prog Try.f40 R) (fun e w h => kcast (by kernel_rfl) h) (argsE #[]) w (kcast (by kernel_rfl) h))
/-! ### (*headgate/group.Group).Sync -/
def m41_16 (R : VP) (t4 t5 t6 : Value) (w : World) : Prop :=
  R (Value.tuple #[t4, t5, t6]) w
def m41_12 (R : VP) (K1 : (Value × Value) → World → Prop) (g0 id1 l8 t27 t28 t29 : Value) (w : World) : Prop :=
  valP Try.prog (binS BinOp.add 3 (Operand.tmp 29) (Operand.const (Value.int IntKind.i64 1)) t29 (Value.int IntKind.i64 1)) w fun t41 w =>
  K1 (l8, t41) w
def m41_14 (R : VP) (K1 : (Value × Value) → World → Prop) (g0 id1 l8 p9 t27 t28 t29 t36 : Value) (w : World) : Prop :=
  condP t36
  (valP Try.prog (Instr.buildSlice 28 1 #[(0, p9)]) w fun t39 w =>
  builtinP Try.prog Builtin.append #[28, 28] 28 #[false, false] #[l8, t39] w fun t40 w =>
  m41_12 R K1 g0 id1 t40 t27 t28 t29 w)
  (m41_12 R K1 g0 id1 l8 t27 t28 t29 w)
def m41_13 (R : VP) (K1 : (Value × Value) → World → Prop) (g0 id1 l8 p9 o10 t27 t28 t29 : Value) (w : World) : Prop :=
  valP Try.prog (binS BinOp.eql 3 (Operand.tmp 34) (Operand.tmp 35) o10 id1) w fun t36 w =>
  m41_14 R K1 g0 id1 l8 p9 t27 t28 t29 t36 w
def m41_11 (R : VP) (K1 : (Value × Value) → World → Prop) (g0 id1 l8 t27 t28 t29 : Value) (w : World) : Prop :=
  valP Try.prog (Instr.indexAt 28 t27 t29) w fun t32 w =>
  valP Try.prog (Instr.loadAt 3 t32) w fun t33 w =>
  m41_13 R K1 g0 id1 l8 t29 t33 t27 t28 t29 w
def m41_7 (R : VP) (t4 t5 t6 : Value) (w : World) : Prop :=
  R (Value.tuple #[t4, t5, t6]) w
def m41_6 (R : VP) (g0 l8 : Value) (w : World) : Prop :=
  nilCheckP g0 fun t43 =>
  valP Try.prog (Instr.fieldAt 103 t43 2) w fun t44 w =>
  valP Try.prog (Instr.loadAt 3 t44) w fun t45 w =>
  m41_7 R t45 l8 (Value.int IntKind.i64 0) w
def m41_10 (R : VP) (K1 : (Value × Value) → World → Prop) (g0 id1 l8 t27 t28 t29 t30 : Value) (w : World) : Prop :=
  condP t30
  (m41_11 R K1 g0 id1 l8 t27 t28 t29 w)
  (m41_6 R g0 l8 w)
def m41_9 (R : VP) (K1 : (Value × Value) → World → Prop) (g0 id1 l8 t27 t28 t29 : Value) (w : World) : Prop :=
  valP Try.prog (binS BinOp.lss 3 (Operand.tmp 29) (Operand.tmp 28) t29 t28) w fun t30 w =>
  m41_10 R K1 g0 id1 l8 t27 t28 t29 t30 w
def m41_8 (R : VP) (g0 id1 l8 t27 t28 t29 : Value) (w : World) : Prop :=
  loopP (fun (K1 : (Value × Value) → World → Prop) (s : Value × Value) w => m41_9 R K1 g0 id1 s.1 t27 t28 s.2 w) (l8, t29) w
def m41_5 (R : VP) (g0 id1 l8 : Value) (w : World) : Prop :=
  nilCheckP g0 fun t25 =>
  valP Try.prog (Instr.fieldAt 103 t25 6) w fun t26 w =>
  valP Try.prog (Instr.loadAt 28 t26) w fun t27 w =>
  builtinP Try.prog Builtin.len #[28] 3 #[false] #[t27] w fun t28 w =>
  m41_8 R g0 id1 l8 t27 t28 (Value.int IntKind.i64 0) w
def m41_4 (R : VP) (g0 id1 : Value) (w : World) : Prop :=
  m41_5 R g0 id1 (Value.slice none 0 0) w
def m41_3 (R : VP) (g0 id1 m7 : Value) (w : World) : Prop :=
  nilCheckP g0 fun t18 =>
  valP Try.prog (Instr.fieldAt 103 t18 4) w fun t19 w =>
  valP Try.prog (Instr.loadAt 3 t19) w fun t20 w =>
  valP Try.prog (binS BinOp.add 3 (Operand.tmp 20) (Operand.const (Value.int IntKind.i64 12)) t20 (Value.int IntKind.i64 12)) w fun t21 w =>
  nilCheckP m7 fun t22 =>
  valP Try.prog (Instr.fieldAt 69 t22 2) w fun t23 w =>
  unitP Try.prog (Instr.storeAt 3 t23 t21) w fun _ w =>
  m41_4 R g0 id1 w
def m41_15 (R : VP) (g0 id1 m7 t15 : Value) (w : World) : Prop :=
  condP t15
  (m41_16 R (Value.int IntKind.i64 0) (Value.slice none 0 0) (Value.int IntKind.i64 11) w)
  (m41_3 R g0 id1 m7 w)
def m41_2 (R : VP) (g0 id1 m7 : Value) (w : World) : Prop :=
  valP Try.prog (binS BinOp.eql 105 (Operand.tmp 14) (Operand.const (Value.pointer none)) m7 (Value.pointer none)) w fun t15 w =>
  m41_15 R g0 id1 m7 t15 w
def m41_1 (R : VP) (g0 id1 : Value) (w : World) : Prop :=
  callP Try.prog (fnV 70) #[g0, id1] w fun t13 w =>
  m41_2 R g0 id1 t13 w
def m41_0 (R : VP) (g0 id1 : Value) (w : World) : Prop :=
  m41_1 R g0 id1 w
abbrev W41 := cwp Try.prog (fun i => 0)
noncomputable def k41_0 : Code := (bodyOf Try.f41)
noncomputable def k41_1 : Code := (c2 k41_0)
noncomputable def k41_2 : Code := (c2 k41_1)
noncomputable def k41_3 : Code := (c2 k41_2)
noncomputable def k41_4 : Code := (c2 k41_3)
noncomputable def k41_5 : Code := (c2 k41_4)
noncomputable def k41_6 : Code := (c2 k41_5)
noncomputable def k41_7 : Code := (c2 k41_6)
noncomputable def k41_8 : Code := (c2 (c1 k41_5))
noncomputable def k41_9 : Code := (c1 (c1 k41_8))
noncomputable def k41_10 : Code := (c2 k41_9)
noncomputable def k41_11 : Code := (c2 k41_10)
noncomputable def k41_12 : Code := (c2 k41_11)
noncomputable def k41_13 : Code := (c2 (c1 (c1 k41_11)))
noncomputable def k41_14 : Code := (c2 k41_13)
noncomputable def k41_15 : Code := (c2 (c1 k41_2))
noncomputable def k41_16 : Code := (c2 (c1 k41_15))
theorem s41_16 {R : VP} {Q : EQ} (hR : ∀ e w, (R (Value.tuple #[(e 4), (e 5), (e 6)]) w) → Q .ret e w) (e : Env) (w : World) (h : m41_16 R (e 4) (e 5) (e 6) w) : W41 k41_16 Q e w := by
  unfold m41_16 at h
  exact reA (hR _ _ h)
theorem s41_12 {R : VP} {K1 : (Value × Value) → World → Prop} {Q : EQ} (hN : ∀ e w, (K1 ((e 8), (e 29)) w) → Q .normal e w) (e : Env) (w : World) (h : m41_12 R K1 (e 0) (e 1) (e 8) (e 27) (e 28) (e 29) w) : W41 k41_12 Q e w := by
  unfold m41_12 at h
  exact rgA 11 (fun e w => K1 ((e 8), (e 29)) w) h hN
theorem s41_14 {R : VP} {K1 : (Value × Value) → World → Prop} {Q : EQ} (hN : ∀ e w, (m41_12 R K1 (e 0) (e 1) (e 8) (e 27) (e 28) (e 29) w) → Q .normal e w) (e : Env) (w : World) (h : m41_14 R K1 (e 0) (e 1) (e 8) (e 9) (e 27) (e 28) (e 29) (e 36) w) : W41 k41_14 Q e w := by
  unfold m41_14 at h
  refine coA (Operand.tmp 36) h (fun h1 => ?_) (fun h1 => ?_)
  · exact rgA 10 (fun e w => m41_12 R K1 (e 0) (e 1) (e 8) (e 27) (e 28) (e 29) w) h1 hN
  · exact skA (hN _ _ h1)
theorem s41_13 {R : VP} {K1 : (Value × Value) → World → Prop} {Q : EQ} (hN : ∀ e w, (m41_12 R K1 (e 0) (e 1) (e 8) (e 27) (e 28) (e 29) w) → Q .normal e w) (e : Env) (w : World) (h : m41_13 R K1 (e 0) (e 1) (e 8) (e 9) (e 10) (e 27) (e 28) (e 29) w) : W41 k41_13 Q e w := by
  unfold m41_13 at h
  refine seA ?_
  have hN : ∀ e w, (m41_14 R K1 (e 0) (e 1) (e 8) (e 9) (e 27) (e 28) (e 29) (e 36) w) → (thenE (W41 k41_14 Q) Q) .normal e w := fun e w h => then_N (s41_14 (R := R) (Q := Q) (K1 := K1) hN e w h)
  exact rgA 9 (fun e w => m41_14 R K1 (e 0) (e 1) (e 8) (e 9) (e 27) (e 28) (e 29) (e 36) w) h hN
theorem s41_11 {R : VP} {K1 : (Value × Value) → World → Prop} {Q : EQ} (hN : ∀ e w, (K1 ((e 8), (e 29)) w) → Q .normal e w) (e : Env) (w : World) (h : m41_11 R K1 (e 0) (e 1) (e 8) (e 27) (e 28) (e 29) w) : W41 k41_11 Q e w := by
  unfold m41_11 at h
  refine seA ?_
  have hN : ∀ e w, (m41_12 R K1 (e 0) (e 1) (e 8) (e 27) (e 28) (e 29) w) → (thenE (W41 k41_12 Q) Q) .normal e w := fun e w h => then_N (s41_12 (R := R) (Q := Q) (K1 := K1) hN e w h)
  refine block_ok 1 (by kernel_rfl) ?_
  have hN : ∀ e w, (m41_12 R K1 (e 0) (e 1) (e 8) (e 27) (e 28) (e 29) w) → (inBlockE 1 (thenE (W41 k41_12 Q) Q)) .normal e w := fun e w h => block_N (hN e w h)
  refine seA ?_
  have hN : ∀ e w, (m41_13 R K1 (e 0) (e 1) (e 8) (e 9) (e 10) (e 27) (e 28) (e 29) w) → (thenE (W41 k41_13 (inBlockE 1 (thenE (W41 k41_12 Q) Q))) (inBlockE 1 (thenE (W41 k41_12 Q) Q))) .normal e w := fun e w h => then_N (s41_13 (R := R) (Q := (inBlockE 1 (thenE (W41 k41_12 Q) Q))) (K1 := K1) hN e w h)
  exact rgA 8 (fun e w => m41_13 R K1 (e 0) (e 1) (e 8) (e 9) (e 10) (e 27) (e 28) (e 29) w) h hN
theorem s41_7 {R : VP} {Q : EQ} (hR : ∀ e w, (R (Value.tuple #[(e 4), (e 5), (e 6)]) w) → Q .ret e w) (e : Env) (w : World) (h : m41_7 R (e 4) (e 5) (e 6) w) : W41 k41_7 Q e w := by
  unfold m41_7 at h
  exact reA (hR _ _ h)
theorem s41_6 {R : VP} {Q : EQ} (hR : ∀ e w, (R (Value.tuple #[(e 4), (e 5), (e 6)]) w) → Q .ret e w) (e : Env) (w : World) (h : m41_6 R (e 0) (e 8) w) : W41 k41_6 Q e w := by
  unfold m41_6 at h
  refine seA ?_
  have hN : ∀ e w, (m41_7 R (e 4) (e 5) (e 6) w) → (thenE (W41 k41_7 Q) Q) .normal e w := fun e w h => then_N (s41_7 (R := R) (Q := Q) hR e w h)
  exact rgA 12 (fun e w => m41_7 R (e 4) (e 5) (e 6) w) h hN
theorem s41_10 {R : VP} {K1 : (Value × Value) → World → Prop} {Q : EQ} (hN : ∀ e w, (K1 ((e 8), (e 29)) w) → Q .normal e w) (hX0 : ∀ e w, (m41_6 R (e 0) (e 8) w) → Q (.exit 0) e w) (e : Env) (w : World) (h : m41_10 R K1 (e 0) (e 1) (e 8) (e 27) (e 28) (e 29) (e 30) w) : W41 k41_10 Q e w := by
  unfold m41_10 at h
  refine seA ?_
  have hN : ∀ e w, (m41_11 R K1 (e 0) (e 1) (e 8) (e 27) (e 28) (e 29) w) → (thenE (W41 k41_11 Q) Q) .normal e w := fun e w h => then_N (s41_11 (R := R) (Q := Q) (K1 := K1) hN e w h)
  have hX0 : ∀ e w, (m41_6 R (e 0) (e 8) w) → (thenE (W41 k41_11 Q) Q) (.exit 0) e w := fun e w h => then_X (hX0 e w h)
  refine coA (Operand.tmp 30) h (fun h1 => ?_) (fun h1 => ?_)
  · exact skA (hN _ _ h1)
  · exact exA 0 (hX0 _ _ h1)
theorem s41_9 {R : VP} {K1 : (Value × Value) → World → Prop} {Q : EQ} (hN : ∀ e w, (K1 ((e 8), (e 29)) w) → Q .normal e w) (hX0 : ∀ e w, (m41_6 R (e 0) (e 8) w) → Q (.exit 0) e w) (e : Env) (w : World) (h : m41_9 R K1 (e 0) (e 1) (e 8) (e 27) (e 28) (e 29) w) : W41 k41_9 Q e w := by
  unfold m41_9 at h
  refine seA ?_
  have hN : ∀ e w, (m41_10 R K1 (e 0) (e 1) (e 8) (e 27) (e 28) (e 29) (e 30) w) → (thenE (W41 k41_10 Q) Q) .normal e w := fun e w h => then_N (s41_10 (R := R) (Q := Q) (K1 := K1) hN hX0 e w h)
  exact rgA 7 (fun e w => m41_10 R K1 (e 0) (e 1) (e 8) (e 27) (e 28) (e 29) (e 30) w) h hN
theorem s41_8 {R : VP} {Q : EQ} (hN : ∀ e w, (m41_6 R (e 0) (e 8) w) → Q .normal e w) (e : Env) (w : World) (h : m41_8 R (e 0) (e 1) (e 8) (e 27) (e 28) (e 29) w) : W41 k41_8 Q e w := by
  unfold m41_8 at h
  refine block_ok 0 (by kernel_rfl) ?_
  have hX0 : ∀ e w, (m41_6 R (e 0) (e 8) w) → (inBlockE 0 Q) (.exit 0) e w := fun e w h => inBlock_same (Q := Q) 0 (hN e w h)
  refine loop_ok' (fun (e : Env) => (e 8, e 29)) [0, 1, 27, 28] (by kernel_rfl) (by kernel_rfl) h (fun K e' w' hk h' => ?_)
  have r0 : e' 0 = e 0 := hk 0 (by decide)
  have r1 : e' 1 = e 1 := hk 1 (by decide)
  have r27 : e' 27 = e 27 := hk 27 (by decide)
  have r28 : e' 28 = e 28 := hk 28 (by decide)
  have hX0 : ∀ e w, (m41_6 R (e 0) (e 8) w) → (thenE (fun (e : Env) w => K ((e 8), (e 29)) w) (inBlockE 0 Q)) (.exit 0) e w := fun e w h => then_X (hX0 e w h)
  exact s41_9 (R := R) (Q := (thenE (fun (e : Env) w => K ((e 8), (e 29)) w) (inBlockE 0 Q))) (K1 := K) (fun _ _ h => then_N h) hX0 e' w' (by rw [r0, r1, r27, r28]; exact h')
theorem s41_5 {R : VP} {Q : EQ} (hR : ∀ e w, (R (Value.tuple #[(e 4), (e 5), (e 6)]) w) → Q .ret e w) (e : Env) (w : World) (h : m41_5 R (e 0) (e 1) (e 8) w) : W41 k41_5 Q e w := by
  unfold m41_5 at h
  refine seA ?_
  have hN : ∀ e w, (m41_6 R (e 0) (e 8) w) → (thenE (W41 k41_6 Q) Q) .normal e w := fun e w h => then_N (s41_6 (R := R) (Q := Q) hR e w h)
  refine seA ?_
  have hN : ∀ e w, (m41_8 R (e 0) (e 1) (e 8) (e 27) (e 28) (e 29) w) → (thenE (W41 k41_8 (thenE (W41 k41_6 Q) Q)) (thenE (W41 k41_6 Q) Q)) .normal e w := fun e w h => then_N (s41_8 (R := R) (Q := (thenE (W41 k41_6 Q) Q)) hN e w h)
  exact rgA 6 (fun e w => m41_8 R (e 0) (e 1) (e 8) (e 27) (e 28) (e 29) w) h hN
theorem s41_4 {R : VP} {Q : EQ} (hR : ∀ e w, (R (Value.tuple #[(e 4), (e 5), (e 6)]) w) → Q .ret e w) (e : Env) (w : World) (h : m41_4 R (e 0) (e 1) w) : W41 k41_4 Q e w := by
  unfold m41_4 at h
  refine seA ?_
  have hN : ∀ e w, (m41_5 R (e 0) (e 1) (e 8) w) → (thenE (W41 k41_5 Q) Q) .normal e w := fun e w h => then_N (s41_5 (R := R) (Q := Q) hR e w h)
  exact rgA 5 (fun e w => m41_5 R (e 0) (e 1) (e 8) w) h hN
theorem s41_3 {R : VP} {Q : EQ} (hR : ∀ e w, (R (Value.tuple #[(e 4), (e 5), (e 6)]) w) → Q .ret e w) (e : Env) (w : World) (h : m41_3 R (e 0) (e 1) (e 7) w) : W41 k41_3 Q e w := by
  unfold m41_3 at h
  refine seA ?_
  have hN : ∀ e w, (m41_4 R (e 0) (e 1) w) → (thenE (W41 k41_4 Q) Q) .normal e w := fun e w h => then_N (s41_4 (R := R) (Q := Q) hR e w h)
  exact rgA 4 (fun e w => m41_4 R (e 0) (e 1) w) h hN
theorem s41_15 {R : VP} {Q : EQ} (hN : ∀ e w, (m41_3 R (e 0) (e 1) (e 7) w) → Q .normal e w) (hR : ∀ e w, (R (Value.tuple #[(e 4), (e 5), (e 6)]) w) → Q .ret e w) (e : Env) (w : World) (h : m41_15 R (e 0) (e 1) (e 7) (e 15) w) : W41 k41_15 Q e w := by
  unfold m41_15 at h
  refine coA (Operand.tmp 15) h (fun h1 => ?_) (fun h1 => ?_)
  · refine seA ?_
    have hN : ∀ e w, (m41_16 R (e 4) (e 5) (e 6) w) → (thenE (W41 k41_16 Q) Q) .normal e w := fun e w h => then_N (s41_16 (R := R) (Q := Q) hR e w h)
    exact rgA 3 (fun e w => m41_16 R (e 4) (e 5) (e 6) w) h1 hN
  · exact skA (hN _ _ h1)
theorem s41_2 {R : VP} {Q : EQ} (hR : ∀ e w, (R (Value.tuple #[(e 4), (e 5), (e 6)]) w) → Q .ret e w) (e : Env) (w : World) (h : m41_2 R (e 0) (e 1) (e 7) w) : W41 k41_2 Q e w := by
  unfold m41_2 at h
  refine seA ?_
  have hN : ∀ e w, (m41_3 R (e 0) (e 1) (e 7) w) → (thenE (W41 k41_3 Q) Q) .normal e w := fun e w h => then_N (s41_3 (R := R) (Q := Q) hR e w h)
  have hR : ∀ e w, (R (Value.tuple #[(e 4), (e 5), (e 6)]) w) → (thenE (W41 k41_3 Q) Q) .ret e w := fun e w h => then_R (hR e w h)
  refine seA ?_
  have hN : ∀ e w, (m41_15 R (e 0) (e 1) (e 7) (e 15) w) → (thenE (W41 k41_15 (thenE (W41 k41_3 Q) Q)) (thenE (W41 k41_3 Q) Q)) .normal e w := fun e w h => then_N (s41_15 (R := R) (Q := (thenE (W41 k41_3 Q) Q)) hN hR e w h)
  exact rgA 2 (fun e w => m41_15 R (e 0) (e 1) (e 7) (e 15) w) h hN
theorem s41_1 {R : VP} {Q : EQ} (hR : ∀ e w, (R (Value.tuple #[(e 4), (e 5), (e 6)]) w) → Q .ret e w) (e : Env) (w : World) (h : m41_1 R (e 0) (e 1) w) : W41 k41_1 Q e w := by
  unfold m41_1 at h
  refine seA ?_
  have hN : ∀ e w, (m41_2 R (e 0) (e 1) (e 7) w) → (thenE (W41 k41_2 Q) Q) .normal e w := fun e w h => then_N (s41_2 (R := R) (Q := Q) hR e w h)
  exact rgA 1 (fun e w => m41_2 R (e 0) (e 1) (e 7) w) h hN
theorem s41_0 {R : VP} {Q : EQ} (hR : ∀ e w, (R (Value.tuple #[(e 4), (e 5), (e 6)]) w) → Q .ret e w) (e : Env) (w : World) (h : m41_0 R (e 0) (e 1) w) : W41 k41_0 Q e w := by
  unfold m41_0 at h
  refine seA ?_
  have hN : ∀ e w, (m41_1 R (e 0) (e 1) w) → (thenE (W41 k41_1 Q) Q) .normal e w := fun e w h => then_N (s41_1 (R := R) (Q := Q) hR e w h)
  exact rgA 0 (fun e w => m41_1 R (e 0) (e 1) w) h hN
abbrev m41 (R : VP) (g0 id1 : Value) (w : World) : Prop := m41_0 R g0 id1 w
theorem s41 (g0 id1 : Value) {R : VP} {w : World} (h : m41 R g0 id1 w) :
    Calls Try.prog 41 #[g0, id1] w fun e w' => ∃ v, e = .returned v ∧ R v w' :=
  calls_of_cwp (st := (fun i => 0)) (c := k41_0) (by kernel_rfl) Try.func41 (by kernel_rfl) (Nat.le_of_ble_eq_true (by kernel_rfl)) (by kernel_rfl)
    (s41_0 (R := R) (Q := endE Try.prog Try.f41 R) (fun e w h => kcast (by kernel_rfl) h) (argsE #[g0, id1]) w (kcast (by kernel_rfl) h))
/-! ### (*headgate/group.Group).Tick -/
def m42_10 (R : VP) (t2 : Value) (w : World) : Prop :=
  R t2 w
def m42_8 (R : VP) (t2 : Value) (w : World) : Prop :=
  R t2 w
def m42_6 (R : VP) (t2 : Value) (w : World) : Prop :=
  R t2 w
def m42_5 (R : VP) (w : World) : Prop :=
  m42_6 R (Value.bool true) w
def m42_4 (R : VP) (g1 : Value) (w : World) : Prop :=
  valP Try.prog (Instr.loadAt 59 g1) w fun t20 w =>
  callP Try.prog (fnV 74) #[t20] w fun t21 w =>
  m42_5 R w
def m42_7 (R : VP) (g1 t19 : Value) (w : World) : Prop :=
  condP t19
  (m42_8 R (Value.bool false) w)
  (m42_4 R g1 w)
def m42_3 (R : VP) (g1 : Value) (w : World) : Prop :=
  valP Try.prog (Instr.loadAt 59 g1) w fun t12 w =>
  callP Try.prog (fnV 71) #[t12] w fun t13 w =>
  condP t13
  (pickP t13 (Value.bool true) undef fun t19 =>
  m42_7 R g1 t19 w)
  (valP Try.prog (Instr.loadAt 59 g1) w fun t15 w =>
  valP Try.prog (Instr.makeFunc (Fn.func 73) #[] #[g1]) w fun t16 w =>
  callP Try.prog (fnV 72) #[t15, t16] w fun t17 w =>
  valP Try.prog (Op.unary UnOp.not t17) w fun t18 w =>
  pickP t13 (Value.bool true) t18 fun t19 =>
  m42_7 R g1 t19 w)
def m42_2 (R : VP) (g1 : Value) (w : World) : Prop :=
  valP Try.prog (Instr.loadAt 59 g1) w fun t5 w =>
  nilCheckP t5 fun t6 =>
  valP Try.prog (Instr.fieldAt 103 t6 4) w fun t7 w =>
  valP Try.prog (Instr.loadAt 3 t7) w fun t8 w =>
  valP Try.prog (binS BinOp.add 3 (Operand.tmp 8) (Operand.const (Value.int IntKind.i64 1)) t8 (Value.int IntKind.i64 1)) w fun t9 w =>
  nilCheckP t5 fun t10 =>
  valP Try.prog (Instr.fieldAt 103 t10 4) w fun t11 w =>
  unitP Try.prog (Instr.storeAt 3 t11 t9) w fun _ w =>
  m42_3 R g1 w
def m42_9 (R : VP) (g1 t4 : Value) (w : World) : Prop :=
  condP t4
  (m42_10 R (Value.bool false) w)
  (m42_2 R g1 w)
def m42_1 (R : VP) (g1 : Value) (w : World) : Prop :=
  valP Try.prog (Instr.loadAt 59 g1) w fun t3 w =>
  valP Try.prog (binS BinOp.eql 59 (Operand.tmp 3) (Operand.const (Value.pointer none)) t3 (Value.pointer none)) w fun t4 w =>
  m42_9 R g1 t4 w
def m42_0 (R : VP) (g0 : Value) (w : World) : Prop :=
  valP Try.prog (Instr.box 59 g0) w fun g1 w =>
  m42_1 R g1 w
abbrev W42 := cwp Try.prog (fun i => 0)
noncomputable def k42_0 : Code := (bodyOf Try.f42)
noncomputable def k42_1 : Code := (c2 k42_0)
noncomputable def k42_2 : Code := (c2 k42_1)
noncomputable def k42_3 : Code := (c2 k42_2)
noncomputable def k42_4 : Code := (c2 k42_3)
noncomputable def k42_5 : Code := (c2 k42_4)
noncomputable def k42_6 : Code := (c2 k42_5)
noncomputable def k42_7 : Code := (c2 (c1 k42_3))
noncomputable def k42_8 : Code := (c2 (c1 k42_7))
noncomputable def k42_9 : Code := (c2 (c1 k42_1))
noncomputable def k42_10 : Code := (c2 (c1 k42_9))
theorem s42_10 {R : VP} {Q : EQ} (hR : ∀ e w, (R (e 2) w) → Q .ret e w) (e : Env) (w : World) (h : m42_10 R (e 2) w) : W42 k42_10 Q e w := by
  unfold m42_10 at h
  exact reA (hR _ _ h)
theorem s42_8 {R : VP} {Q : EQ} (hR : ∀ e w, (R (e 2) w) → Q .ret e w) (e : Env) (w : World) (h : m42_8 R (e 2) w) : W42 k42_8 Q e w := by
  unfold m42_8 at h
  exact reA (hR _ _ h)
theorem s42_6 {R : VP} {Q : EQ} (hR : ∀ e w, (R (e 2) w) → Q .ret e w) (e : Env) (w : World) (h : m42_6 R (e 2) w) : W42 k42_6 Q e w := by
  unfold m42_6 at h
  exact reA (hR _ _ h)
theorem s42_5 {R : VP} {Q : EQ} (hR : ∀ e w, (R (e 2) w) → Q .ret e w) (e : Env) (w : World) (h : m42_5 R w) : W42 k42_5 Q e w := by
  unfold m42_5 at h
  refine seA ?_
  have hN : ∀ e w, (m42_6 R (e 2) w) → (thenE (W42 k42_6 Q) Q) .normal e w := fun e w h => then_N (s42_6 (R := R) (Q := Q) hR e w h)
  exact rgA 7 (fun e w => m42_6 R (e 2) w) h hN
theorem s42_4 {R : VP} {Q : EQ} (hR : ∀ e w, (R (e 2) w) → Q .ret e w) (e : Env) (w : World) (h : m42_4 R (e 1) w) : W42 k42_4 Q e w := by
  unfold m42_4 at h
  refine seA ?_
  have hN : ∀ e w, (m42_5 R w) → (thenE (W42 k42_5 Q) Q) .normal e w := fun e w h => then_N (s42_5 (R := R) (Q := Q) hR e w h)
  exact rgA 6 (fun e w => m42_5 R w) h hN
theorem s42_7 {R : VP} {Q : EQ} (hN : ∀ e w, (m42_4 R (e 1) w) → Q .normal e w) (hR : ∀ e w, (R (e 2) w) → Q .ret e w) (e : Env) (w : World) (h : m42_7 R (e 1) (e 19) w) : W42 k42_7 Q e w := by
  unfold m42_7 at h
  refine coA (Operand.tmp 19) h (fun h1 => ?_) (fun h1 => ?_)
  · refine seA ?_
    have hN : ∀ e w, (m42_8 R (e 2) w) → (thenE (W42 k42_8 Q) Q) .normal e w := fun e w h => then_N (s42_8 (R := R) (Q := Q) hR e w h)
    exact rgA 5 (fun e w => m42_8 R (e 2) w) h1 hN
  · exact skA (hN _ _ h1)
theorem s42_3 {R : VP} {Q : EQ} (hR : ∀ e w, (R (e 2) w) → Q .ret e w) (e : Env) (w : World) (h : m42_3 R (e 1) w) : W42 k42_3 Q e w := by
  unfold m42_3 at h
  refine seA ?_
  have hN : ∀ e w, (m42_4 R (e 1) w) → (thenE (W42 k42_4 Q) Q) .normal e w := fun e w h => then_N (s42_4 (R := R) (Q := Q) hR e w h)
  have hR : ∀ e w, (R (e 2) w) → (thenE (W42 k42_4 Q) Q) .ret e w := fun e w h => then_R (hR e w h)
  refine seA ?_
  have hN : ∀ e w, (m42_7 R (e 1) (e 19) w) → (thenE (W42 k42_7 (thenE (W42 k42_4 Q) Q)) (thenE (W42 k42_4 Q) Q)) .normal e w := fun e w h => then_N (s42_7 (R := R) (Q := (thenE (W42 k42_4 Q) Q)) hN hR e w h)
  exact rgA 4 (fun e w => m42_7 R (e 1) (e 19) w) h hN
theorem s42_2 {R : VP} {Q : EQ} (hR : ∀ e w, (R (e 2) w) → Q .ret e w) (e : Env) (w : World) (h : m42_2 R (e 1) w) : W42 k42_2 Q e w := by
  unfold m42_2 at h
  refine seA ?_
  have hN : ∀ e w, (m42_3 R (e 1) w) → (thenE (W42 k42_3 Q) Q) .normal e w := fun e w h => then_N (s42_3 (R := R) (Q := Q) hR e w h)
  exact rgA 3 (fun e w => m42_3 R (e 1) w) h hN
theorem s42_9 {R : VP} {Q : EQ} (hN : ∀ e w, (m42_2 R (e 1) w) → Q .normal e w) (hR : ∀ e w, (R (e 2) w) → Q .ret e w) (e : Env) (w : World) (h : m42_9 R (e 1) (e 4) w) : W42 k42_9 Q e w := by
  unfold m42_9 at h
  refine coA (Operand.tmp 4) h (fun h1 => ?_) (fun h1 => ?_)
  · refine seA ?_
    have hN : ∀ e w, (m42_10 R (e 2) w) → (thenE (W42 k42_10 Q) Q) .normal e w := fun e w h => then_N (s42_10 (R := R) (Q := Q) hR e w h)
    exact rgA 2 (fun e w => m42_10 R (e 2) w) h1 hN
  · exact skA (hN _ _ h1)
theorem s42_1 {R : VP} {Q : EQ} (hR : ∀ e w, (R (e 2) w) → Q .ret e w) (e : Env) (w : World) (h : m42_1 R (e 1) w) : W42 k42_1 Q e w := by
  unfold m42_1 at h
  refine seA ?_
  have hN : ∀ e w, (m42_2 R (e 1) w) → (thenE (W42 k42_2 Q) Q) .normal e w := fun e w h => then_N (s42_2 (R := R) (Q := Q) hR e w h)
  have hR : ∀ e w, (R (e 2) w) → (thenE (W42 k42_2 Q) Q) .ret e w := fun e w h => then_R (hR e w h)
  refine seA ?_
  have hN : ∀ e w, (m42_9 R (e 1) (e 4) w) → (thenE (W42 k42_9 (thenE (W42 k42_2 Q) Q)) (thenE (W42 k42_2 Q) Q)) .normal e w := fun e w h => then_N (s42_9 (R := R) (Q := (thenE (W42 k42_2 Q) Q)) hN hR e w h)
  exact rgA 1 (fun e w => m42_9 R (e 1) (e 4) w) h hN
theorem s42_0 {R : VP} {Q : EQ} (hR : ∀ e w, (R (e 2) w) → Q .ret e w) (e : Env) (w : World) (h : m42_0 R (e 0) w) : W42 k42_0 Q e w := by
  unfold m42_0 at h
  refine seA ?_
  have hN : ∀ e w, (m42_1 R (e 1) w) → (thenE (W42 k42_1 Q) Q) .normal e w := fun e w h => then_N (s42_1 (R := R) (Q := Q) hR e w h)
  exact rgA 0 (fun e w => m42_1 R (e 1) w) h hN
abbrev m42 (R : VP) (g0 : Value) (w : World) : Prop := m42_0 R g0 w
theorem s42 (g0 : Value) {R : VP} {w : World} (h : m42 R g0 w) :
    Calls Try.prog 42 #[g0] w fun e w' => ∃ v, e = .returned v ∧ R v w' :=
  calls_of_cwp (st := (fun i => 0)) (c := k42_0) (by kernel_rfl) Try.func42 (by kernel_rfl) (Nat.le_of_ble_eq_true (by kernel_rfl)) (by kernel_rfl)
    (s42_0 (R := R) (Q := endE Try.prog Try.f42 R) (fun e w h => kcast (by kernel_rfl) h) (argsE #[g0]) w (kcast (by kernel_rfl) h))
/-! ### headgate/headgatelaw10.ids -/
def m43_8 (R : VP) (K1 : (Value × Value) → World → Prop) (l0 out3 i4 : Value) (w : World) : Prop :=
  valP Try.prog (binS BinOp.add 3 (Operand.tmp 9) (Operand.const (Value.int IntKind.i64 1)) i4 (Value.int IntKind.i64 1)) w fun t10 w =>
  K1 (out3, t10) w
def m43_7 (R : VP) (K1 : (Value × Value) → World → Prop) (l0 out3 i4 : Value) (w : World) : Prop :=
  valP Try.prog (Instr.indexAt 66 l0 i4) w fun t14 w =>
  valP Try.prog (Instr.fieldAt 69 t14 0) w fun t15 w =>
  valP Try.prog (Instr.loadAt 3 t15) w fun t16 w =>
  valP Try.prog (Instr.buildSlice 28 1 #[(0, t16)]) w fun t17 w =>
  builtinP Try.prog Builtin.append #[28, 28] 28 #[false, false] #[out3, t17] w fun t18 w =>
  m43_8 R K1 l0 t18 i4 w
def m43_4 (R : VP) (t2 : Value) (w : World) : Prop :=
  R t2 w
def m43_3 (R : VP) (out3 : Value) (w : World) : Prop :=
  m43_4 R out3 w
def m43_9 (R : VP) (K1 : (Value × Value) → World → Prop) (l0 out3 i4 t8 : Value) (w : World) : Prop :=
  condP t8
  (m43_7 R K1 l0 out3 i4 w)
  (m43_3 R out3 w)
def m43_6 (R : VP) (K1 : (Value × Value) → World → Prop) (l0 out3 i4 : Value) (w : World) : Prop :=
  builtinP Try.prog Builtin.len #[66] 3 #[false] #[l0] w fun t7 w =>
  valP Try.prog (binS BinOp.lss 3 (Operand.tmp 5) (Operand.tmp 7) i4 t7) w fun t8 w =>
  m43_9 R K1 l0 out3 i4 t8 w
def m43_5 (R : VP) (l0 out3 i4 : Value) (w : World) : Prop :=
  loopP (fun (K1 : (Value × Value) → World → Prop) (s : Value × Value) w => m43_6 R K1 l0 s.1 s.2 w) (out3, i4) w
def m43_2 (R : VP) (l0 out3 : Value) (w : World) : Prop :=
  m43_5 R l0 out3 (Value.int IntKind.i64 0) w
def m43_1 (R : VP) (l0 : Value) (w : World) : Prop :=
  m43_2 R l0 (Value.slice none 0 0) w
def m43_0 (R : VP) (l0 : Value) (w : World) : Prop :=
  m43_1 R l0 w
abbrev W43 := cwp Try.prog (fun i => 0)
noncomputable def k43_0 : Code := (bodyOf Try.f43)
noncomputable def k43_1 : Code := (c2 k43_0)
noncomputable def k43_2 : Code := (c2 k43_1)
noncomputable def k43_3 : Code := (c2 k43_2)
noncomputable def k43_4 : Code := (c2 k43_3)
noncomputable def k43_5 : Code := (c2 (c1 k43_2))
noncomputable def k43_6 : Code := (c1 (c1 k43_5))
noncomputable def k43_7 : Code := (c2 k43_6)
noncomputable def k43_8 : Code := (c2 k43_7)
noncomputable def k43_9 : Code := (c2 (c1 k43_6))
theorem s43_8 {R : VP} {K1 : (Value × Value) → World → Prop} {Q : EQ} (hN : ∀ e w, (K1 ((e 3), (e 4)) w) → Q .normal e w) (e : Env) (w : World) (h : m43_8 R K1 (e 0) (e 3) (e 4) w) : W43 k43_8 Q e w := by
  unfold m43_8 at h
  exact rgA 4 (fun e w => K1 ((e 3), (e 4)) w) h hN
theorem s43_7 {R : VP} {K1 : (Value × Value) → World → Prop} {Q : EQ} (hN : ∀ e w, (K1 ((e 3), (e 4)) w) → Q .normal e w) (e : Env) (w : World) (h : m43_7 R K1 (e 0) (e 3) (e 4) w) : W43 k43_7 Q e w := by
  unfold m43_7 at h
  refine seA ?_
  have hN : ∀ e w, (m43_8 R K1 (e 0) (e 3) (e 4) w) → (thenE (W43 k43_8 Q) Q) .normal e w := fun e w h => then_N (s43_8 (R := R) (Q := Q) (K1 := K1) hN e w h)
  refine block_ok 1 (by kernel_rfl) ?_
  have hN : ∀ e w, (m43_8 R K1 (e 0) (e 3) (e 4) w) → (inBlockE 1 (thenE (W43 k43_8 Q) Q)) .normal e w := fun e w h => block_N (hN e w h)
  exact rgA 5 (fun e w => m43_8 R K1 (e 0) (e 3) (e 4) w) h hN
theorem s43_4 {R : VP} {Q : EQ} (hR : ∀ e w, (R (e 2) w) → Q .ret e w) (e : Env) (w : World) (h : m43_4 R (e 2) w) : W43 k43_4 Q e w := by
  unfold m43_4 at h
  exact reA (hR _ _ h)
theorem s43_3 {R : VP} {Q : EQ} (hR : ∀ e w, (R (e 2) w) → Q .ret e w) (e : Env) (w : World) (h : m43_3 R (e 3) w) : W43 k43_3 Q e w := by
  unfold m43_3 at h
  refine seA ?_
  have hN : ∀ e w, (m43_4 R (e 2) w) → (thenE (W43 k43_4 Q) Q) .normal e w := fun e w h => then_N (s43_4 (R := R) (Q := Q) hR e w h)
  exact rgA 6 (fun e w => m43_4 R (e 2) w) h hN
theorem s43_9 {R : VP} {K1 : (Value × Value) → World → Prop} {Q : EQ} (hN : ∀ e w, (m43_7 R K1 (e 0) (e 3) (e 4) w) → Q .normal e w) (hX0 : ∀ e w, (m43_3 R (e 3) w) → Q (.exit 0) e w) (e : Env) (w : World) (h : m43_9 R K1 (e 0) (e 3) (e 4) (e 8) w) : W43 k43_9 Q e w := by
  unfold m43_9 at h
  refine coA (Operand.tmp 8) h (fun h1 => ?_) (fun h1 => ?_)
  · exact skA (hN _ _ h1)
  · exact exA 0 (hX0 _ _ h1)
theorem s43_6 {R : VP} {K1 : (Value × Value) → World → Prop} {Q : EQ} (hN : ∀ e w, (K1 ((e 3), (e 4)) w) → Q .normal e w) (hX0 : ∀ e w, (m43_3 R (e 3) w) → Q (.exit 0) e w) (e : Env) (w : World) (h : m43_6 R K1 (e 0) (e 3) (e 4) w) : W43 k43_6 Q e w := by
  unfold m43_6 at h
  refine seA ?_
  have hN : ∀ e w, (m43_7 R K1 (e 0) (e 3) (e 4) w) → (thenE (W43 k43_7 Q) Q) .normal e w := fun e w h => then_N (s43_7 (R := R) (Q := Q) (K1 := K1) hN e w h)
  have hX0 : ∀ e w, (m43_3 R (e 3) w) → (thenE (W43 k43_7 Q) Q) (.exit 0) e w := fun e w h => then_X (hX0 e w h)
  refine seA ?_
  have hN : ∀ e w, (m43_9 R K1 (e 0) (e 3) (e 4) (e 8) w) → (thenE (W43 k43_9 (thenE (W43 k43_7 Q) Q)) (thenE (W43 k43_7 Q) Q)) .normal e w := fun e w h => then_N (s43_9 (R := R) (Q := (thenE (W43 k43_7 Q) Q)) (K1 := K1) hN hX0 e w h)
  exact rgA 3 (fun e w => m43_9 R K1 (e 0) (e 3) (e 4) (e 8) w) h hN
theorem s43_5 {R : VP} {Q : EQ} (hN : ∀ e w, (m43_3 R (e 3) w) → Q .normal e w) (e : Env) (w : World) (h : m43_5 R (e 0) (e 3) (e 4) w) : W43 k43_5 Q e w := by
  unfold m43_5 at h
  refine block_ok 0 (by kernel_rfl) ?_
  have hX0 : ∀ e w, (m43_3 R (e 3) w) → (inBlockE 0 Q) (.exit 0) e w := fun e w h => inBlock_same (Q := Q) 0 (hN e w h)
  refine loop_ok' (fun (e : Env) => (e 3, e 4)) [0] (by kernel_rfl) (by kernel_rfl) h (fun K e' w' hk h' => ?_)
  have r0 : e' 0 = e 0 := hk 0 (by decide)
  have hX0 : ∀ e w, (m43_3 R (e 3) w) → (thenE (fun (e : Env) w => K ((e 3), (e 4)) w) (inBlockE 0 Q)) (.exit 0) e w := fun e w h => then_X (hX0 e w h)
  exact s43_6 (R := R) (Q := (thenE (fun (e : Env) w => K ((e 3), (e 4)) w) (inBlockE 0 Q))) (K1 := K) (fun _ _ h => then_N h) hX0 e' w' (by rw [r0]; exact h')
theorem s43_2 {R : VP} {Q : EQ} (hR : ∀ e w, (R (e 2) w) → Q .ret e w) (e : Env) (w : World) (h : m43_2 R (e 0) (e 3) w) : W43 k43_2 Q e w := by
  unfold m43_2 at h
  refine seA ?_
  have hN : ∀ e w, (m43_3 R (e 3) w) → (thenE (W43 k43_3 Q) Q) .normal e w := fun e w h => then_N (s43_3 (R := R) (Q := Q) hR e w h)
  refine seA ?_
  have hN : ∀ e w, (m43_5 R (e 0) (e 3) (e 4) w) → (thenE (W43 k43_5 (thenE (W43 k43_3 Q) Q)) (thenE (W43 k43_3 Q) Q)) .normal e w := fun e w h => then_N (s43_5 (R := R) (Q := (thenE (W43 k43_3 Q) Q)) hN e w h)
  exact rgA 2 (fun e w => m43_5 R (e 0) (e 3) (e 4) w) h hN
theorem s43_1 {R : VP} {Q : EQ} (hR : ∀ e w, (R (e 2) w) → Q .ret e w) (e : Env) (w : World) (h : m43_1 R (e 0) w) : W43 k43_1 Q e w := by
  unfold m43_1 at h
  refine seA ?_
  have hN : ∀ e w, (m43_2 R (e 0) (e 3) w) → (thenE (W43 k43_2 Q) Q) .normal e w := fun e w h => then_N (s43_2 (R := R) (Q := Q) hR e w h)
  exact rgA 1 (fun e w => m43_2 R (e 0) (e 3) w) h hN
theorem s43_0 {R : VP} {Q : EQ} (hR : ∀ e w, (R (e 2) w) → Q .ret e w) (e : Env) (w : World) (h : m43_0 R (e 0) w) : W43 k43_0 Q e w := by
  unfold m43_0 at h
  refine seA ?_
  have hN : ∀ e w, (m43_1 R (e 0) w) → (thenE (W43 k43_1 Q) Q) .normal e w := fun e w h => then_N (s43_1 (R := R) (Q := Q) hR e w h)
  exact rgA 0 (fun e w => m43_1 R (e 0) w) h hN
abbrev m43 (R : VP) (l0 : Value) (w : World) : Prop := m43_0 R l0 w
theorem s43 (l0 : Value) {R : VP} {w : World} (h : m43 R l0 w) :
    Calls Try.prog 43 #[l0] w fun e w' => ∃ v, e = .returned v ∧ R v w' :=
  calls_of_cwp (st := (fun i => 0)) (c := k43_0) (by kernel_rfl) Try.func43 (by kernel_rfl) (Nat.le_of_ble_eq_true (by kernel_rfl)) (by kernel_rfl)
    (s43_0 (R := R) (Q := endE Try.prog Try.f43 R) (fun e w h => kcast (by kernel_rfl) h) (argsE #[l0]) w (kcast (by kernel_rfl) h))
/-! ### (*headgate/group.Group).Gen -/
def m44_5 (R : VP) (t2 : Value) (w : World) : Prop :=
  R t2 w
def m44_3 (R : VP) (t2 : Value) (w : World) : Prop :=
  R t2 w
def m44_2 (R : VP) (g0 : Value) (w : World) : Prop :=
  nilCheckP g0 fun t6 =>
  valP Try.prog (Instr.fieldAt 103 t6 2) w fun t7 w =>
  valP Try.prog (Instr.loadAt 3 t7) w fun t8 w =>
  m44_3 R t8 w
def m44_4 (R : VP) (g0 t4 : Value) (w : World) : Prop :=
  condP t4
  (m44_5 R (Value.int IntKind.i64 0) w)
  (m44_2 R g0 w)
def m44_1 (R : VP) (g0 : Value) (w : World) : Prop :=
  valP Try.prog (binS BinOp.eql 59 (Operand.tmp 3) (Operand.const (Value.pointer none)) g0 (Value.pointer none)) w fun t4 w =>
  m44_4 R g0 t4 w
def m44_0 (R : VP) (g0 : Value) (w : World) : Prop :=
  m44_1 R g0 w
abbrev W44 := cwp Try.prog (fun i => 0)
noncomputable def k44_0 : Code := (bodyOf Try.f44)
noncomputable def k44_1 : Code := (c2 k44_0)
noncomputable def k44_2 : Code := (c2 k44_1)
noncomputable def k44_3 : Code := (c2 k44_2)
noncomputable def k44_4 : Code := (c2 (c1 k44_1))
noncomputable def k44_5 : Code := (c2 (c1 k44_4))
theorem s44_5 {R : VP} {Q : EQ} (hR : ∀ e w, (R (e 2) w) → Q .ret e w) (e : Env) (w : World) (h : m44_5 R (e 2) w) : W44 k44_5 Q e w := by
  unfold m44_5 at h
  exact reA (hR _ _ h)
theorem s44_3 {R : VP} {Q : EQ} (hR : ∀ e w, (R (e 2) w) → Q .ret e w) (e : Env) (w : World) (h : m44_3 R (e 2) w) : W44 k44_3 Q e w := by
  unfold m44_3 at h
  exact reA (hR _ _ h)
theorem s44_2 {R : VP} {Q : EQ} (hR : ∀ e w, (R (e 2) w) → Q .ret e w) (e : Env) (w : World) (h : m44_2 R (e 0) w) : W44 k44_2 Q e w := by
  unfold m44_2 at h
  refine seA ?_
  have hN : ∀ e w, (m44_3 R (e 2) w) → (thenE (W44 k44_3 Q) Q) .normal e w := fun e w h => then_N (s44_3 (R := R) (Q := Q) hR e w h)
  exact rgA 3 (fun e w => m44_3 R (e 2) w) h hN
theorem s44_4 {R : VP} {Q : EQ} (hN : ∀ e w, (m44_2 R (e 0) w) → Q .normal e w) (hR : ∀ e w, (R (e 2) w) → Q .ret e w) (e : Env) (w : World) (h : m44_4 R (e 0) (e 4) w) : W44 k44_4 Q e w := by
  unfold m44_4 at h
  refine coA (Operand.tmp 4) h (fun h1 => ?_) (fun h1 => ?_)
  · refine seA ?_
    have hN : ∀ e w, (m44_5 R (e 2) w) → (thenE (W44 k44_5 Q) Q) .normal e w := fun e w h => then_N (s44_5 (R := R) (Q := Q) hR e w h)
    exact rgA 2 (fun e w => m44_5 R (e 2) w) h1 hN
  · exact skA (hN _ _ h1)
theorem s44_1 {R : VP} {Q : EQ} (hR : ∀ e w, (R (e 2) w) → Q .ret e w) (e : Env) (w : World) (h : m44_1 R (e 0) w) : W44 k44_1 Q e w := by
  unfold m44_1 at h
  refine seA ?_
  have hN : ∀ e w, (m44_2 R (e 0) w) → (thenE (W44 k44_2 Q) Q) .normal e w := fun e w h => then_N (s44_2 (R := R) (Q := Q) hR e w h)
  have hR : ∀ e w, (R (e 2) w) → (thenE (W44 k44_2 Q) Q) .ret e w := fun e w h => then_R (hR e w h)
  refine seA ?_
  have hN : ∀ e w, (m44_4 R (e 0) (e 4) w) → (thenE (W44 k44_4 (thenE (W44 k44_2 Q) Q)) (thenE (W44 k44_2 Q) Q)) .normal e w := fun e w h => then_N (s44_4 (R := R) (Q := (thenE (W44 k44_2 Q) Q)) hN hR e w h)
  exact rgA 1 (fun e w => m44_4 R (e 0) (e 4) w) h hN
theorem s44_0 {R : VP} {Q : EQ} (hR : ∀ e w, (R (e 2) w) → Q .ret e w) (e : Env) (w : World) (h : m44_0 R (e 0) w) : W44 k44_0 Q e w := by
  unfold m44_0 at h
  refine seA ?_
  have hN : ∀ e w, (m44_1 R (e 0) w) → (thenE (W44 k44_1 Q) Q) .normal e w := fun e w h => then_N (s44_1 (R := R) (Q := Q) hR e w h)
  exact rgA 0 (fun e w => m44_1 R (e 0) w) h hN
abbrev m44 (R : VP) (g0 : Value) (w : World) : Prop := m44_0 R g0 w
theorem s44 (g0 : Value) {R : VP} {w : World} (h : m44 R g0 w) :
    Calls Try.prog 44 #[g0] w fun e w' => ∃ v, e = .returned v ∧ R v w' :=
  calls_of_cwp (st := (fun i => 0)) (c := k44_0) (by kernel_rfl) Try.func44 (by kernel_rfl) (Nat.le_of_ble_eq_true (by kernel_rfl)) (by kernel_rfl)
    (s44_0 (R := R) (Q := endE Try.prog Try.f44 R) (fun e w h => kcast (by kernel_rfl) h) (argsE #[g0]) w (kcast (by kernel_rfl) h))
/-! ### (*headgate/group.Group).Next -/
def m45_5 (R : VP) (t2 : Value) (w : World) : Prop :=
  R t2 w
def m45_3 (R : VP) (t2 : Value) (w : World) : Prop :=
  R t2 w
def m45_2 (R : VP) (g0 : Value) (w : World) : Prop :=
  nilCheckP g0 fun t6 =>
  valP Try.prog (Instr.fieldAt 103 t6 3) w fun t7 w =>
  valP Try.prog (Instr.loadAt 3 t7) w fun t8 w =>
  m45_3 R t8 w
def m45_4 (R : VP) (g0 t4 : Value) (w : World) : Prop :=
  condP t4
  (m45_5 R (Value.int IntKind.i64 0) w)
  (m45_2 R g0 w)
def m45_1 (R : VP) (g0 : Value) (w : World) : Prop :=
  valP Try.prog (binS BinOp.eql 59 (Operand.tmp 3) (Operand.const (Value.pointer none)) g0 (Value.pointer none)) w fun t4 w =>
  m45_4 R g0 t4 w
def m45_0 (R : VP) (g0 : Value) (w : World) : Prop :=
  m45_1 R g0 w
abbrev W45 := cwp Try.prog (fun i => 0)
noncomputable def k45_0 : Code := (bodyOf Try.f45)
noncomputable def k45_1 : Code := (c2 k45_0)
noncomputable def k45_2 : Code := (c2 k45_1)
noncomputable def k45_3 : Code := (c2 k45_2)
noncomputable def k45_4 : Code := (c2 (c1 k45_1))
noncomputable def k45_5 : Code := (c2 (c1 k45_4))
theorem s45_5 {R : VP} {Q : EQ} (hR : ∀ e w, (R (e 2) w) → Q .ret e w) (e : Env) (w : World) (h : m45_5 R (e 2) w) : W45 k45_5 Q e w := by
  unfold m45_5 at h
  exact reA (hR _ _ h)
theorem s45_3 {R : VP} {Q : EQ} (hR : ∀ e w, (R (e 2) w) → Q .ret e w) (e : Env) (w : World) (h : m45_3 R (e 2) w) : W45 k45_3 Q e w := by
  unfold m45_3 at h
  exact reA (hR _ _ h)
theorem s45_2 {R : VP} {Q : EQ} (hR : ∀ e w, (R (e 2) w) → Q .ret e w) (e : Env) (w : World) (h : m45_2 R (e 0) w) : W45 k45_2 Q e w := by
  unfold m45_2 at h
  refine seA ?_
  have hN : ∀ e w, (m45_3 R (e 2) w) → (thenE (W45 k45_3 Q) Q) .normal e w := fun e w h => then_N (s45_3 (R := R) (Q := Q) hR e w h)
  exact rgA 3 (fun e w => m45_3 R (e 2) w) h hN
theorem s45_4 {R : VP} {Q : EQ} (hN : ∀ e w, (m45_2 R (e 0) w) → Q .normal e w) (hR : ∀ e w, (R (e 2) w) → Q .ret e w) (e : Env) (w : World) (h : m45_4 R (e 0) (e 4) w) : W45 k45_4 Q e w := by
  unfold m45_4 at h
  refine coA (Operand.tmp 4) h (fun h1 => ?_) (fun h1 => ?_)
  · refine seA ?_
    have hN : ∀ e w, (m45_5 R (e 2) w) → (thenE (W45 k45_5 Q) Q) .normal e w := fun e w h => then_N (s45_5 (R := R) (Q := Q) hR e w h)
    exact rgA 2 (fun e w => m45_5 R (e 2) w) h1 hN
  · exact skA (hN _ _ h1)
theorem s45_1 {R : VP} {Q : EQ} (hR : ∀ e w, (R (e 2) w) → Q .ret e w) (e : Env) (w : World) (h : m45_1 R (e 0) w) : W45 k45_1 Q e w := by
  unfold m45_1 at h
  refine seA ?_
  have hN : ∀ e w, (m45_2 R (e 0) w) → (thenE (W45 k45_2 Q) Q) .normal e w := fun e w h => then_N (s45_2 (R := R) (Q := Q) hR e w h)
  have hR : ∀ e w, (R (e 2) w) → (thenE (W45 k45_2 Q) Q) .ret e w := fun e w h => then_R (hR e w h)
  refine seA ?_
  have hN : ∀ e w, (m45_4 R (e 0) (e 4) w) → (thenE (W45 k45_4 (thenE (W45 k45_2 Q) Q)) (thenE (W45 k45_2 Q) Q)) .normal e w := fun e w h => then_N (s45_4 (R := R) (Q := (thenE (W45 k45_2 Q) Q)) hN hR e w h)
  exact rgA 1 (fun e w => m45_4 R (e 0) (e 4) w) h hN
theorem s45_0 {R : VP} {Q : EQ} (hR : ∀ e w, (R (e 2) w) → Q .ret e w) (e : Env) (w : World) (h : m45_0 R (e 0) w) : W45 k45_0 Q e w := by
  unfold m45_0 at h
  refine seA ?_
  have hN : ∀ e w, (m45_1 R (e 0) w) → (thenE (W45 k45_1 Q) Q) .normal e w := fun e w h => then_N (s45_1 (R := R) (Q := Q) hR e w h)
  exact rgA 0 (fun e w => m45_1 R (e 0) w) h hN
abbrev m45 (R : VP) (g0 : Value) (w : World) : Prop := m45_0 R g0 w
theorem s45 (g0 : Value) {R : VP} {w : World} (h : m45 R g0 w) :
    Calls Try.prog 45 #[g0] w fun e w' => ∃ v, e = .returned v ∧ R v w' :=
  calls_of_cwp (st := (fun i => 0)) (c := k45_0) (by kernel_rfl) Try.func45 (by kernel_rfl) (Nat.le_of_ble_eq_true (by kernel_rfl)) (by kernel_rfl)
    (s45_0 (R := R) (Q := endE Try.prog Try.f45 R) (fun e w h => kcast (by kernel_rfl) h) (argsE #[g0]) w (kcast (by kernel_rfl) h))
/-! ### (*headgate/group.Group).Owners -/
def m46_5 (R : VP) (t2 : Value) (w : World) : Prop :=
  R t2 w
def m46_3 (R : VP) (t2 : Value) (w : World) : Prop :=
  R t2 w
def m46_2 (R : VP) (g0 : Value) (w : World) : Prop :=
  nilCheckP g0 fun t6 =>
  valP Try.prog (Instr.fieldAt 103 t6 6) w fun t7 w =>
  valP Try.prog (Instr.loadAt 28 t7) w fun t8 w =>
  callP Try.prog (fnV 55) #[t8] w fun t9 w =>
  m46_3 R t9 w
def m46_4 (R : VP) (g0 t4 : Value) (w : World) : Prop :=
  condP t4
  (m46_5 R (Value.slice none 0 0) w)
  (m46_2 R g0 w)
def m46_1 (R : VP) (g0 : Value) (w : World) : Prop :=
  valP Try.prog (binS BinOp.eql 59 (Operand.tmp 3) (Operand.const (Value.pointer none)) g0 (Value.pointer none)) w fun t4 w =>
  m46_4 R g0 t4 w
def m46_0 (R : VP) (g0 : Value) (w : World) : Prop :=
  m46_1 R g0 w
abbrev W46 := cwp Try.prog (fun i => 0)
noncomputable def k46_0 : Code := (bodyOf Try.f46)
noncomputable def k46_1 : Code := (c2 k46_0)
noncomputable def k46_2 : Code := (c2 k46_1)
noncomputable def k46_3 : Code := (c2 k46_2)
noncomputable def k46_4 : Code := (c2 (c1 k46_1))
noncomputable def k46_5 : Code := (c2 (c1 k46_4))
theorem s46_5 {R : VP} {Q : EQ} (hR : ∀ e w, (R (e 2) w) → Q .ret e w) (e : Env) (w : World) (h : m46_5 R (e 2) w) : W46 k46_5 Q e w := by
  unfold m46_5 at h
  exact reA (hR _ _ h)
theorem s46_3 {R : VP} {Q : EQ} (hR : ∀ e w, (R (e 2) w) → Q .ret e w) (e : Env) (w : World) (h : m46_3 R (e 2) w) : W46 k46_3 Q e w := by
  unfold m46_3 at h
  exact reA (hR _ _ h)
theorem s46_2 {R : VP} {Q : EQ} (hR : ∀ e w, (R (e 2) w) → Q .ret e w) (e : Env) (w : World) (h : m46_2 R (e 0) w) : W46 k46_2 Q e w := by
  unfold m46_2 at h
  refine seA ?_
  have hN : ∀ e w, (m46_3 R (e 2) w) → (thenE (W46 k46_3 Q) Q) .normal e w := fun e w h => then_N (s46_3 (R := R) (Q := Q) hR e w h)
  exact rgA 3 (fun e w => m46_3 R (e 2) w) h hN
theorem s46_4 {R : VP} {Q : EQ} (hN : ∀ e w, (m46_2 R (e 0) w) → Q .normal e w) (hR : ∀ e w, (R (e 2) w) → Q .ret e w) (e : Env) (w : World) (h : m46_4 R (e 0) (e 4) w) : W46 k46_4 Q e w := by
  unfold m46_4 at h
  refine coA (Operand.tmp 4) h (fun h1 => ?_) (fun h1 => ?_)
  · refine seA ?_
    have hN : ∀ e w, (m46_5 R (e 2) w) → (thenE (W46 k46_5 Q) Q) .normal e w := fun e w h => then_N (s46_5 (R := R) (Q := Q) hR e w h)
    exact rgA 2 (fun e w => m46_5 R (e 2) w) h1 hN
  · exact skA (hN _ _ h1)
theorem s46_1 {R : VP} {Q : EQ} (hR : ∀ e w, (R (e 2) w) → Q .ret e w) (e : Env) (w : World) (h : m46_1 R (e 0) w) : W46 k46_1 Q e w := by
  unfold m46_1 at h
  refine seA ?_
  have hN : ∀ e w, (m46_2 R (e 0) w) → (thenE (W46 k46_2 Q) Q) .normal e w := fun e w h => then_N (s46_2 (R := R) (Q := Q) hR e w h)
  have hR : ∀ e w, (R (e 2) w) → (thenE (W46 k46_2 Q) Q) .ret e w := fun e w h => then_R (hR e w h)
  refine seA ?_
  have hN : ∀ e w, (m46_4 R (e 0) (e 4) w) → (thenE (W46 k46_4 (thenE (W46 k46_2 Q) Q)) (thenE (W46 k46_2 Q) Q)) .normal e w := fun e w h => then_N (s46_4 (R := R) (Q := (thenE (W46 k46_2 Q) Q)) hN hR e w h)
  exact rgA 1 (fun e w => m46_4 R (e 0) (e 4) w) h hN
theorem s46_0 {R : VP} {Q : EQ} (hR : ∀ e w, (R (e 2) w) → Q .ret e w) (e : Env) (w : World) (h : m46_0 R (e 0) w) : W46 k46_0 Q e w := by
  unfold m46_0 at h
  refine seA ?_
  have hN : ∀ e w, (m46_1 R (e 0) w) → (thenE (W46 k46_1 Q) Q) .normal e w := fun e w h => then_N (s46_1 (R := R) (Q := Q) hR e w h)
  exact rgA 0 (fun e w => m46_1 R (e 0) w) h hN
abbrev m46 (R : VP) (g0 : Value) (w : World) : Prop := m46_0 R g0 w
theorem s46 (g0 : Value) {R : VP} {w : World} (h : m46 R g0 w) :
    Calls Try.prog 46 #[g0] w fun e w' => ∃ v, e = .returned v ∧ R v w' :=
  calls_of_cwp (st := (fun i => 0)) (c := k46_0) (by kernel_rfl) Try.func46 (by kernel_rfl) (Nat.le_of_ble_eq_true (by kernel_rfl)) (by kernel_rfl)
    (s46_0 (R := R) (Q := endE Try.prog Try.f46 R) (fun e w h => kcast (by kernel_rfl) h) (argsE #[g0]) w (kcast (by kernel_rfl) h))
/-! ### (*headgate/group.Group).May -/
def m47_5 (R : VP) (t8 : Value) (w : World) : Prop :=
  R t8 w
def m47_7 (R : VP) (t8 : Value) (w : World) : Prop :=
  R t8 w
def m47_9 (R : VP) (t8 : Value) (w : World) : Prop :=
  R t8 w
def m47_3 (R : VP) (t8 : Value) (w : World) : Prop :=
  R t8 w
def m47_2 (R : VP) (w : World) : Prop :=
  m47_3 R (Value.int IntKind.i64 0) w
def m47_8 (R : VP) (t21 : Value) (w : World) : Prop :=
  condP t21
  (m47_9 R (Value.int IntKind.i64 13) w)
  (m47_2 R w)
def m47_6 (R : VP) (g0 id1 part3 t14 : Value) (w : World) : Prop :=
  condP t14
  (m47_7 R (Value.int IntKind.i64 12) w)
  (valP Try.prog (binS BinOp.lss 3 (Operand.tmp 22) (Operand.const (Value.int IntKind.i64 0)) part3 (Value.int IntKind.i64 0)) w fun t23 w =>
  condP t23
  (pickP t23 (Value.bool true) undef fun t31 =>
  condP t31
  (pickP t31 (Value.bool true) undef fun t42 =>
  m47_8 R t42 w)
  (nilCheckP g0 fun t34 =>
  valP Try.prog (Instr.fieldAt 103 t34 6) w fun t35 w =>
  valP Try.prog (Instr.loadAt 28 t35) w fun t36 w =>
  valP Try.prog (Instr.indexAt 28 t36 part3) w fun t38 w =>
  valP Try.prog (Instr.loadAt 3 t38) w fun t39 w =>
  valP Try.prog (binS BinOp.neq 3 (Operand.tmp 39) (Operand.tmp 40) t39 id1) w fun t41 w =>
  pickP t31 (Value.bool true) t41 fun t42 =>
  m47_8 R t42 w))
  (nilCheckP g0 fun t27 =>
  valP Try.prog (Instr.fieldAt 103 t27 0) w fun t28 w =>
  valP Try.prog (Instr.loadAt 3 t28) w fun t29 w =>
  valP Try.prog (binS BinOp.geq 3 (Operand.tmp 25) (Operand.tmp 29) part3 t29) w fun t30 w =>
  pickP t23 (Value.bool true) t30 fun t31 =>
  condP t31
  (pickP t31 (Value.bool true) undef fun t42 =>
  m47_8 R t42 w)
  (nilCheckP g0 fun t34 =>
  valP Try.prog (Instr.fieldAt 103 t34 6) w fun t35 w =>
  valP Try.prog (Instr.loadAt 28 t35) w fun t36 w =>
  valP Try.prog (Instr.indexAt 28 t36 part3) w fun t38 w =>
  valP Try.prog (Instr.loadAt 3 t38) w fun t39 w =>
  valP Try.prog (binS BinOp.neq 3 (Operand.tmp 39) (Operand.tmp 40) t39 id1) w fun t41 w =>
  pickP t31 (Value.bool true) t41 fun t42 =>
  m47_8 R t42 w)))
def m47_4 (R : VP) (g0 id1 gen2 part3 t9 : Value) (w : World) : Prop :=
  condP t9
  (m47_5 R (Value.int IntKind.i64 11) w)
  (nilCheckP g0 fun t17 =>
  valP Try.prog (Instr.fieldAt 103 t17 2) w fun t18 w =>
  valP Try.prog (Instr.loadAt 3 t18) w fun t19 w =>
  valP Try.prog (binS BinOp.neq 3 (Operand.tmp 15) (Operand.tmp 19) gen2 t19) w fun t20 w =>
  m47_6 R g0 id1 part3 t20 w)
def m47_1 (R : VP) (g0 id1 gen2 part3 : Value) (w : World) : Prop :=
  callP Try.prog (fnV 70) #[g0, id1] w fun t12 w =>
  valP Try.prog (binS BinOp.eql 105 (Operand.tmp 12) (Operand.const (Value.pointer none)) t12 (Value.pointer none)) w fun t13 w =>
  m47_4 R g0 id1 gen2 part3 t13 w
def m47_0 (R : VP) (g0 id1 gen2 part3 : Value) (w : World) : Prop :=
  m47_1 R g0 id1 gen2 part3 w
abbrev W47 := cwp Try.prog (fun i => 0)
noncomputable def k47_0 : Code := (bodyOf Try.f47)
noncomputable def k47_1 : Code := (c2 k47_0)
noncomputable def k47_2 : Code := (c2 k47_1)
noncomputable def k47_3 : Code := (c2 k47_2)
noncomputable def k47_4 : Code := (c2 (c1 (c1 k47_1)))
noncomputable def k47_5 : Code := (c2 (c1 k47_4))
noncomputable def k47_6 : Code := (c2 (c2 k47_4))
noncomputable def k47_7 : Code := (c2 (c1 k47_6))
noncomputable def k47_8 : Code := (c2 (c2 k47_6))
noncomputable def k47_9 : Code := (c2 (c1 k47_8))
theorem s47_5 {R : VP} {Q : EQ} (hR : ∀ e w, (R (e 8) w) → Q .ret e w) (e : Env) (w : World) (h : m47_5 R (e 8) w) : W47 k47_5 Q e w := by
  unfold m47_5 at h
  exact reA (hR _ _ h)
theorem s47_7 {R : VP} {Q : EQ} (hR : ∀ e w, (R (e 8) w) → Q .ret e w) (e : Env) (w : World) (h : m47_7 R (e 8) w) : W47 k47_7 Q e w := by
  unfold m47_7 at h
  exact reA (hR _ _ h)
theorem s47_9 {R : VP} {Q : EQ} (hR : ∀ e w, (R (e 8) w) → Q .ret e w) (e : Env) (w : World) (h : m47_9 R (e 8) w) : W47 k47_9 Q e w := by
  unfold m47_9 at h
  exact reA (hR _ _ h)
theorem s47_3 {R : VP} {Q : EQ} (hR : ∀ e w, (R (e 8) w) → Q .ret e w) (e : Env) (w : World) (h : m47_3 R (e 8) w) : W47 k47_3 Q e w := by
  unfold m47_3 at h
  exact reA (hR _ _ h)
theorem s47_2 {R : VP} {Q : EQ} (hR : ∀ e w, (R (e 8) w) → Q .ret e w) (e : Env) (w : World) (h : m47_2 R w) : W47 k47_2 Q e w := by
  unfold m47_2 at h
  refine seA ?_
  have hN : ∀ e w, (m47_3 R (e 8) w) → (thenE (W47 k47_3 Q) Q) .normal e w := fun e w h => then_N (s47_3 (R := R) (Q := Q) hR e w h)
  exact rgA 7 (fun e w => m47_3 R (e 8) w) h hN
theorem s47_8 {R : VP} {Q : EQ} (hN : ∀ e w, (m47_2 R w) → Q .normal e w) (hR : ∀ e w, (R (e 8) w) → Q .ret e w) (e : Env) (w : World) (h : m47_8 R (e 21) w) : W47 k47_8 Q e w := by
  unfold m47_8 at h
  refine coA (Operand.tmp 21) h (fun h1 => ?_) (fun h1 => ?_)
  · refine seA ?_
    have hN : ∀ e w, (m47_9 R (e 8) w) → (thenE (W47 k47_9 Q) Q) .normal e w := fun e w h => then_N (s47_9 (R := R) (Q := Q) hR e w h)
    exact rgA 6 (fun e w => m47_9 R (e 8) w) h1 hN
  · exact skA (hN _ _ h1)
theorem s47_6 {R : VP} {Q : EQ} (hN : ∀ e w, (m47_2 R w) → Q .normal e w) (hR : ∀ e w, (R (e 8) w) → Q .ret e w) (e : Env) (w : World) (h : m47_6 R (e 0) (e 1) (e 3) (e 14) w) : W47 k47_6 Q e w := by
  unfold m47_6 at h
  refine coA (Operand.tmp 14) h (fun h1 => ?_) (fun h1 => ?_)
  · refine seA ?_
    have hN : ∀ e w, (m47_7 R (e 8) w) → (thenE (W47 k47_7 Q) Q) .normal e w := fun e w h => then_N (s47_7 (R := R) (Q := Q) hR e w h)
    exact rgA 4 (fun e w => m47_7 R (e 8) w) h1 hN
  · refine seA ?_
    have hN : ∀ e w, (m47_8 R (e 21) w) → (thenE (W47 k47_8 Q) Q) .normal e w := fun e w h => then_N (s47_8 (R := R) (Q := Q) hN hR e w h)
    exact rgA 5 (fun e w => m47_8 R (e 21) w) h1 hN
theorem s47_4 {R : VP} {Q : EQ} (hN : ∀ e w, (m47_2 R w) → Q .normal e w) (hR : ∀ e w, (R (e 8) w) → Q .ret e w) (e : Env) (w : World) (h : m47_4 R (e 0) (e 1) (e 2) (e 3) (e 9) w) : W47 k47_4 Q e w := by
  unfold m47_4 at h
  refine coA (Operand.tmp 9) h (fun h1 => ?_) (fun h1 => ?_)
  · refine seA ?_
    have hN : ∀ e w, (m47_5 R (e 8) w) → (thenE (W47 k47_5 Q) Q) .normal e w := fun e w h => then_N (s47_5 (R := R) (Q := Q) hR e w h)
    exact rgA 2 (fun e w => m47_5 R (e 8) w) h1 hN
  · refine seA ?_
    have hN : ∀ e w, (m47_6 R (e 0) (e 1) (e 3) (e 14) w) → (thenE (W47 k47_6 Q) Q) .normal e w := fun e w h => then_N (s47_6 (R := R) (Q := Q) hN hR e w h)
    exact rgA 3 (fun e w => m47_6 R (e 0) (e 1) (e 3) (e 14) w) h1 hN
theorem s47_1 {R : VP} {Q : EQ} (hR : ∀ e w, (R (e 8) w) → Q .ret e w) (e : Env) (w : World) (h : m47_1 R (e 0) (e 1) (e 2) (e 3) w) : W47 k47_1 Q e w := by
  unfold m47_1 at h
  refine seA ?_
  have hN : ∀ e w, (m47_2 R w) → (thenE (W47 k47_2 Q) Q) .normal e w := fun e w h => then_N (s47_2 (R := R) (Q := Q) hR e w h)
  have hR : ∀ e w, (R (e 8) w) → (thenE (W47 k47_2 Q) Q) .ret e w := fun e w h => then_R (hR e w h)
  refine block_ok 0 (by kernel_rfl) ?_
  have hN : ∀ e w, (m47_2 R w) → (inBlockE 0 (thenE (W47 k47_2 Q) Q)) .normal e w := fun e w h => block_N (hN e w h)
  have hR : ∀ e w, (R (e 8) w) → (inBlockE 0 (thenE (W47 k47_2 Q) Q)) .ret e w := fun e w h => block_R (hR e w h)
  refine seA ?_
  have hN : ∀ e w, (m47_4 R (e 0) (e 1) (e 2) (e 3) (e 9) w) → (thenE (W47 k47_4 (inBlockE 0 (thenE (W47 k47_2 Q) Q))) (inBlockE 0 (thenE (W47 k47_2 Q) Q))) .normal e w := fun e w h => then_N (s47_4 (R := R) (Q := (inBlockE 0 (thenE (W47 k47_2 Q) Q))) hN hR e w h)
  exact rgA 1 (fun e w => m47_4 R (e 0) (e 1) (e 2) (e 3) (e 9) w) h hN
theorem s47_0 {R : VP} {Q : EQ} (hR : ∀ e w, (R (e 8) w) → Q .ret e w) (e : Env) (w : World) (h : m47_0 R (e 0) (e 1) (e 2) (e 3) w) : W47 k47_0 Q e w := by
  unfold m47_0 at h
  refine seA ?_
  have hN : ∀ e w, (m47_1 R (e 0) (e 1) (e 2) (e 3) w) → (thenE (W47 k47_1 Q) Q) .normal e w := fun e w h => then_N (s47_1 (R := R) (Q := Q) hR e w h)
  exact rgA 0 (fun e w => m47_1 R (e 0) (e 1) (e 2) (e 3) w) h hN
abbrev m47 (R : VP) (g0 id1 gen2 part3 : Value) (w : World) : Prop := m47_0 R g0 id1 gen2 part3 w
theorem s47 (g0 id1 gen2 part3 : Value) {R : VP} {w : World} (h : m47 R g0 id1 gen2 part3 w) :
    Calls Try.prog 47 #[g0, id1, gen2, part3] w fun e w' => ∃ v, e = .returned v ∧ R v w' :=
  calls_of_cwp (st := (fun i => 0)) (c := k47_0) (by kernel_rfl) Try.func47 (by kernel_rfl) (Nat.le_of_ble_eq_true (by kernel_rfl)) (by kernel_rfl)
    (s47_0 (R := R) (Q := endE Try.prog Try.f47 R) (fun e w h => kcast (by kernel_rfl) h) (argsE #[g0, id1, gen2, part3]) w (kcast (by kernel_rfl) h))
/-! ### (*headgate/group.Group).Beat -/
def m48_7 (R : VP) (t6 : Value) (w : World) : Prop :=
  R t6 w
def m48_9 (R : VP) (t6 : Value) (w : World) : Prop :=
  R t6 w
def m48_5 (R : VP) (t6 : Value) (w : World) : Prop :=
  R t6 w
def m48_4 (R : VP) (w : World) : Prop :=
  m48_5 R (Value.int IntKind.i64 0) w
def m48_3 (R : VP) (g0 m7 : Value) (w : World) : Prop :=
  nilCheckP g0 fun t23 =>
  valP Try.prog (Instr.fieldAt 103 t23 4) w fun t24 w =>
  valP Try.prog (Instr.loadAt 3 t24) w fun t25 w =>
  valP Try.prog (binS BinOp.add 3 (Operand.tmp 25) (Operand.const (Value.int IntKind.i64 12)) t25 (Value.int IntKind.i64 12)) w fun t26 w =>
  nilCheckP m7 fun t27 =>
  valP Try.prog (Instr.fieldAt 69 t27 2) w fun t28 w =>
  unitP Try.prog (Instr.storeAt 3 t28 t26) w fun _ w =>
  m48_4 R w
def m48_8 (R : VP) (g0 m7 t14 : Value) (w : World) : Prop :=
  condP t14
  (m48_9 R (Value.int IntKind.i64 12) w)
  (m48_3 R g0 m7 w)
def m48_6 (R : VP) (g0 gen2 m7 t11 : Value) (w : World) : Prop :=
  condP t11
  (m48_7 R (Value.int IntKind.i64 11) w)
  (nilCheckP g0 fun t17 =>
  valP Try.prog (Instr.fieldAt 103 t17 2) w fun t18 w =>
  valP Try.prog (Instr.loadAt 3 t18) w fun t19 w =>
  valP Try.prog (binS BinOp.neq 3 (Operand.tmp 15) (Operand.tmp 19) gen2 t19) w fun t20 w =>
  m48_8 R g0 m7 t20 w)
def m48_2 (R : VP) (g0 gen2 m7 : Value) (w : World) : Prop :=
  valP Try.prog (binS BinOp.eql 105 (Operand.tmp 12) (Operand.const (Value.pointer none)) m7 (Value.pointer none)) w fun t13 w =>
  m48_6 R g0 gen2 m7 t13 w
def m48_1 (R : VP) (g0 id1 gen2 : Value) (w : World) : Prop :=
  callP Try.prog (fnV 70) #[g0, id1] w fun t10 w =>
  m48_2 R g0 gen2 t10 w
def m48_0 (R : VP) (g0 id1 gen2 : Value) (w : World) : Prop :=
  m48_1 R g0 id1 gen2 w
abbrev W48 := cwp Try.prog (fun i => 0)
noncomputable def k48_0 : Code := (bodyOf Try.f48)
noncomputable def k48_1 : Code := (c2 k48_0)
noncomputable def k48_2 : Code := (c2 k48_1)
noncomputable def k48_3 : Code := (c2 k48_2)
noncomputable def k48_4 : Code := (c2 k48_3)
noncomputable def k48_5 : Code := (c2 k48_4)
noncomputable def k48_6 : Code := (c2 (c1 (c1 k48_2)))
noncomputable def k48_7 : Code := (c2 (c1 k48_6))
noncomputable def k48_8 : Code := (c2 (c2 k48_6))
noncomputable def k48_9 : Code := (c2 (c1 k48_8))
theorem s48_7 {R : VP} {Q : EQ} (hR : ∀ e w, (R (e 6) w) → Q .ret e w) (e : Env) (w : World) (h : m48_7 R (e 6) w) : W48 k48_7 Q e w := by
  unfold m48_7 at h
  exact reA (hR _ _ h)
theorem s48_9 {R : VP} {Q : EQ} (hR : ∀ e w, (R (e 6) w) → Q .ret e w) (e : Env) (w : World) (h : m48_9 R (e 6) w) : W48 k48_9 Q e w := by
  unfold m48_9 at h
  exact reA (hR _ _ h)
theorem s48_5 {R : VP} {Q : EQ} (hR : ∀ e w, (R (e 6) w) → Q .ret e w) (e : Env) (w : World) (h : m48_5 R (e 6) w) : W48 k48_5 Q e w := by
  unfold m48_5 at h
  exact reA (hR _ _ h)
theorem s48_4 {R : VP} {Q : EQ} (hR : ∀ e w, (R (e 6) w) → Q .ret e w) (e : Env) (w : World) (h : m48_4 R w) : W48 k48_4 Q e w := by
  unfold m48_4 at h
  refine seA ?_
  have hN : ∀ e w, (m48_5 R (e 6) w) → (thenE (W48 k48_5 Q) Q) .normal e w := fun e w h => then_N (s48_5 (R := R) (Q := Q) hR e w h)
  exact rgA 7 (fun e w => m48_5 R (e 6) w) h hN
theorem s48_3 {R : VP} {Q : EQ} (hR : ∀ e w, (R (e 6) w) → Q .ret e w) (e : Env) (w : World) (h : m48_3 R (e 0) (e 7) w) : W48 k48_3 Q e w := by
  unfold m48_3 at h
  refine seA ?_
  have hN : ∀ e w, (m48_4 R w) → (thenE (W48 k48_4 Q) Q) .normal e w := fun e w h => then_N (s48_4 (R := R) (Q := Q) hR e w h)
  exact rgA 6 (fun e w => m48_4 R w) h hN
theorem s48_8 {R : VP} {Q : EQ} (hN : ∀ e w, (m48_3 R (e 0) (e 7) w) → Q .normal e w) (hR : ∀ e w, (R (e 6) w) → Q .ret e w) (e : Env) (w : World) (h : m48_8 R (e 0) (e 7) (e 14) w) : W48 k48_8 Q e w := by
  unfold m48_8 at h
  refine coA (Operand.tmp 14) h (fun h1 => ?_) (fun h1 => ?_)
  · refine seA ?_
    have hN : ∀ e w, (m48_9 R (e 6) w) → (thenE (W48 k48_9 Q) Q) .normal e w := fun e w h => then_N (s48_9 (R := R) (Q := Q) hR e w h)
    exact rgA 5 (fun e w => m48_9 R (e 6) w) h1 hN
  · exact skA (hN _ _ h1)
theorem s48_6 {R : VP} {Q : EQ} (hN : ∀ e w, (m48_3 R (e 0) (e 7) w) → Q .normal e w) (hR : ∀ e w, (R (e 6) w) → Q .ret e w) (e : Env) (w : World) (h : m48_6 R (e 0) (e 2) (e 7) (e 11) w) : W48 k48_6 Q e w := by
  unfold m48_6 at h
  refine coA (Operand.tmp 11) h (fun h1 => ?_) (fun h1 => ?_)
  · refine seA ?_
    have hN : ∀ e w, (m48_7 R (e 6) w) → (thenE (W48 k48_7 Q) Q) .normal e w := fun e w h => then_N (s48_7 (R := R) (Q := Q) hR e w h)
    exact rgA 3 (fun e w => m48_7 R (e 6) w) h1 hN
  · refine seA ?_
    have hN : ∀ e w, (m48_8 R (e 0) (e 7) (e 14) w) → (thenE (W48 k48_8 Q) Q) .normal e w := fun e w h => then_N (s48_8 (R := R) (Q := Q) hN hR e w h)
    exact rgA 4 (fun e w => m48_8 R (e 0) (e 7) (e 14) w) h1 hN
theorem s48_2 {R : VP} {Q : EQ} (hR : ∀ e w, (R (e 6) w) → Q .ret e w) (e : Env) (w : World) (h : m48_2 R (e 0) (e 2) (e 7) w) : W48 k48_2 Q e w := by
  unfold m48_2 at h
  refine seA ?_
  have hN : ∀ e w, (m48_3 R (e 0) (e 7) w) → (thenE (W48 k48_3 Q) Q) .normal e w := fun e w h => then_N (s48_3 (R := R) (Q := Q) hR e w h)
  have hR : ∀ e w, (R (e 6) w) → (thenE (W48 k48_3 Q) Q) .ret e w := fun e w h => then_R (hR e w h)
  refine block_ok 0 (by kernel_rfl) ?_
  have hN : ∀ e w, (m48_3 R (e 0) (e 7) w) → (inBlockE 0 (thenE (W48 k48_3 Q) Q)) .normal e w := fun e w h => block_N (hN e w h)
  have hR : ∀ e w, (R (e 6) w) → (inBlockE 0 (thenE (W48 k48_3 Q) Q)) .ret e w := fun e w h => block_R (hR e w h)
  refine seA ?_
  have hN : ∀ e w, (m48_6 R (e 0) (e 2) (e 7) (e 11) w) → (thenE (W48 k48_6 (inBlockE 0 (thenE (W48 k48_3 Q) Q))) (inBlockE 0 (thenE (W48 k48_3 Q) Q))) .normal e w := fun e w h => then_N (s48_6 (R := R) (Q := (inBlockE 0 (thenE (W48 k48_3 Q) Q))) hN hR e w h)
  exact rgA 2 (fun e w => m48_6 R (e 0) (e 2) (e 7) (e 11) w) h hN
theorem s48_1 {R : VP} {Q : EQ} (hR : ∀ e w, (R (e 6) w) → Q .ret e w) (e : Env) (w : World) (h : m48_1 R (e 0) (e 1) (e 2) w) : W48 k48_1 Q e w := by
  unfold m48_1 at h
  refine seA ?_
  have hN : ∀ e w, (m48_2 R (e 0) (e 2) (e 7) w) → (thenE (W48 k48_2 Q) Q) .normal e w := fun e w h => then_N (s48_2 (R := R) (Q := Q) hR e w h)
  exact rgA 1 (fun e w => m48_2 R (e 0) (e 2) (e 7) w) h hN
theorem s48_0 {R : VP} {Q : EQ} (hR : ∀ e w, (R (e 6) w) → Q .ret e w) (e : Env) (w : World) (h : m48_0 R (e 0) (e 1) (e 2) w) : W48 k48_0 Q e w := by
  unfold m48_0 at h
  refine seA ?_
  have hN : ∀ e w, (m48_1 R (e 0) (e 1) (e 2) w) → (thenE (W48 k48_1 Q) Q) .normal e w := fun e w h => then_N (s48_1 (R := R) (Q := Q) hR e w h)
  exact rgA 0 (fun e w => m48_1 R (e 0) (e 1) (e 2) w) h hN
abbrev m48 (R : VP) (g0 id1 gen2 : Value) (w : World) : Prop := m48_0 R g0 id1 gen2 w
theorem s48 (g0 id1 gen2 : Value) {R : VP} {w : World} (h : m48 R g0 id1 gen2 w) :
    Calls Try.prog 48 #[g0, id1, gen2] w fun e w' => ∃ v, e = .returned v ∧ R v w' :=
  calls_of_cwp (st := (fun i => 0)) (c := k48_0) (by kernel_rfl) Try.func48 (by kernel_rfl) (Nat.le_of_ble_eq_true (by kernel_rfl)) (by kernel_rfl)
    (s48_0 (R := R) (Q := endE Try.prog Try.f48 R) (fun e w h => kcast (by kernel_rfl) h) (argsE #[g0, id1, gen2]) w (kcast (by kernel_rfl) h))
/-! ### (*headgate/group.Group).Leave -/
def m49_7 (R : VP) (t4 : Value) (w : World) : Prop :=
  R t4 w
def m49_9 (R : VP) (t4 : Value) (w : World) : Prop :=
  R t4 w
def m49_5 (R : VP) (t4 : Value) (w : World) : Prop :=
  R t4 w
def m49_4 (R : VP) (w : World) : Prop :=
  m49_5 R (Value.int IntKind.i64 0) w
def m49_3 (R : VP) (g0 : Value) (w : World) : Prop :=
  callP Try.prog (fnV 74) #[g0] w fun t17 w =>
  m49_4 R w
def m49_2 (R : VP) (g0 id3 : Value) (w : World) : Prop :=
  valP Try.prog (Instr.makeFunc (Fn.func 75) #[] #[id3]) w fun t14 w =>
  callP Try.prog (fnV 72) #[g0, t14] w fun t15 w =>
  m49_3 R g0 w
def m49_8 (R : VP) (g0 id3 t10 : Value) (w : World) : Prop :=
  condP t10
  (m49_9 R (Value.int IntKind.i64 6) w)
  (m49_2 R g0 id3 w)
def m49_6 (R : VP) (g0 id3 t5 : Value) (w : World) : Prop :=
  condP t5
  (m49_7 R (Value.int IntKind.i64 11) w)
  (callP Try.prog (fnV 71) #[g0] w fun t12 w =>
  m49_8 R g0 id3 t12 w)
def m49_1 (R : VP) (g0 id3 : Value) (w : World) : Prop :=
  valP Try.prog (Instr.loadAt 3 id3) w fun t7 w =>
  callP Try.prog (fnV 70) #[g0, t7] w fun t8 w =>
  valP Try.prog (binS BinOp.eql 105 (Operand.tmp 8) (Operand.const (Value.pointer none)) t8 (Value.pointer none)) w fun t9 w =>
  m49_6 R g0 id3 t9 w
def m49_0 (R : VP) (g0 id1 : Value) (w : World) : Prop :=
  valP Try.prog (Instr.box 3 id1) w fun id3 w =>
  m49_1 R g0 id3 w
abbrev W49 := cwp Try.prog (fun i => 0)
noncomputable def k49_0 : Code := (bodyOf Try.f49)
noncomputable def k49_1 : Code := (c2 k49_0)
noncomputable def k49_2 : Code := (c2 k49_1)
noncomputable def k49_3 : Code := (c2 k49_2)
noncomputable def k49_4 : Code := (c2 k49_3)
noncomputable def k49_5 : Code := (c2 k49_4)
noncomputable def k49_6 : Code := (c2 (c1 (c1 k49_1)))
noncomputable def k49_7 : Code := (c2 (c1 k49_6))
noncomputable def k49_8 : Code := (c2 (c2 k49_6))
noncomputable def k49_9 : Code := (c2 (c1 k49_8))
theorem s49_7 {R : VP} {Q : EQ} (hR : ∀ e w, (R (e 4) w) → Q .ret e w) (e : Env) (w : World) (h : m49_7 R (e 4) w) : W49 k49_7 Q e w := by
  unfold m49_7 at h
  exact reA (hR _ _ h)
theorem s49_9 {R : VP} {Q : EQ} (hR : ∀ e w, (R (e 4) w) → Q .ret e w) (e : Env) (w : World) (h : m49_9 R (e 4) w) : W49 k49_9 Q e w := by
  unfold m49_9 at h
  exact reA (hR _ _ h)
theorem s49_5 {R : VP} {Q : EQ} (hR : ∀ e w, (R (e 4) w) → Q .ret e w) (e : Env) (w : World) (h : m49_5 R (e 4) w) : W49 k49_5 Q e w := by
  unfold m49_5 at h
  exact reA (hR _ _ h)
theorem s49_4 {R : VP} {Q : EQ} (hR : ∀ e w, (R (e 4) w) → Q .ret e w) (e : Env) (w : World) (h : m49_4 R w) : W49 k49_4 Q e w := by
  unfold m49_4 at h
  refine seA ?_
  have hN : ∀ e w, (m49_5 R (e 4) w) → (thenE (W49 k49_5 Q) Q) .normal e w := fun e w h => then_N (s49_5 (R := R) (Q := Q) hR e w h)
  exact rgA 7 (fun e w => m49_5 R (e 4) w) h hN
theorem s49_3 {R : VP} {Q : EQ} (hR : ∀ e w, (R (e 4) w) → Q .ret e w) (e : Env) (w : World) (h : m49_3 R (e 0) w) : W49 k49_3 Q e w := by
  unfold m49_3 at h
  refine seA ?_
  have hN : ∀ e w, (m49_4 R w) → (thenE (W49 k49_4 Q) Q) .normal e w := fun e w h => then_N (s49_4 (R := R) (Q := Q) hR e w h)
  exact rgA 6 (fun e w => m49_4 R w) h hN
theorem s49_2 {R : VP} {Q : EQ} (hR : ∀ e w, (R (e 4) w) → Q .ret e w) (e : Env) (w : World) (h : m49_2 R (e 0) (e 3) w) : W49 k49_2 Q e w := by
  unfold m49_2 at h
  refine seA ?_
  have hN : ∀ e w, (m49_3 R (e 0) w) → (thenE (W49 k49_3 Q) Q) .normal e w := fun e w h => then_N (s49_3 (R := R) (Q := Q) hR e w h)
  exact rgA 5 (fun e w => m49_3 R (e 0) w) h hN
theorem s49_8 {R : VP} {Q : EQ} (hN : ∀ e w, (m49_2 R (e 0) (e 3) w) → Q .normal e w) (hR : ∀ e w, (R (e 4) w) → Q .ret e w) (e : Env) (w : World) (h : m49_8 R (e 0) (e 3) (e 10) w) : W49 k49_8 Q e w := by
  unfold m49_8 at h
  refine coA (Operand.tmp 10) h (fun h1 => ?_) (fun h1 => ?_)
  · refine seA ?_
    have hN : ∀ e w, (m49_9 R (e 4) w) → (thenE (W49 k49_9 Q) Q) .normal e w := fun e w h => then_N (s49_9 (R := R) (Q := Q) hR e w h)
    exact rgA 4 (fun e w => m49_9 R (e 4) w) h1 hN
  · exact skA (hN _ _ h1)
theorem s49_6 {R : VP} {Q : EQ} (hN : ∀ e w, (m49_2 R (e 0) (e 3) w) → Q .normal e w) (hR : ∀ e w, (R (e 4) w) → Q .ret e w) (e : Env) (w : World) (h : m49_6 R (e 0) (e 3) (e 5) w) : W49 k49_6 Q e w := by
  unfold m49_6 at h
  refine coA (Operand.tmp 5) h (fun h1 => ?_) (fun h1 => ?_)
  · refine seA ?_
    have hN : ∀ e w, (m49_7 R (e 4) w) → (thenE (W49 k49_7 Q) Q) .normal e w := fun e w h => then_N (s49_7 (R := R) (Q := Q) hR e w h)
    exact rgA 2 (fun e w => m49_7 R (e 4) w) h1 hN
  · refine seA ?_
    have hN : ∀ e w, (m49_8 R (e 0) (e 3) (e 10) w) → (thenE (W49 k49_8 Q) Q) .normal e w := fun e w h => then_N (s49_8 (R := R) (Q := Q) hN hR e w h)
    exact rgA 3 (fun e w => m49_8 R (e 0) (e 3) (e 10) w) h1 hN
theorem s49_1 {R : VP} {Q : EQ} (hR : ∀ e w, (R (e 4) w) → Q .ret e w) (e : Env) (w : World) (h : m49_1 R (e 0) (e 3) w) : W49 k49_1 Q e w := by
  unfold m49_1 at h
  refine seA ?_
  have hN : ∀ e w, (m49_2 R (e 0) (e 3) w) → (thenE (W49 k49_2 Q) Q) .normal e w := fun e w h => then_N (s49_2 (R := R) (Q := Q) hR e w h)
  have hR : ∀ e w, (R (e 4) w) → (thenE (W49 k49_2 Q) Q) .ret e w := fun e w h => then_R (hR e w h)
  refine block_ok 0 (by kernel_rfl) ?_
  have hN : ∀ e w, (m49_2 R (e 0) (e 3) w) → (inBlockE 0 (thenE (W49 k49_2 Q) Q)) .normal e w := fun e w h => block_N (hN e w h)
  have hR : ∀ e w, (R (e 4) w) → (inBlockE 0 (thenE (W49 k49_2 Q) Q)) .ret e w := fun e w h => block_R (hR e w h)
  refine seA ?_
  have hN : ∀ e w, (m49_6 R (e 0) (e 3) (e 5) w) → (thenE (W49 k49_6 (inBlockE 0 (thenE (W49 k49_2 Q) Q))) (inBlockE 0 (thenE (W49 k49_2 Q) Q))) .normal e w := fun e w h => then_N (s49_6 (R := R) (Q := (inBlockE 0 (thenE (W49 k49_2 Q) Q))) hN hR e w h)
  exact rgA 1 (fun e w => m49_6 R (e 0) (e 3) (e 5) w) h hN
theorem s49_0 {R : VP} {Q : EQ} (hR : ∀ e w, (R (e 4) w) → Q .ret e w) (e : Env) (w : World) (h : m49_0 R (e 0) (e 1) w) : W49 k49_0 Q e w := by
  unfold m49_0 at h
  refine seA ?_
  have hN : ∀ e w, (m49_1 R (e 0) (e 3) w) → (thenE (W49 k49_1 Q) Q) .normal e w := fun e w h => then_N (s49_1 (R := R) (Q := Q) hR e w h)
  exact rgA 0 (fun e w => m49_1 R (e 0) (e 3) w) h hN
abbrev m49 (R : VP) (g0 id1 : Value) (w : World) : Prop := m49_0 R g0 id1 w
theorem s49 (g0 id1 : Value) {R : VP} {w : World} (h : m49 R g0 id1 w) :
    Calls Try.prog 49 #[g0, id1] w fun e w' => ∃ v, e = .returned v ∧ R v w' :=
  calls_of_cwp (st := (fun i => 0)) (c := k49_0) (by kernel_rfl) Try.func49 (by kernel_rfl) (Nat.le_of_ble_eq_true (by kernel_rfl)) (by kernel_rfl)
    (s49_0 (R := R) (Q := endE Try.prog Try.f49 R) (fun e w h => kcast (by kernel_rfl) h) (argsE #[g0, id1]) w (kcast (by kernel_rfl) h))
/-! ### headgate/headgateref10.New -/
def m50_12 (R : VP) (t8 t9 : Value) (w : World) : Prop :=
  R (Value.tuple #[t8, t9]) w
def m50_9 (R : VP) (K1 : VP) (parts0 g10 i11 : Value) (w : World) : Prop :=
  valP Try.prog (binS BinOp.add 3 (Operand.tmp 43) (Operand.const (Value.int IntKind.i64 1)) i11 (Value.int IntKind.i64 1)) w fun t44 w =>
  K1 t44 w
def m50_8 (R : VP) (K1 : VP) (parts0 g10 i11 : Value) (w : World) : Prop :=
  nilCheckP g10 fun t47 =>
  valP Try.prog (Instr.fieldAt 86 t47 6) w fun t48 w =>
  valP Try.prog (Instr.loadAt 28 t48) w fun t49 w =>
  valP Try.prog (Instr.buildSlice 28 1 #[(0, (Value.int IntKind.i64 0))]) w fun t50 w =>
  builtinP Try.prog Builtin.append #[28, 28] 28 #[false, false] #[t49, t50] w fun t51 w =>
  nilCheckP g10 fun t52 =>
  valP Try.prog (Instr.fieldAt 86 t52 6) w fun t53 w =>
  unitP Try.prog (Instr.storeAt 28 t53 t51) w fun _ w =>
  m50_9 R K1 parts0 g10 i11 w
def m50_5 (R : VP) (t8 t9 : Value) (w : World) : Prop :=
  R (Value.tuple #[t8, t9]) w
def m50_4 (R : VP) (g10 : Value) (w : World) : Prop :=
  m50_5 R g10 (Value.int IntKind.i64 0) w
def m50_10 (R : VP) (K1 : VP) (parts0 g10 i11 t42 : Value) (w : World) : Prop :=
  condP t42
  (m50_8 R K1 parts0 g10 i11 w)
  (m50_4 R g10 w)
def m50_7 (R : VP) (K1 : VP) (parts0 g10 i11 : Value) (w : World) : Prop :=
  valP Try.prog (binS BinOp.lss 3 (Operand.tmp 40) (Operand.tmp 41) i11 parts0) w fun t42 w =>
  m50_10 R K1 parts0 g10 i11 t42 w
def m50_6 (R : VP) (parts0 g10 i11 : Value) (w : World) : Prop :=
  loopP (fun (K1 : VP) (s : Value) w => m50_7 R K1 parts0 g10 s w) i11 w
def m50_3 (R : VP) (parts0 g10 : Value) (w : World) : Prop :=
  m50_6 R parts0 g10 (Value.int IntKind.i64 0) w
def m50_2 (R : VP) (parts0 sticky1 gen2 next3 : Value) (w : World) : Prop :=
  valP Try.prog (Instr.build 86 #[(0, parts0), (1, sticky1), (2, gen2), (3, next3)]) w fun t38 w =>
  valP Try.prog (Instr.box 86 t38) w fun t39 w =>
  m50_3 R parts0 t39 w
def m50_11 (R : VP) (parts0 sticky1 gen2 next3 t33 : Value) (w : World) : Prop :=
  condP t33
  (m50_12 R (Value.pointer none) (Value.int IntKind.i64 1) w)
  (m50_2 R parts0 sticky1 gen2 next3 w)
def m50_1 (R : VP) (parts0 sticky1 gen2 next3 : Value) (w : World) : Prop :=
  valP Try.prog (binS BinOp.lss 3 (Operand.tmp 12) (Operand.const (Value.int IntKind.i64 1)) parts0 (Value.int IntKind.i64 1)) w fun t13 w =>
  condP t13
  (pickP t13 (Value.bool true) undef fun t17 =>
  pickP t17 (Value.bool true) undef fun t21 =>
  pickP t21 (Value.bool true) undef fun t25 =>
  pickP t25 (Value.bool true) undef fun t29 =>
  pickP t29 (Value.bool true) undef fun t33 =>
  m50_11 R parts0 sticky1 gen2 next3 t33 w)
  (valP Try.prog (binS BinOp.gtr 3 (Operand.tmp 15) (Operand.const (Value.int IntKind.i64 4)) parts0 (Value.int IntKind.i64 4)) w fun t16 w =>
  pickP t13 (Value.bool true) t16 fun t17 =>
  condP t17
  (pickP t17 (Value.bool true) undef fun t21 =>
  pickP t21 (Value.bool true) undef fun t25 =>
  pickP t25 (Value.bool true) undef fun t29 =>
  pickP t29 (Value.bool true) undef fun t33 =>
  m50_11 R parts0 sticky1 gen2 next3 t33 w)
  (valP Try.prog (binS BinOp.lss 3 (Operand.tmp 19) (Operand.const (Value.int IntKind.i64 0)) gen2 (Value.int IntKind.i64 0)) w fun t20 w =>
  pickP t17 (Value.bool true) t20 fun t21 =>
  condP t21
  (pickP t21 (Value.bool true) undef fun t25 =>
  pickP t25 (Value.bool true) undef fun t29 =>
  pickP t29 (Value.bool true) undef fun t33 =>
  m50_11 R parts0 sticky1 gen2 next3 t33 w)
  (valP Try.prog (binS BinOp.gtr 3 (Operand.tmp 23) (Operand.const (Value.int IntKind.i64 1099511627776)) gen2 (Value.int IntKind.i64 1099511627776)) w fun t24 w =>
  pickP t21 (Value.bool true) t24 fun t25 =>
  condP t25
  (pickP t25 (Value.bool true) undef fun t29 =>
  pickP t29 (Value.bool true) undef fun t33 =>
  m50_11 R parts0 sticky1 gen2 next3 t33 w)
  (valP Try.prog (binS BinOp.lss 3 (Operand.tmp 27) (Operand.const (Value.int IntKind.i64 1)) next3 (Value.int IntKind.i64 1)) w fun t28 w =>
  pickP t25 (Value.bool true) t28 fun t29 =>
  condP t29
  (pickP t29 (Value.bool true) undef fun t33 =>
  m50_11 R parts0 sticky1 gen2 next3 t33 w)
  (valP Try.prog (binS BinOp.gtr 3 (Operand.tmp 31) (Operand.const (Value.int IntKind.i64 1099511627776)) next3 (Value.int IntKind.i64 1099511627776)) w fun t32 w =>
  pickP t29 (Value.bool true) t32 fun t33 =>
  m50_11 R parts0 sticky1 gen2 next3 t33 w)))))
def m50_0 (R : VP) (parts0 sticky1 gen2 next3 : Value) (w : World) : Prop :=
  m50_1 R parts0 sticky1 gen2 next3 w
abbrev W50 := cwp Try.prog (fun i => 0)
noncomputable def k50_0 : Code := (bodyOf Try.f50)
noncomputable def k50_1 : Code := (c2 k50_0)
noncomputable def k50_2 : Code := (c2 k50_1)
noncomputable def k50_3 : Code := (c2 k50_2)
noncomputable def k50_4 : Code := (c2 k50_3)
noncomputable def k50_5 : Code := (c2 k50_4)
noncomputable def k50_6 : Code := (c2 (c1 k50_3))
noncomputable def k50_7 : Code := (c1 (c1 k50_6))
noncomputable def k50_8 : Code := (c2 k50_7)
noncomputable def k50_9 : Code := (c2 k50_8)
noncomputable def k50_10 : Code := (c2 (c1 k50_7))
noncomputable def k50_11 : Code := (c2 (c1 k50_1))
noncomputable def k50_12 : Code := (c2 (c1 k50_11))
theorem s50_12 {R : VP} {Q : EQ} (hR : ∀ e w, (R (Value.tuple #[(e 8), (e 9)]) w) → Q .ret e w) (e : Env) (w : World) (h : m50_12 R (e 8) (e 9) w) : W50 k50_12 Q e w := by
  unfold m50_12 at h
  exact reA (hR _ _ h)
theorem s50_9 {R : VP} {K1 : VP} {Q : EQ} (hN : ∀ e w, (K1 (e 11) w) → Q .normal e w) (e : Env) (w : World) (h : m50_9 R K1 (e 0) (e 10) (e 11) w) : W50 k50_9 Q e w := by
  unfold m50_9 at h
  exact rgA 6 (fun e w => K1 (e 11) w) h hN
theorem s50_8 {R : VP} {K1 : VP} {Q : EQ} (hN : ∀ e w, (K1 (e 11) w) → Q .normal e w) (e : Env) (w : World) (h : m50_8 R K1 (e 0) (e 10) (e 11) w) : W50 k50_8 Q e w := by
  unfold m50_8 at h
  refine seA ?_
  have hN : ∀ e w, (m50_9 R K1 (e 0) (e 10) (e 11) w) → (thenE (W50 k50_9 Q) Q) .normal e w := fun e w h => then_N (s50_9 (R := R) (Q := Q) (K1 := K1) hN e w h)
  refine block_ok 1 (by kernel_rfl) ?_
  have hN : ∀ e w, (m50_9 R K1 (e 0) (e 10) (e 11) w) → (inBlockE 1 (thenE (W50 k50_9 Q) Q)) .normal e w := fun e w h => block_N (hN e w h)
  exact rgA 7 (fun e w => m50_9 R K1 (e 0) (e 10) (e 11) w) h hN
theorem s50_5 {R : VP} {Q : EQ} (hR : ∀ e w, (R (Value.tuple #[(e 8), (e 9)]) w) → Q .ret e w) (e : Env) (w : World) (h : m50_5 R (e 8) (e 9) w) : W50 k50_5 Q e w := by
  unfold m50_5 at h
  exact reA (hR _ _ h)
theorem s50_4 {R : VP} {Q : EQ} (hR : ∀ e w, (R (Value.tuple #[(e 8), (e 9)]) w) → Q .ret e w) (e : Env) (w : World) (h : m50_4 R (e 10) w) : W50 k50_4 Q e w := by
  unfold m50_4 at h
  refine seA ?_
  have hN : ∀ e w, (m50_5 R (e 8) (e 9) w) → (thenE (W50 k50_5 Q) Q) .normal e w := fun e w h => then_N (s50_5 (R := R) (Q := Q) hR e w h)
  exact rgA 8 (fun e w => m50_5 R (e 8) (e 9) w) h hN
theorem s50_10 {R : VP} {K1 : VP} {Q : EQ} (hN : ∀ e w, (m50_8 R K1 (e 0) (e 10) (e 11) w) → Q .normal e w) (hX0 : ∀ e w, (m50_4 R (e 10) w) → Q (.exit 0) e w) (e : Env) (w : World) (h : m50_10 R K1 (e 0) (e 10) (e 11) (e 42) w) : W50 k50_10 Q e w := by
  unfold m50_10 at h
  refine coA (Operand.tmp 42) h (fun h1 => ?_) (fun h1 => ?_)
  · exact skA (hN _ _ h1)
  · exact exA 0 (hX0 _ _ h1)
theorem s50_7 {R : VP} {K1 : VP} {Q : EQ} (hN : ∀ e w, (K1 (e 11) w) → Q .normal e w) (hX0 : ∀ e w, (m50_4 R (e 10) w) → Q (.exit 0) e w) (e : Env) (w : World) (h : m50_7 R K1 (e 0) (e 10) (e 11) w) : W50 k50_7 Q e w := by
  unfold m50_7 at h
  refine seA ?_
  have hN : ∀ e w, (m50_8 R K1 (e 0) (e 10) (e 11) w) → (thenE (W50 k50_8 Q) Q) .normal e w := fun e w h => then_N (s50_8 (R := R) (Q := Q) (K1 := K1) hN e w h)
  have hX0 : ∀ e w, (m50_4 R (e 10) w) → (thenE (W50 k50_8 Q) Q) (.exit 0) e w := fun e w h => then_X (hX0 e w h)
  refine seA ?_
  have hN : ∀ e w, (m50_10 R K1 (e 0) (e 10) (e 11) (e 42) w) → (thenE (W50 k50_10 (thenE (W50 k50_8 Q) Q)) (thenE (W50 k50_8 Q) Q)) .normal e w := fun e w h => then_N (s50_10 (R := R) (Q := (thenE (W50 k50_8 Q) Q)) (K1 := K1) hN hX0 e w h)
  exact rgA 5 (fun e w => m50_10 R K1 (e 0) (e 10) (e 11) (e 42) w) h hN
theorem s50_6 {R : VP} {Q : EQ} (hN : ∀ e w, (m50_4 R (e 10) w) → Q .normal e w) (e : Env) (w : World) (h : m50_6 R (e 0) (e 10) (e 11) w) : W50 k50_6 Q e w := by
  unfold m50_6 at h
  refine block_ok 0 (by kernel_rfl) ?_
  have hX0 : ∀ e w, (m50_4 R (e 10) w) → (inBlockE 0 Q) (.exit 0) e w := fun e w h => inBlock_same (Q := Q) 0 (hN e w h)
  refine loop_ok' (fun (e : Env) => e 11) [0, 10] (by kernel_rfl) (by kernel_rfl) h (fun K e' w' hk h' => ?_)
  have r0 : e' 0 = e 0 := hk 0 (by decide)
  have r10 : e' 10 = e 10 := hk 10 (by decide)
  have hX0 : ∀ e w, (m50_4 R (e 10) w) → (thenE (fun (e : Env) w => K (e 11) w) (inBlockE 0 Q)) (.exit 0) e w := fun e w h => then_X (hX0 e w h)
  exact s50_7 (R := R) (Q := (thenE (fun (e : Env) w => K (e 11) w) (inBlockE 0 Q))) (K1 := K) (fun _ _ h => then_N h) hX0 e' w' (by rw [r0, r10]; exact h')
theorem s50_3 {R : VP} {Q : EQ} (hR : ∀ e w, (R (Value.tuple #[(e 8), (e 9)]) w) → Q .ret e w) (e : Env) (w : World) (h : m50_3 R (e 0) (e 10) w) : W50 k50_3 Q e w := by
  unfold m50_3 at h
  refine seA ?_
  have hN : ∀ e w, (m50_4 R (e 10) w) → (thenE (W50 k50_4 Q) Q) .normal e w := fun e w h => then_N (s50_4 (R := R) (Q := Q) hR e w h)
  refine seA ?_
  have hN : ∀ e w, (m50_6 R (e 0) (e 10) (e 11) w) → (thenE (W50 k50_6 (thenE (W50 k50_4 Q) Q)) (thenE (W50 k50_4 Q) Q)) .normal e w := fun e w h => then_N (s50_6 (R := R) (Q := (thenE (W50 k50_4 Q) Q)) hN e w h)
  exact rgA 4 (fun e w => m50_6 R (e 0) (e 10) (e 11) w) h hN
theorem s50_2 {R : VP} {Q : EQ} (hR : ∀ e w, (R (Value.tuple #[(e 8), (e 9)]) w) → Q .ret e w) (e : Env) (w : World) (h : m50_2 R (e 0) (e 1) (e 2) (e 3) w) : W50 k50_2 Q e w := by
  unfold m50_2 at h
  refine seA ?_
  have hN : ∀ e w, (m50_3 R (e 0) (e 10) w) → (thenE (W50 k50_3 Q) Q) .normal e w := fun e w h => then_N (s50_3 (R := R) (Q := Q) hR e w h)
  exact rgA 3 (fun e w => m50_3 R (e 0) (e 10) w) h hN
theorem s50_11 {R : VP} {Q : EQ} (hN : ∀ e w, (m50_2 R (e 0) (e 1) (e 2) (e 3) w) → Q .normal e w) (hR : ∀ e w, (R (Value.tuple #[(e 8), (e 9)]) w) → Q .ret e w) (e : Env) (w : World) (h : m50_11 R (e 0) (e 1) (e 2) (e 3) (e 33) w) : W50 k50_11 Q e w := by
  unfold m50_11 at h
  refine coA (Operand.tmp 33) h (fun h1 => ?_) (fun h1 => ?_)
  · refine seA ?_
    have hN : ∀ e w, (m50_12 R (e 8) (e 9) w) → (thenE (W50 k50_12 Q) Q) .normal e w := fun e w h => then_N (s50_12 (R := R) (Q := Q) hR e w h)
    exact rgA 2 (fun e w => m50_12 R (e 8) (e 9) w) h1 hN
  · exact skA (hN _ _ h1)
theorem s50_1 {R : VP} {Q : EQ} (hR : ∀ e w, (R (Value.tuple #[(e 8), (e 9)]) w) → Q .ret e w) (e : Env) (w : World) (h : m50_1 R (e 0) (e 1) (e 2) (e 3) w) : W50 k50_1 Q e w := by
  unfold m50_1 at h
  refine seA ?_
  have hN : ∀ e w, (m50_2 R (e 0) (e 1) (e 2) (e 3) w) → (thenE (W50 k50_2 Q) Q) .normal e w := fun e w h => then_N (s50_2 (R := R) (Q := Q) hR e w h)
  have hR : ∀ e w, (R (Value.tuple #[(e 8), (e 9)]) w) → (thenE (W50 k50_2 Q) Q) .ret e w := fun e w h => then_R (hR e w h)
  refine seA ?_
  have hN : ∀ e w, (m50_11 R (e 0) (e 1) (e 2) (e 3) (e 33) w) → (thenE (W50 k50_11 (thenE (W50 k50_2 Q) Q)) (thenE (W50 k50_2 Q) Q)) .normal e w := fun e w h => then_N (s50_11 (R := R) (Q := (thenE (W50 k50_2 Q) Q)) hN hR e w h)
  exact rgK 1 (fun e w => m50_11 R (e 0) (e 1) (e 2) (e 3) (e 33) w) h hN
theorem s50_0 {R : VP} {Q : EQ} (hR : ∀ e w, (R (Value.tuple #[(e 8), (e 9)]) w) → Q .ret e w) (e : Env) (w : World) (h : m50_0 R (e 0) (e 1) (e 2) (e 3) w) : W50 k50_0 Q e w := by
  unfold m50_0 at h
  refine seA ?_
  have hN : ∀ e w, (m50_1 R (e 0) (e 1) (e 2) (e 3) w) → (thenE (W50 k50_1 Q) Q) .normal e w := fun e w h => then_N (s50_1 (R := R) (Q := Q) hR e w h)
  exact rgA 0 (fun e w => m50_1 R (e 0) (e 1) (e 2) (e 3) w) h hN
abbrev m50 (R : VP) (parts0 sticky1 gen2 next3 : Value) (w : World) : Prop := m50_0 R parts0 sticky1 gen2 next3 w
theorem s50 (parts0 sticky1 gen2 next3 : Value) {R : VP} {w : World} (h : m50 R parts0 sticky1 gen2 next3 w) :
    Calls Try.prog 50 #[parts0, sticky1, gen2, next3] w fun e w' => ∃ v, e = .returned v ∧ R v w' :=
  calls_of_cwp (st := (fun i => 0)) (c := k50_0) (by kernel_rfl) Try.func50 (by kernel_rfl) (Nat.le_of_ble_eq_true (by kernel_rfl)) (by kernel_rfl)
    (s50_0 (R := R) (Q := endE Try.prog Try.f50 R) (fun e w h => kcast (by kernel_rfl) h) (argsE #[parts0, sticky1, gen2, next3]) w (kcast (by kernel_rfl) h))
/-! ### headgate/headgatelaw10.aimed -/
def m52_7 (R : VP) (t6 : Value) (w : World) : Prop :=
  valS Try.prog (loadC 65 t6) w fun r0 =>
  R r0 w
def m52_5 (R : VP) (t6 : Value) (w : World) : Prop :=
  valS Try.prog (loadC 65 t6) w fun r0 =>
  R r0 w
def m52_4 (R : VP) (x3 t6 : Value) (w : World) : Prop :=
  valP Try.prog (Instr.loadAt 65 x3) w fun t39 w =>
  unitP Try.prog (Instr.storeAt 65 t6 t39) w fun _ w =>
  m52_5 R t6 w
def m52_3 (R : VP) (gen2 x3 t6 : Value) (w : World) : Prop :=
  valP Try.prog (Instr.fieldAt 65 x3 2) w fun t38 w =>
  unitP Try.prog (Instr.storeAt 3 t38 gen2) w fun _ w =>
  m52_4 R x3 t6 w
def m52_2 (R : VP) (l1 gen2 x3 t6 : Value) (w : World) : Prop :=
  valP Try.prog (Instr.fieldAt 65 x3 1) w fun t22 w =>
  valP Try.prog (Instr.loadAt 3 t22) w fun t23 w =>
  builtinP Try.prog Builtin.len #[66] 3 #[false] #[l1] w fun t25 w =>
  valP Try.prog (binS BinOp.rem 3 (Operand.tmp 23) (Operand.tmp 25) t23 t25) w fun t26 w =>
  builtinP Try.prog Builtin.len #[66] 3 #[false] #[l1] w fun t28 w =>
  valP Try.prog (binS BinOp.add 3 (Operand.tmp 26) (Operand.tmp 28) t26 t28) w fun t29 w =>
  builtinP Try.prog Builtin.len #[66] 3 #[false] #[l1] w fun t31 w =>
  valP Try.prog (binS BinOp.rem 3 (Operand.tmp 29) (Operand.tmp 31) t29 t31) w fun t32 w =>
  valP Try.prog (Instr.indexAt 66 l1 t32) w fun t33 w =>
  valP Try.prog (Instr.fieldAt 69 t33 0) w fun t34 w =>
  valP Try.prog (Instr.loadAt 3 t34) w fun t35 w =>
  valP Try.prog (Instr.fieldAt 65 x3 1) w fun t36 w =>
  unitP Try.prog (Instr.storeAt 3 t36 t35) w fun _ w =>
  m52_3 R gen2 x3 t6 w
def m52_6 (R : VP) (l1 gen2 x3 t6 t19 : Value) (w : World) : Prop :=
  condP t19
  (valP Try.prog (Instr.loadAt 65 x3) w fun t20 w =>
  unitP Try.prog (Instr.storeAt 65 t6 t20) w fun _ w =>
  m52_7 R t6 w)
  (m52_2 R l1 gen2 x3 t6 w)
def m52_1 (R : VP) (l1 gen2 x3 t6 : Value) (w : World) : Prop :=
  valP Try.prog (Instr.fieldAt 65 x3 4) w fun t7 w =>
  valP Try.prog (Instr.loadAt 4 t7) w fun t8 w =>
  valP Try.prog (Op.unary UnOp.not t8) w fun t9 w =>
  condP t9
  (pickP t9 (Value.bool true) undef fun t14 =>
  condP t14
  (pickP t14 (Value.bool true) undef fun t19 =>
  m52_6 R l1 gen2 x3 t6 t19 w)
  (builtinP Try.prog Builtin.len #[66] 3 #[false] #[l1] w fun t17 w =>
  valP Try.prog (binS BinOp.eql 3 (Operand.tmp 17) (Operand.const (Value.int IntKind.i64 0)) t17 (Value.int IntKind.i64 0)) w fun t18 w =>
  pickP t14 (Value.bool true) t18 fun t19 =>
  m52_6 R l1 gen2 x3 t6 t19 w))
  (valP Try.prog (Instr.fieldAt 65 x3 0) w fun t11 w =>
  valP Try.prog (Instr.loadAt 3 t11) w fun t12 w =>
  valP Try.prog (binS BinOp.lss 3 (Operand.tmp 12) (Operand.const (Value.int IntKind.i64 2)) t12 (Value.int IntKind.i64 2)) w fun t13 w =>
  pickP t9 (Value.bool true) t13 fun t14 =>
  condP t14
  (pickP t14 (Value.bool true) undef fun t19 =>
  m52_6 R l1 gen2 x3 t6 t19 w)
  (builtinP Try.prog Builtin.len #[66] 3 #[false] #[l1] w fun t17 w =>
  valP Try.prog (binS BinOp.eql 3 (Operand.tmp 17) (Operand.const (Value.int IntKind.i64 0)) t17 (Value.int IntKind.i64 0)) w fun t18 w =>
  pickP t14 (Value.bool true) t18 fun t19 =>
  m52_6 R l1 gen2 x3 t6 t19 w))
def m52_0 (R : VP) (x0 l1 gen2 : Value) (w : World) : Prop :=
  valP Try.prog (Instr.box 65 x0) w fun x3 w =>
  valP Try.prog (Instr.alloc 65 true (.tuple #[])) w fun t6 w =>
  m52_1 R l1 gen2 x3 t6 w
abbrev W52 := cwp Try.prog (fun i => 0)
noncomputable def k52_0 : Code := (bodyOf Try.f52)
noncomputable def k52_1 : Code := (c2 k52_0)
noncomputable def k52_2 : Code := (c2 k52_1)
noncomputable def k52_3 : Code := (c2 k52_2)
noncomputable def k52_4 : Code := (c2 k52_3)
noncomputable def k52_5 : Code := (c2 k52_4)
noncomputable def k52_6 : Code := (c2 (c1 k52_1))
noncomputable def k52_7 : Code := (c2 (c1 k52_6))
theorem s52_7 {R : VP} {Q : EQ} (hR : ∀ e w, (valS Try.prog (loadC 65 (e 6)) w fun r0 =>
R r0 w) → Q .ret e w) (e : Env) (w : World) (h : m52_7 R (e 6) w) : W52 k52_7 Q e w := by
  unfold m52_7 at h
  exact reA (hR _ _ h)
theorem s52_5 {R : VP} {Q : EQ} (hR : ∀ e w, (valS Try.prog (loadC 65 (e 6)) w fun r0 =>
R r0 w) → Q .ret e w) (e : Env) (w : World) (h : m52_5 R (e 6) w) : W52 k52_5 Q e w := by
  unfold m52_5 at h
  exact reA (hR _ _ h)
theorem s52_4 {R : VP} {Q : EQ} (hR : ∀ e w, (valS Try.prog (loadC 65 (e 6)) w fun r0 =>
R r0 w) → Q .ret e w) (e : Env) (w : World) (h : m52_4 R (e 3) (e 6) w) : W52 k52_4 Q e w := by
  unfold m52_4 at h
  refine seA ?_
  have hN : ∀ e w, (m52_5 R (e 6) w) → (thenE (W52 k52_5 Q) Q) .normal e w := fun e w h => then_N (s52_5 (R := R) (Q := Q) hR e w h)
  exact rgA 5 (fun e w => m52_5 R (e 6) w) h hN
theorem s52_3 {R : VP} {Q : EQ} (hR : ∀ e w, (valS Try.prog (loadC 65 (e 6)) w fun r0 =>
R r0 w) → Q .ret e w) (e : Env) (w : World) (h : m52_3 R (e 2) (e 3) (e 6) w) : W52 k52_3 Q e w := by
  unfold m52_3 at h
  refine seA ?_
  have hN : ∀ e w, (m52_4 R (e 3) (e 6) w) → (thenE (W52 k52_4 Q) Q) .normal e w := fun e w h => then_N (s52_4 (R := R) (Q := Q) hR e w h)
  exact rgA 4 (fun e w => m52_4 R (e 3) (e 6) w) h hN
theorem s52_2 {R : VP} {Q : EQ} (hR : ∀ e w, (valS Try.prog (loadC 65 (e 6)) w fun r0 =>
R r0 w) → Q .ret e w) (e : Env) (w : World) (h : m52_2 R (e 1) (e 2) (e 3) (e 6) w) : W52 k52_2 Q e w := by
  unfold m52_2 at h
  refine seA ?_
  have hN : ∀ e w, (m52_3 R (e 2) (e 3) (e 6) w) → (thenE (W52 k52_3 Q) Q) .normal e w := fun e w h => then_N (s52_3 (R := R) (Q := Q) hR e w h)
  exact rgA 3 (fun e w => m52_3 R (e 2) (e 3) (e 6) w) h hN
theorem s52_6 {R : VP} {Q : EQ} (hN : ∀ e w, (m52_2 R (e 1) (e 2) (e 3) (e 6) w) → Q .normal e w) (hR : ∀ e w, (valS Try.prog (loadC 65 (e 6)) w fun r0 =>
R r0 w) → Q .ret e w) (e : Env) (w : World) (h : m52_6 R (e 1) (e 2) (e 3) (e 6) (e 19) w) : W52 k52_6 Q e w := by
  unfold m52_6 at h
  refine coA (Operand.tmp 19) h (fun h1 => ?_) (fun h1 => ?_)
  · refine seA ?_
    have hN : ∀ e w, (m52_7 R (e 6) w) → (thenE (W52 k52_7 Q) Q) .normal e w := fun e w h => then_N (s52_7 (R := R) (Q := Q) hR e w h)
    exact rgA 2 (fun e w => m52_7 R (e 6) w) h1 hN
  · exact skA (hN _ _ h1)
theorem s52_1 {R : VP} {Q : EQ} (hR : ∀ e w, (valS Try.prog (loadC 65 (e 6)) w fun r0 =>
R r0 w) → Q .ret e w) (e : Env) (w : World) (h : m52_1 R (e 1) (e 2) (e 3) (e 6) w) : W52 k52_1 Q e w := by
  unfold m52_1 at h
  refine seA ?_
  have hN : ∀ e w, (m52_2 R (e 1) (e 2) (e 3) (e 6) w) → (thenE (W52 k52_2 Q) Q) .normal e w := fun e w h => then_N (s52_2 (R := R) (Q := Q) hR e w h)
  have hR : ∀ e w, (valS Try.prog (loadC 65 (e 6)) w fun r0 =>
  R r0 w) → (thenE (W52 k52_2 Q) Q) .ret e w := fun e w h => then_R (hR e w h)
  refine seA ?_
  have hN : ∀ e w, (m52_6 R (e 1) (e 2) (e 3) (e 6) (e 19) w) → (thenE (W52 k52_6 (thenE (W52 k52_2 Q) Q)) (thenE (W52 k52_2 Q) Q)) .normal e w := fun e w h => then_N (s52_6 (R := R) (Q := (thenE (W52 k52_2 Q) Q)) hN hR e w h)
  exact rgA 1 (fun e w => m52_6 R (e 1) (e 2) (e 3) (e 6) (e 19) w) h hN
theorem s52_0 {R : VP} {Q : EQ} (hR : ∀ e w, (valS Try.prog (loadC 65 (e 6)) w fun r0 =>
R r0 w) → Q .ret e w) (e : Env) (w : World) (h : m52_0 R (e 0) (e 1) (e 2) w) : W52 k52_0 Q e w := by
  unfold m52_0 at h
  refine seA ?_
  have hN : ∀ e w, (m52_1 R (e 1) (e 2) (e 3) (e 6) w) → (thenE (W52 k52_1 Q) Q) .normal e w := fun e w h => then_N (s52_1 (R := R) (Q := Q) hR e w h)
  exact rgA 0 (fun e w => m52_1 R (e 1) (e 2) (e 3) (e 6) w) h hN
abbrev m52 (R : VP) (x0 l1 gen2 : Value) (w : World) : Prop := m52_0 R x0 l1 gen2 w
theorem s52 (x0 l1 gen2 : Value) {R : VP} {w : World} (h : m52 R x0 l1 gen2 w) :
    Calls Try.prog 52 #[x0, l1, gen2] w fun e w' => ∃ v, e = .returned v ∧ R v w' :=
  calls_of_cwp (st := (fun i => 0)) (c := k52_0) (by kernel_rfl) Try.func52 (by kernel_rfl) (Nat.le_of_ble_eq_true (by kernel_rfl)) (by kernel_rfl)
    (s52_0 (R := R) (Q := endE Try.prog Try.f52 R) (fun e w h => kcast (by kernel_rfl) h) (argsE #[x0, l1, gen2]) w (kcast (by kernel_rfl) h))
/-! ### headgate/headgatelaw10.same -/
def m53_2 (R : VP) (t4 : Value) (w : World) : Prop :=
  R t4 w
def m53_1 (R : VP) (g0 r1 : Value) (w : World) : Prop :=
  anyDraw w fun w =>
  heldP w fun J =>
  nilCheckP r1 fun t8 =>
  valJ Try.prog J (Instr.fieldAt 86 t8 2) fun t9 =>
  valJ Try.prog J (Instr.loadAt 3 t9) fun t10 =>
  callP Try.prog (fnV 44) #[g0] w fun t6 w =>
  stayP J w
  (valJ Try.prog J (binS BinOp.eql 3 (Operand.tmp 6) (Operand.tmp 10) t6 t10) fun t11 =>
  condP t11
  (nilCheckP r1 fun t16 =>
  valJ Try.prog J (Instr.fieldAt 86 t16 3) fun t17 =>
  valJ Try.prog J (Instr.loadAt 3 t17) fun t18 =>
  callP Try.prog (fnV 45) #[g0] w fun t14 w =>
  stayP J w
  (valJ Try.prog J (binS BinOp.eql 3 (Operand.tmp 14) (Operand.tmp 18) t14 t18) fun t19 =>
  pickP t11 t19 (Value.bool false) fun t20 =>
  condP t20
  (nilCheckP r1 fun t25 =>
  valJ Try.prog J (Instr.fieldAt 86 t25 5) fun t26 =>
  valJ Try.prog J (Instr.loadAt 66 t26) fun t27 =>
  callP Try.prog (fnV 39) #[g0] w fun t23 w =>
  stayP J w
  (callP Try.prog (fnV 82) #[t23, t27] w fun t28 w =>
  stayP J w
  (pickP t20 t28 (Value.bool false) fun t29 =>
  condP t29
  (nilCheckP r1 fun t34 =>
  valJ Try.prog J (Instr.fieldAt 86 t34 6) fun t35 =>
  valJ Try.prog J (Instr.loadAt 28 t35) fun t36 =>
  callP Try.prog (fnV 46) #[g0] w fun t32 w =>
  stayP J w
  (callP Try.prog (fnV 32) #[t32, t36] w fun t37 w =>
  stayP J w
  (pickP t29 t37 (Value.bool false) fun t38 =>
  m53_2 R t38 w)))
  (pickP t29 undef (Value.bool false) fun t38 =>
  m53_2 R t38 w))))
  (pickP t20 undef (Value.bool false) fun t29 =>
  pickP t29 undef (Value.bool false) fun t38 =>
  m53_2 R t38 w)))
  (pickP t11 undef (Value.bool false) fun t20 =>
  pickP t20 undef (Value.bool false) fun t29 =>
  pickP t29 undef (Value.bool false) fun t38 =>
  m53_2 R t38 w))
def m53_0 (R : VP) (g0 r1 : Value) (w : World) : Prop :=
  m53_1 R g0 r1 w
abbrev W53 := cwp Try.prog (fun i => 0)
noncomputable def k53_0 : Code := (bodyOf Try.f53)
noncomputable def k53_1 : Code := (c2 k53_0)
noncomputable def k53_2 : Code := (c2 k53_1)
theorem s53_2 {R : VP} {Q : EQ} (hR : ∀ e w, (R (e 4) w) → Q .ret e w) (e : Env) (w : World) (h : m53_2 R (e 4) w) : W53 k53_2 Q e w := by
  unfold m53_2 at h
  exact reA (hR _ _ h)
theorem s53_1 {R : VP} {Q : EQ} (hR : ∀ e w, (R (e 4) w) → Q .ret e w) (e : Env) (w : World) (h : m53_1 R (e 0) (e 1) w) : W53 k53_1 Q e w := by
  unfold m53_1 at h
  refine seA ?_
  have hN : ∀ e w, (m53_2 R (e 4) w) → (thenE (W53 k53_2 Q) Q) .normal e w := fun e w h => then_N (s53_2 (R := R) (Q := Q) hR e w h)
  exact treeJ_ok 1 35 [false, false, false, false, false, false, false, false, false, false, false, false, false, false, false, false, false, false, false, false, false, false, false, false, false, false, false, false, false, false, false, false, false, false, false] (.take 0 [true, false, false, false, false, false, false, false, false, false, false, false, false, false, false, false, false, false, false, false, false, false, false, false, false, false, false, false, false, false, false, false, false, false, false] (.take 2 [true, false, true, false, false, false, false, false, false, false, false, false, false, false, false, false, false, false, false, false, false, false, false, false, false, false, false, false, false, false, false, false, false, false, false] (.take 3 [true, false, true, true, false, false, false, false, false, false, false, false, false, false, false, false, false, false, false, false, false, false, false, false, false, false, false, false, false, false, false, false, false, false, false] (.take 4 [true, false, true, true, true, false, false, false, false, false, false, false, false, false, false, false, false, false, false, false, false, false, false, false, false, false, false, false, false, false, false, false, false, false, false] (.take 5 [true, false, true, true, true, true, false, false, false, false, false, false, false, false, false, false, false, false, false, false, false, false, false, false, false, false, false, false, false, false, false, false, false, false, false] (.alt 1 [true, true, true, true, true, true, false, false, false, false, false, false, false, false, false, false, false, false, false, false, false, false, false, false, false, false, false, false, false, false, false, false, false, false, false] (.take 6 [true, true, true, true, true, true, true, false, false, false, false, false, false, false, false, false, false, false, false, false, false, false, false, false, false, false, false, false, false, false, false, false, false, false, false] (.take 7 [true, true, true, true, true, true, true, true, false, false, false, false, false, false, false, false, false, false, false, false, false, false, false, false, false, false, false, false, false, false, false, false, false, false, false] (.take 8 [true, true, true, true, true, true, true, true, true, false, false, false, false, false, false, false, false, false, false, false, false, false, false, false, false, false, false, false, false, false, false, false, false, false, false] (.take 10 [true, true, true, true, true, true, true, true, true, false, true, false, false, false, false, false, false, false, false, false, false, false, false, false, false, false, false, false, false, false, false, false, false, false, false] (.take 11 [true, true, true, true, true, true, true, true, true, false, true, true, false, false, false, false, false, false, false, false, false, false, false, false, false, false, false, false, false, false, false, false, false, false, false] (.take 12 [true, true, true, true, true, true, true, true, true, false, true, true, true, false, false, false, false, false, false, false, false, false, false, false, false, false, false, false, false, false, false, false, false, false, false] (.take 13 [true, true, true, true, true, true, true, true, true, false, true, true, true, true, false, false, false, false, false, false, false, false, false, false, false, false, false, false, false, false, false, false, false, false, false] (.alt 9 [true, true, true, true, true, true, true, true, true, true, true, true, true, true, false, false, false, false, false, false, false, false, false, false, false, false, false, false, false, false, false, false, false, false, false] (.take 14 [true, true, true, true, true, true, true, true, true, true, true, true, true, true, true, false, false, false, false, false, false, false, false, false, false, false, false, false, false, false, false, false, false, false, false] (.take 15 [true, true, true, true, true, true, true, true, true, true, true, true, true, true, true, true, false, false, false, false, false, false, false, false, false, false, false, false, false, false, false, false, false, false, false] (.take 16 [true, true, true, true, true, true, true, true, true, true, true, true, true, true, true, true, true, false, false, false, false, false, false, false, false, false, false, false, false, false, false, false, false, false, false] (.take 17 [true, true, true, true, true, true, true, true, true, true, true, true, true, true, true, true, true, true, false, false, false, false, false, false, false, false, false, false, false, false, false, false, false, false, false] (.take 19 [true, true, true, true, true, true, true, true, true, true, true, true, true, true, true, true, true, true, false, true, false, false, false, false, false, false, false, false, false, false, false, false, false, false, false] (.take 20 [true, true, true, true, true, true, true, true, true, true, true, true, true, true, true, true, true, true, false, true, true, false, false, false, false, false, false, false, false, false, false, false, false, false, false] (.take 21 [true, true, true, true, true, true, true, true, true, true, true, true, true, true, true, true, true, true, false, true, true, true, false, false, false, false, false, false, false, false, false, false, false, false, false] (.take 22 [true, true, true, true, true, true, true, true, true, true, true, true, true, true, true, true, true, true, false, true, true, true, true, false, false, false, false, false, false, false, false, false, false, false, false] (.alt 18 [true, true, true, true, true, true, true, true, true, true, true, true, true, true, true, true, true, true, true, true, true, true, true, false, false, false, false, false, false, false, false, false, false, false, false] (.alt 23 [true, true, true, true, true, true, true, true, true, true, true, true, true, true, true, true, true, true, true, true, true, true, true, true, false, false, false, false, false, false, false, false, false, false, false] (.take 24 [true, true, true, true, true, true, true, true, true, true, true, true, true, true, true, true, true, true, true, true, true, true, true, true, true, false, false, false, false, false, false, false, false, false, false] (.take 25 [true, true, true, true, true, true, true, true, true, true, true, true, true, true, true, true, true, true, true, true, true, true, true, true, true, true, false, false, false, false, false, false, false, false, false] (.take 26 [true, true, true, true, true, true, true, true, true, true, true, true, true, true, true, true, true, true, true, true, true, true, true, true, true, true, true, false, false, false, false, false, false, false, false] (.take 28 [true, true, true, true, true, true, true, true, true, true, true, true, true, true, true, true, true, true, true, true, true, true, true, true, true, true, true, false, true, false, false, false, false, false, false] (.take 29 [true, true, true, true, true, true, true, true, true, true, true, true, true, true, true, true, true, true, true, true, true, true, true, true, true, true, true, false, true, true, false, false, false, false, false] (.take 30 [true, true, true, true, true, true, true, true, true, true, true, true, true, true, true, true, true, true, true, true, true, true, true, true, true, true, true, false, true, true, true, false, false, false, false] (.take 31 [true, true, true, true, true, true, true, true, true, true, true, true, true, true, true, true, true, true, true, true, true, true, true, true, true, true, true, false, true, true, true, true, false, false, false] (.alt 27 [true, true, true, true, true, true, true, true, true, true, true, true, true, true, true, true, true, true, true, true, true, true, true, true, true, true, true, true, true, true, true, true, false, false, false] (.alt 32 [true, true, true, true, true, true, true, true, true, true, true, true, true, true, true, true, true, true, true, true, true, true, true, true, true, true, true, true, true, true, true, true, true, false, false] (.take 33 [true, true, true, true, true, true, true, true, true, true, true, true, true, true, true, true, true, true, true, true, true, true, true, true, true, true, true, true, true, true, true, true, true, true, false] (.take 34 [true, true, true, true, true, true, true, true, true, true, true, true, true, true, true, true, true, true, true, true, true, true, true, true, true, true, true, true, true, true, true, true, true, true, true] .done)) .stop) .stop)))))))) .stop) .stop))))))))) .stop)))))))) .stop)))))) (fun e w => m53_2 R (e 4) w) (by kernel_rfl) (by kernel_rfl) (by kernel_rfl) (by kernel_rfl) (by kernel_rfl) (by kernel_rfl) (kcast (by kernel_rfl) h) hN (by kernel_rfl)
theorem s53_0 {R : VP} {Q : EQ} (hR : ∀ e w, (R (e 4) w) → Q .ret e w) (e : Env) (w : World) (h : m53_0 R (e 0) (e 1) w) : W53 k53_0 Q e w := by
  unfold m53_0 at h
  refine seA ?_
  have hN : ∀ e w, (m53_1 R (e 0) (e 1) w) → (thenE (W53 k53_1 Q) Q) .normal e w := fun e w h => then_N (s53_1 (R := R) (Q := Q) hR e w h)
  exact rgA 0 (fun e w => m53_1 R (e 0) (e 1) w) h hN
abbrev m53 (R : VP) (g0 r1 : Value) (w : World) : Prop := m53_0 R g0 r1 w
theorem s53 (g0 r1 : Value) {R : VP} {w : World} (h : m53 R g0 r1 w) :
    Calls Try.prog 53 #[g0, r1] w fun e w' => ∃ v, e = .returned v ∧ R v w' :=
  calls_of_cwp (st := (fun i => 0)) (c := k53_0) (by kernel_rfl) Try.func53 (by kernel_rfl) (Nat.le_of_ble_eq_true (by kernel_rfl)) (by kernel_rfl)
    (s53_0 (R := R) (Q := endE Try.prog Try.f53 R) (fun e w h => kcast (by kernel_rfl) h) (argsE #[g0, r1]) w (kcast (by kernel_rfl) h))
end Go.Proofs.Ytjjmlopmemmobaa.M
