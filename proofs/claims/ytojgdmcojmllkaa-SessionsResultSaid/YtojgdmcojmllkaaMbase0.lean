/- What functions' texts ask of their ends, told over values that have names; printed by a program of this work. -/
import Derived.Test.YtojgdmcojmllkaaFw
import Derived.Test.YtojgdmcojmllkaaProg
namespace Go.Proofs.Ytojgdmcojmllkaa.M
open Go.Proofs.Ytojgdmcojmllkaa.F
set_option linter.unusedVariables false
set_option maxRecDepth 100000
/-! ### headgate/sessions.over -/
def m26_2 (R : VP) (t6 : Value) (w : World) : Prop :=
  R t6 w
def m26_1 (R : VP) (time1 mark2 g3 : Value) (w : World) : Prop :=
  valP Try.prog (Instr.fieldAt 23 g3 0) w fun t8 w =>
  valP Try.prog (Instr.loadAt 3 t8) w fun t9 w =>
  valP Try.prog (binS BinOp.sub 3 (Operand.tmp 7) (Operand.tmp 9) mark2 t9) w fun t10 w =>
  valP Try.prog (Instr.fieldAt 23 g3 1) w fun t11 w =>
  valP Try.prog (Instr.loadAt 3 t11) w fun t12 w =>
  valP Try.prog (binS BinOp.sub 3 (Operand.tmp 10) (Operand.tmp 12) t10 t12) w fun t13 w =>
  valP Try.prog (binS BinOp.gtr 3 (Operand.tmp 13) (Operand.tmp 14) t13 time1) w fun t15 w =>
  m26_2 R t15 w
def m26_0 (R : VP) (g0 time1 mark2 : Value) (w : World) : Prop :=
  valP Try.prog (Instr.box 23 g0) w fun g3 w =>
  m26_1 R time1 mark2 g3 w
abbrev W26 := cwp Try.prog (fun i => 0)
noncomputable def k26_0 : Code := (bodyOf Try.f26)
noncomputable def k26_1 : Code := (c2 k26_0)
noncomputable def k26_2 : Code := (c2 k26_1)
theorem s26_2 {R : VP} {Q : EQ} (hR : ∀ e w, (R (e 6) w) → Q .ret e w) (e : Env) (w : World) (h : m26_2 R (e 6) w) : W26 k26_2 Q e w := by
  unfold m26_2 at h
  exact reA (hR _ _ h)
theorem s26_1 {R : VP} {Q : EQ} (hR : ∀ e w, (R (e 6) w) → Q .ret e w) (e : Env) (w : World) (h : m26_1 R (e 1) (e 2) (e 3) w) : W26 k26_1 Q e w := by
  unfold m26_1 at h
  refine seA ?_
  have hN : ∀ e w, (m26_2 R (e 6) w) → (thenE (W26 k26_2 Q) Q) .normal e w := fun e w h => then_N (s26_2 (R := R) (Q := Q) hR e w h)
  exact rgA 1 (fun e w => m26_2 R (e 6) w) h hN
theorem s26_0 {R : VP} {Q : EQ} (hR : ∀ e w, (R (e 6) w) → Q .ret e w) (e : Env) (w : World) (h : m26_0 R (e 0) (e 1) (e 2) w) : W26 k26_0 Q e w := by
  unfold m26_0 at h
  refine seA ?_
  have hN : ∀ e w, (m26_1 R (e 1) (e 2) (e 3) w) → (thenE (W26 k26_1 Q) Q) .normal e w := fun e w h => then_N (s26_1 (R := R) (Q := Q) hR e w h)
  exact rgA 0 (fun e w => m26_1 R (e 1) (e 2) (e 3) w) h hN
abbrev m26 (R : VP) (g0 time1 mark2 : Value) (w : World) : Prop := m26_0 R g0 time1 mark2 w
theorem s26 (g0 time1 mark2 : Value) {R : VP} {w : World} (h : m26 R g0 time1 mark2 w) :
    Calls Try.prog 26 #[g0, time1, mark2] w fun e w' => ∃ v, e = .returned v ∧ R v w' :=
  calls_of_cwp (st := (fun i => 0)) (c := k26_0) (by kernel_rfl) Try.func26 (by kernel_rfl) (Nat.le_of_ble_eq_true (by kernel_rfl)) (by kernel_rfl)
    (s26_0 (R := R) (Q := endE Try.prog Try.f26 R) (fun e w h => kcast (by kernel_rfl) h) (argsE #[g0, time1, mark2]) w (kcast (by kernel_rfl) h))
/-! ### headgate/sessions.ends -/
def m28_2 (R : VP) (t2 t3 : Value) (w : World) : Prop :=
  R (Value.tuple #[t2, t3]) w
def m28_1 (R : VP) (s1 : Value) (w : World) : Prop :=
  valQ Try.prog (Instr.fieldAt 33 s1 1) w fun t4 =>
  valQ Try.prog (Instr.loadAt 31 t4) w fun t5 =>
  valQ Try.prog (Instr.indexAt 31 t5 (Value.int IntKind.i64 0)) w fun t6 =>
  valQ Try.prog (Instr.fieldAt 28 t6 0) w fun t7 =>
  valQ Try.prog (Instr.loadAt 3 t7) w fun t8 =>
  valQ Try.prog (Instr.fieldAt 33 s1 1) w fun t9 =>
  valQ Try.prog (Instr.loadAt 31 t9) w fun t10 =>
  valQ Try.prog (Instr.fieldAt 33 s1 1) w fun t11 =>
  valQ Try.prog (Instr.loadAt 31 t11) w fun t12 =>
  builtinQ Try.prog Builtin.len #[31] 3 #[false] #[t12] w fun t13 =>
  valQ Try.prog (binS BinOp.sub 3 (Operand.tmp 13) (Operand.const (Value.int IntKind.i64 1)) t13 (Value.int IntKind.i64 1)) w fun t14 =>
  valQ Try.prog (Instr.indexAt 31 t10 t14) w fun t15 =>
  valQ Try.prog (Instr.fieldAt 28 t15 0) w fun t16 =>
  valQ Try.prog (Instr.loadAt 3 t16) w fun t17 =>
  anyDraw w fun w =>
  m28_2 R t8 t17 w
def m28_0 (R : VP) (s0 : Value) (w : World) : Prop :=
  valP Try.prog (Instr.box 33 s0) w fun s1 w =>
  m28_1 R s1 w
abbrev W28 := cwp Try.prog (fun i => cond (Nat.beq i 1) 1 (0))
noncomputable def k28_0 : Code := (bodyOf Try.f28)
noncomputable def k28_1 : Code := (c2 k28_0)
noncomputable def k28_2 : Code := (c2 k28_1)
theorem s28_2 {R : VP} {Q : EQ} (hR : ∀ e w, (R (Value.tuple #[(e 2), (e 3)]) w) → Q .ret e w) (e : Env) (w : World) (h : m28_2 R (e 2) (e 3) w) : W28 k28_2 Q e w := by
  unfold m28_2 at h
  exact reA (hR _ _ h)
theorem s28_1 {R : VP} {Q : EQ} (hR : ∀ e w, (R (Value.tuple #[(e 2), (e 3)]) w) → Q .ret e w) (e : Env) (w : World) (h : m28_1 R (e 1) w) : W28 k28_1 Q e w := by
  unfold m28_1 at h
  refine seA ?_
  have hN : ∀ e w, (m28_2 R (e 2) (e 3) w) → (thenE (W28 k28_2 Q) Q) .normal e w := fun e w h => then_N (s28_2 (R := R) (Q := Q) hR e w h)
  exact quA 1 (fun e w => m28_2 R (e 2) (e 3) w) h hN
theorem s28_0 {R : VP} {Q : EQ} (hR : ∀ e w, (R (Value.tuple #[(e 2), (e 3)]) w) → Q .ret e w) (e : Env) (w : World) (h : m28_0 R (e 0) w) : W28 k28_0 Q e w := by
  unfold m28_0 at h
  refine seA ?_
  have hN : ∀ e w, (m28_1 R (e 1) w) → (thenE (W28 k28_1 Q) Q) .normal e w := fun e w h => then_N (s28_1 (R := R) (Q := Q) hR e w h)
  exact rgA 0 (fun e w => m28_1 R (e 1) w) h hN
abbrev m28 (R : VP) (s0 : Value) (w : World) : Prop := m28_0 R s0 w
theorem s28 (s0 : Value) {R : VP} {w : World} (h : m28 R s0 w) :
    Calls Try.prog 28 #[s0] w fun e w' => ∃ v, e = .returned v ∧ R v w' :=
  calls_of_cwp (st := (fun i => cond (Nat.beq i 1) 1 (0))) (c := k28_0) (by kernel_rfl) Try.func28 (by kernel_rfl) (Nat.le_of_ble_eq_true (by kernel_rfl)) (by kernel_rfl)
    (s28_0 (R := R) (Q := endE Try.prog Try.f28 R) (fun e w h => kcast (by kernel_rfl) h) (argsE #[s0]) w (kcast (by kernel_rfl) h))
/-! ### headgate/sessions.gaps -/
def m32_2 (R : VP) (t2 : Value) (w : World) : Prop :=
  R t2 w
def m32_1 (R : VP) (g1 : Value) (w : World) : Prop :=
  valP Try.prog (Instr.fieldAt 23 g1 0) w fun t3 w =>
  valP Try.prog (Instr.loadAt 3 t3) w fun t4 w =>
  valP Try.prog (binS BinOp.geq 3 (Operand.tmp 4) (Operand.const (Value.int IntKind.i64 0)) t4 (Value.int IntKind.i64 0)) w fun t5 w =>
  condP t5
  (valP Try.prog (Instr.fieldAt 23 g1 0) w fun t7 w =>
  valP Try.prog (Instr.loadAt 3 t7) w fun t8 w =>
  valP Try.prog (binS BinOp.leq 3 (Operand.tmp 8) (Operand.const (Value.int IntKind.i64 1048576)) t8 (Value.int IntKind.i64 1048576)) w fun t9 w =>
  pickP t5 t9 (Value.bool false) fun t10 =>
  condP t10
  (valP Try.prog (Instr.fieldAt 23 g1 1) w fun t12 w =>
  valP Try.prog (Instr.loadAt 3 t12) w fun t13 w =>
  valP Try.prog (binS BinOp.geq 3 (Operand.tmp 13) (Operand.const (Value.int IntKind.i64 0)) t13 (Value.int IntKind.i64 0)) w fun t14 w =>
  pickP t10 t14 (Value.bool false) fun t15 =>
  condP t15
  (valP Try.prog (Instr.fieldAt 23 g1 1) w fun t17 w =>
  valP Try.prog (Instr.loadAt 3 t17) w fun t18 w =>
  valP Try.prog (binS BinOp.leq 3 (Operand.tmp 18) (Operand.const (Value.int IntKind.i64 1048576)) t18 (Value.int IntKind.i64 1048576)) w fun t19 w =>
  pickP t15 t19 (Value.bool false) fun t20 =>
  m32_2 R t20 w)
  (pickP t15 undef (Value.bool false) fun t20 =>
  m32_2 R t20 w))
  (pickP t10 undef (Value.bool false) fun t15 =>
  condP t15
  (valP Try.prog (Instr.fieldAt 23 g1 1) w fun t17 w =>
  valP Try.prog (Instr.loadAt 3 t17) w fun t18 w =>
  valP Try.prog (binS BinOp.leq 3 (Operand.tmp 18) (Operand.const (Value.int IntKind.i64 1048576)) t18 (Value.int IntKind.i64 1048576)) w fun t19 w =>
  pickP t15 t19 (Value.bool false) fun t20 =>
  m32_2 R t20 w)
  (pickP t15 undef (Value.bool false) fun t20 =>
  m32_2 R t20 w)))
  (pickP t5 undef (Value.bool false) fun t10 =>
  condP t10
  (valP Try.prog (Instr.fieldAt 23 g1 1) w fun t12 w =>
  valP Try.prog (Instr.loadAt 3 t12) w fun t13 w =>
  valP Try.prog (binS BinOp.geq 3 (Operand.tmp 13) (Operand.const (Value.int IntKind.i64 0)) t13 (Value.int IntKind.i64 0)) w fun t14 w =>
  pickP t10 t14 (Value.bool false) fun t15 =>
  condP t15
  (valP Try.prog (Instr.fieldAt 23 g1 1) w fun t17 w =>
  valP Try.prog (Instr.loadAt 3 t17) w fun t18 w =>
  valP Try.prog (binS BinOp.leq 3 (Operand.tmp 18) (Operand.const (Value.int IntKind.i64 1048576)) t18 (Value.int IntKind.i64 1048576)) w fun t19 w =>
  pickP t15 t19 (Value.bool false) fun t20 =>
  m32_2 R t20 w)
  (pickP t15 undef (Value.bool false) fun t20 =>
  m32_2 R t20 w))
  (pickP t10 undef (Value.bool false) fun t15 =>
  condP t15
  (valP Try.prog (Instr.fieldAt 23 g1 1) w fun t17 w =>
  valP Try.prog (Instr.loadAt 3 t17) w fun t18 w =>
  valP Try.prog (binS BinOp.leq 3 (Operand.tmp 18) (Operand.const (Value.int IntKind.i64 1048576)) t18 (Value.int IntKind.i64 1048576)) w fun t19 w =>
  pickP t15 t19 (Value.bool false) fun t20 =>
  m32_2 R t20 w)
  (pickP t15 undef (Value.bool false) fun t20 =>
  m32_2 R t20 w)))
def m32_0 (R : VP) (g0 : Value) (w : World) : Prop :=
  valP Try.prog (Instr.box 23 g0) w fun g1 w =>
  m32_1 R g1 w
abbrev W32 := cwp Try.prog (fun i => 0)
noncomputable def k32_0 : Code := (bodyOf Try.f32)
noncomputable def k32_1 : Code := (c2 k32_0)
noncomputable def k32_2 : Code := (c2 k32_1)
theorem s32_2 {R : VP} {Q : EQ} (hR : ∀ e w, (R (e 2) w) → Q .ret e w) (e : Env) (w : World) (h : m32_2 R (e 2) w) : W32 k32_2 Q e w := by
  unfold m32_2 at h
  exact reA (hR _ _ h)
theorem s32_1 {R : VP} {Q : EQ} (hR : ∀ e w, (R (e 2) w) → Q .ret e w) (e : Env) (w : World) (h : m32_1 R (e 1) w) : W32 k32_1 Q e w := by
  unfold m32_1 at h
  refine seA ?_
  have hN : ∀ e w, (m32_2 R (e 2) w) → (thenE (W32 k32_2 Q) Q) .normal e w := fun e w h => then_N (s32_2 (R := R) (Q := Q) hR e w h)
  exact rgA 1 (fun e w => m32_2 R (e 2) w) h hN
theorem s32_0 {R : VP} {Q : EQ} (hR : ∀ e w, (R (e 2) w) → Q .ret e w) (e : Env) (w : World) (h : m32_0 R (e 0) w) : W32 k32_0 Q e w := by
  unfold m32_0 at h
  refine seA ?_
  have hN : ∀ e w, (m32_1 R (e 1) w) → (thenE (W32 k32_1 Q) Q) .normal e w := fun e w h => then_N (s32_1 (R := R) (Q := Q) hR e w h)
  exact rgA 0 (fun e w => m32_1 R (e 1) w) h hN
abbrev m32 (R : VP) (g0 : Value) (w : World) : Prop := m32_0 R g0 w
theorem s32 (g0 : Value) {R : VP} {w : World} (h : m32 R g0 w) :
    Calls Try.prog 32 #[g0] w fun e w' => ∃ v, e = .returned v ∧ R v w' :=
  calls_of_cwp (st := (fun i => 0)) (c := k32_0) (by kernel_rfl) Try.func32 (by kernel_rfl) (Nat.le_of_ble_eq_true (by kernel_rfl)) (by kernel_rfl)
    (s32_0 (R := R) (Q := endE Try.prog Try.f32 R) (fun e w h => kcast (by kernel_rfl) h) (argsE #[g0]) w (kcast (by kernel_rfl) h))
/-! ### headgate/sessions.near -/
def m37_4 (R : VP) (t6 : Value) (w : World) : Prop :=
  R t6 w
def m37_3 (R : VP) (g3 a4 b5 from7 to8 first9 last10 : Value) (w : World) : Prop :=
  valP Try.prog (Instr.fieldAt 33 a4 0) w fun t21 w =>
  valP Try.prog (Instr.loadAt 3 t21) w fun t22 w =>
  valP Try.prog (Instr.fieldAt 33 b5 0) w fun t23 w =>
  valP Try.prog (Instr.loadAt 3 t23) w fun t24 w =>
  valP Try.prog (binS BinOp.eql 3 (Operand.tmp 22) (Operand.tmp 24) t22 t24) w fun t25 w =>
  condP t25
  (valP Try.prog (binS BinOp.sub 3 (Operand.tmp 27) (Operand.tmp 28) first9 to8) w fun t29 w =>
  valP Try.prog (Instr.fieldAt 23 g3 0) w fun t30 w =>
  valP Try.prog (Instr.loadAt 3 t30) w fun t31 w =>
  valP Try.prog (binS BinOp.leq 3 (Operand.tmp 29) (Operand.tmp 31) t29 t31) w fun t32 w =>
  pickP t25 t32 (Value.bool false) fun t33 =>
  condP t33
  (valP Try.prog (binS BinOp.sub 3 (Operand.tmp 35) (Operand.tmp 36) from7 last10) w fun t37 w =>
  valP Try.prog (Instr.fieldAt 23 g3 0) w fun t38 w =>
  valP Try.prog (Instr.loadAt 3 t38) w fun t39 w =>
  valP Try.prog (binS BinOp.leq 3 (Operand.tmp 37) (Operand.tmp 39) t37 t39) w fun t40 w =>
  pickP t33 t40 (Value.bool false) fun t41 =>
  m37_4 R t41 w)
  (pickP t33 undef (Value.bool false) fun t41 =>
  m37_4 R t41 w))
  (pickP t25 undef (Value.bool false) fun t33 =>
  condP t33
  (valP Try.prog (binS BinOp.sub 3 (Operand.tmp 35) (Operand.tmp 36) from7 last10) w fun t37 w =>
  valP Try.prog (Instr.fieldAt 23 g3 0) w fun t38 w =>
  valP Try.prog (Instr.loadAt 3 t38) w fun t39 w =>
  valP Try.prog (binS BinOp.leq 3 (Operand.tmp 37) (Operand.tmp 39) t37 t39) w fun t40 w =>
  pickP t33 t40 (Value.bool false) fun t41 =>
  m37_4 R t41 w)
  (pickP t33 undef (Value.bool false) fun t41 =>
  m37_4 R t41 w))
def m37_2 (R : VP) (g3 a4 b5 from7 to8 : Value) (w : World) : Prop :=
  valP Try.prog (Instr.loadAt 33 b5) w fun t17 w =>
  callP Try.prog (fnV 28) #[t17] w fun t18 w =>
  valP Try.prog (Instr.extract t18 0) w fun t19 w =>
  valP Try.prog (Instr.extract t18 1) w fun t20 w =>
  m37_3 R g3 a4 b5 from7 to8 t19 t20 w
def m37_1 (R : VP) (g3 a4 b5 : Value) (w : World) : Prop :=
  valP Try.prog (Instr.loadAt 33 a4) w fun t12 w =>
  callP Try.prog (fnV 28) #[t12] w fun t13 w =>
  valP Try.prog (Instr.extract t13 0) w fun t14 w =>
  valP Try.prog (Instr.extract t13 1) w fun t15 w =>
  m37_2 R g3 a4 b5 t14 t15 w
def m37_0 (R : VP) (g0 a1 b2 : Value) (w : World) : Prop :=
  valP Try.prog (Instr.box 23 g0) w fun g3 w =>
  valP Try.prog (Instr.box 33 a1) w fun a4 w =>
  valP Try.prog (Instr.box 33 b2) w fun b5 w =>
  m37_1 R g3 a4 b5 w
abbrev W37 := cwp Try.prog (fun i => 0)
noncomputable def k37_0 : Code := (bodyOf Try.f37)
noncomputable def k37_1 : Code := (c2 k37_0)
noncomputable def k37_2 : Code := (c2 k37_1)
noncomputable def k37_3 : Code := (c2 k37_2)
noncomputable def k37_4 : Code := (c2 k37_3)
theorem s37_4 {R : VP} {Q : EQ} (hR : ∀ e w, (R (e 6) w) → Q .ret e w) (e : Env) (w : World) (h : m37_4 R (e 6) w) : W37 k37_4 Q e w := by
  unfold m37_4 at h
  exact reA (hR _ _ h)
theorem s37_3 {R : VP} {Q : EQ} (hR : ∀ e w, (R (e 6) w) → Q .ret e w) (e : Env) (w : World) (h : m37_3 R (e 3) (e 4) (e 5) (e 7) (e 8) (e 9) (e 10) w) : W37 k37_3 Q e w := by
  unfold m37_3 at h
  refine seA ?_
  have hN : ∀ e w, (m37_4 R (e 6) w) → (thenE (W37 k37_4 Q) Q) .normal e w := fun e w h => then_N (s37_4 (R := R) (Q := Q) hR e w h)
  exact rgA 3 (fun e w => m37_4 R (e 6) w) h hN
theorem s37_2 {R : VP} {Q : EQ} (hR : ∀ e w, (R (e 6) w) → Q .ret e w) (e : Env) (w : World) (h : m37_2 R (e 3) (e 4) (e 5) (e 7) (e 8) w) : W37 k37_2 Q e w := by
  unfold m37_2 at h
  refine seA ?_
  have hN : ∀ e w, (m37_3 R (e 3) (e 4) (e 5) (e 7) (e 8) (e 9) (e 10) w) → (thenE (W37 k37_3 Q) Q) .normal e w := fun e w h => then_N (s37_3 (R := R) (Q := Q) hR e w h)
  exact rgA 2 (fun e w => m37_3 R (e 3) (e 4) (e 5) (e 7) (e 8) (e 9) (e 10) w) h hN
theorem s37_1 {R : VP} {Q : EQ} (hR : ∀ e w, (R (e 6) w) → Q .ret e w) (e : Env) (w : World) (h : m37_1 R (e 3) (e 4) (e 5) w) : W37 k37_1 Q e w := by
  unfold m37_1 at h
  refine seA ?_
  have hN : ∀ e w, (m37_2 R (e 3) (e 4) (e 5) (e 7) (e 8) w) → (thenE (W37 k37_2 Q) Q) .normal e w := fun e w h => then_N (s37_2 (R := R) (Q := Q) hR e w h)
  exact rgA 1 (fun e w => m37_2 R (e 3) (e 4) (e 5) (e 7) (e 8) w) h hN
theorem s37_0 {R : VP} {Q : EQ} (hR : ∀ e w, (R (e 6) w) → Q .ret e w) (e : Env) (w : World) (h : m37_0 R (e 0) (e 1) (e 2) w) : W37 k37_0 Q e w := by
  unfold m37_0 at h
  refine seA ?_
  have hN : ∀ e w, (m37_1 R (e 3) (e 4) (e 5) w) → (thenE (W37 k37_1 Q) Q) .normal e w := fun e w h => then_N (s37_1 (R := R) (Q := Q) hR e w h)
  exact rgA 0 (fun e w => m37_1 R (e 3) (e 4) (e 5) w) h hN
abbrev m37 (R : VP) (g0 a1 b2 : Value) (w : World) : Prop := m37_0 R g0 a1 b2 w
theorem s37 (g0 a1 b2 : Value) {R : VP} {w : World} (h : m37 R g0 a1 b2 w) :
    Calls Try.prog 37 #[g0, a1, b2] w fun e w' => ∃ v, e = .returned v ∧ R v w' :=
  calls_of_cwp (st := (fun i => 0)) (c := k37_0) (by kernel_rfl) Try.func37 (by kernel_rfl) (Nat.le_of_ble_eq_true (by kernel_rfl)) (by kernel_rfl)
    (s37_0 (R := R) (Q := endE Try.prog Try.f37 R) (fun e w h => kcast (by kernel_rfl) h) (argsE #[g0, a1, b2]) w (kcast (by kernel_rfl) h))
/-! ### headgate/sessions.Check$1 -/
def m36_2 (R : VP) (t5 : Value) (w : World) : Prop :=
  R t5 w
def m36_1 (R : VP) (t1 t2 t3 s4 : Value) (w : World) : Prop :=
  anyDraw w fun w =>
  valS Try.prog (Instr.loadAt 23 t1) w fun t6 =>
  valS Try.prog (Instr.loadAt 33 s4) w fun t7 =>
  valS Try.prog (Instr.fieldAt 26 t2 2) w fun t8 =>
  valS Try.prog (Instr.loadAt 24 t8) w fun t9 =>
  valS Try.prog (Instr.loadAt 3 t3) w fun t10 =>
  valS Try.prog (Instr.indexAt 24 t9 t10) w fun t11 =>
  valS Try.prog (Instr.loadAt 33 t11) w fun t12 =>
  callP Try.prog (fnV 37) #[t6, t7, t12] w fun t13 w =>
  m36_2 R t13 w
def m36_0 (R : VP) (s0 t1 t2 t3 : Value) (w : World) : Prop :=
  valP Try.prog (Instr.box 33 s0) w fun s4 w =>
  m36_1 R t1 t2 t3 s4 w
abbrev W36 := cwp Try.prog (fun i => cond (Nat.beq i 1) 9 (0))
noncomputable def k36_0 : Code := (bodyOf Try.f36)
noncomputable def k36_1 : Code := (c2 k36_0)
noncomputable def k36_2 : Code := (c2 k36_1)
theorem s36_2 {R : VP} {Q : EQ} (hR : ∀ e w, (R (e 5) w) → Q .ret e w) (e : Env) (w : World) (h : m36_2 R (e 5) w) : W36 k36_2 Q e w := by
  unfold m36_2 at h
  exact reA (hR _ _ h)
theorem s36_1 {R : VP} {Q : EQ} (hR : ∀ e w, (R (e 5) w) → Q .ret e w) (e : Env) (w : World) (h : m36_1 R (e 1) (e 2) (e 3) (e 4) w) : W36 k36_1 Q e w := by
  unfold m36_1 at h
  refine seA ?_
  have hN : ∀ e w, (m36_2 R (e 5) w) → (thenE (W36 k36_2 Q) Q) .normal e w := fun e w h => then_N (s36_2 (R := R) (Q := Q) hR e w h)
  exact taA 1 7 (fun e w => m36_2 R (e 5) w) h hN
theorem s36_0 {R : VP} {Q : EQ} (hR : ∀ e w, (R (e 5) w) → Q .ret e w) (e : Env) (w : World) (h : m36_0 R (e 0) (e 1) (e 2) (e 3) w) : W36 k36_0 Q e w := by
  unfold m36_0 at h
  refine seA ?_
  have hN : ∀ e w, (m36_1 R (e 1) (e 2) (e 3) (e 4) w) → (thenE (W36 k36_1 Q) Q) .normal e w := fun e w h => then_N (s36_1 (R := R) (Q := Q) hR e w h)
  exact rgA 0 (fun e w => m36_1 R (e 1) (e 2) (e 3) (e 4) w) h hN
abbrev m36 (R : VP) (s0 t1 t2 t3 : Value) (w : World) : Prop := m36_0 R s0 t1 t2 t3 w
theorem s36 (s0 t1 t2 t3 : Value) {R : VP} {w : World} (h : m36 R s0 t1 t2 t3 w) :
    Calls Try.prog 36 #[s0, t1, t2, t3] w fun e w' => ∃ v, e = .returned v ∧ R v w' :=
  calls_of_cwp (st := (fun i => cond (Nat.beq i 1) 9 (0))) (c := k36_0) (by kernel_rfl) Try.func36 (by kernel_rfl) (Nat.le_of_ble_eq_true (by kernel_rfl)) (by kernel_rfl)
    (s36_0 (R := R) (Q := endE Try.prog Try.f36 R) (fun e w h => kcast (by kernel_rfl) h) (argsE #[s0, t1, t2, t3]) w (kcast (by kernel_rfl) h))
/-! ### headgate/sessions.span -/
def m33_15 (R : VP) (t6 : Value) (w : World) : Prop :=
  R t6 w
def m33_13 (R : VP) (K1 : VP) (t6 : Value) (w : World) : Prop :=
  R t6 w
def m33_10 (R : VP) (K1 : VP) (mark2 g3 s4 t32 t33 t34 : Value) (w : World) : Prop :=
  valP Try.prog (binS BinOp.add 3 (Operand.tmp 34) (Operand.const (Value.int IntKind.i64 1)) t34 (Value.int IntKind.i64 1)) w fun t78 w =>
  K1 t78 w
def m33_12 (R : VP) (K1 : VP) (mark2 g3 s4 t32 t33 t34 t77 : Value) (w : World) : Prop :=
  condP t77
  (m33_13 R K1 (Value.bool false) w)
  (m33_10 R K1 mark2 g3 s4 t32 t33 t34 w)
def m33_11 (R : VP) (K1 : VP) (mark2 g3 s4 i7 e8 t32 t33 t34 : Value) (w : World) : Prop :=
  anyDraw w fun w =>
  heldP w fun J =>
  valJ Try.prog J (Instr.fieldAt 28 e8 0) fun t39 =>
  valJ Try.prog J (Instr.loadAt 3 t39) fun t40 =>
  valJ Try.prog J (binS BinOp.lss 3 (Operand.tmp 40) (Operand.const (Value.int IntKind.i64 0)) t40 (Value.int IntKind.i64 0)) fun t41 =>
  condP t41
  (pickP t41 (Value.bool true) undef fun t47 =>
  pickP t47 (Value.bool true) undef fun t77 =>
  m33_12 R K1 mark2 g3 s4 t32 t33 t34 t77 w)
  (valJ Try.prog J (Instr.fieldAt 28 e8 0) fun t43 =>
  valJ Try.prog J (Instr.loadAt 3 t43) fun t44 =>
  valJ Try.prog J (binS BinOp.gtr 3 (Operand.tmp 44) (Operand.tmp 45) t44 mark2) fun t46 =>
  pickP t41 (Value.bool true) t46 fun t47 =>
  condP t47
  (pickP t47 (Value.bool true) undef fun t77 =>
  m33_12 R K1 mark2 g3 s4 t32 t33 t34 t77 w)
  (valJ Try.prog J (binS BinOp.gtr 3 (Operand.tmp 49) (Operand.const (Value.int IntKind.i64 0)) i7 (Value.int IntKind.i64 0)) fun t50 =>
  condP t50
  (valJ Try.prog J (Instr.fieldAt 33 s4 1) fun t52 =>
  valJ Try.prog J (Instr.loadAt 31 t52) fun t53 =>
  valJ Try.prog J (binS BinOp.sub 3 (Operand.tmp 54) (Operand.const (Value.int IntKind.i64 1)) i7 (Value.int IntKind.i64 1)) fun t55 =>
  valJ Try.prog J (Instr.indexAt 31 t53 t55) fun t56 =>
  valJ Try.prog J (Instr.loadAt 28 t56) fun t57 =>
  valJ Try.prog J (Instr.loadAt 28 e8) fun t58 =>
  callP Try.prog (fnV 45) #[t57, t58] w fun t59 w =>
  stayP J w
  (valJ Try.prog J (binS BinOp.gtr 3 (Operand.tmp 59) (Operand.const (Value.int IntKind.i64 0)) t59 (Value.int IntKind.i64 0)) fun t60 =>
  condP t60
  (pickP t60 (Value.bool true) undef fun t75 =>
  pickP t50 t75 (Value.bool false) fun t76 =>
  pickP t47 (Value.bool true) t76 fun t77 =>
  m33_12 R K1 mark2 g3 s4 t32 t33 t34 t77 w)
  (valJ Try.prog J (Instr.fieldAt 28 e8 0) fun t62 =>
  valJ Try.prog J (Instr.loadAt 3 t62) fun t63 =>
  valJ Try.prog J (Instr.fieldAt 33 s4 1) fun t64 =>
  valJ Try.prog J (Instr.loadAt 31 t64) fun t65 =>
  valJ Try.prog J (binS BinOp.sub 3 (Operand.tmp 66) (Operand.const (Value.int IntKind.i64 1)) i7 (Value.int IntKind.i64 1)) fun t67 =>
  valJ Try.prog J (Instr.indexAt 31 t65 t67) fun t68 =>
  valJ Try.prog J (Instr.fieldAt 28 t68 0) fun t69 =>
  valJ Try.prog J (Instr.loadAt 3 t69) fun t70 =>
  valJ Try.prog J (binS BinOp.sub 3 (Operand.tmp 63) (Operand.tmp 70) t63 t70) fun t71 =>
  valJ Try.prog J (Instr.fieldAt 23 g3 0) fun t72 =>
  valJ Try.prog J (Instr.loadAt 3 t72) fun t73 =>
  valJ Try.prog J (binS BinOp.gtr 3 (Operand.tmp 71) (Operand.tmp 73) t71 t73) fun t74 =>
  pickP t60 (Value.bool true) t74 fun t75 =>
  pickP t50 t75 (Value.bool false) fun t76 =>
  pickP t47 (Value.bool true) t76 fun t77 =>
  m33_12 R K1 mark2 g3 s4 t32 t33 t34 t77 w)))
  (pickP t50 undef (Value.bool false) fun t76 =>
  pickP t47 (Value.bool true) t76 fun t77 =>
  m33_12 R K1 mark2 g3 s4 t32 t33 t34 t77 w)))
def m33_9 (R : VP) (K1 : VP) (mark2 g3 s4 t32 t33 t34 : Value) (w : World) : Prop :=
  valP Try.prog (Instr.indexAt 31 t32 t34) w fun t37 w =>
  valP Try.prog (Instr.loadAt 28 t37) w fun t38 w =>
  valP Try.prog (Instr.alloc 28 true (.tuple #[])) w fun e8 w =>
  unitP Try.prog (Instr.storeAt 28 e8 t38) w fun _ w =>
  m33_11 R K1 mark2 g3 s4 t34 e8 t32 t33 t34 w
def m33_5 (R : VP) (t6 : Value) (w : World) : Prop :=
  R t6 w
def m33_4 (R : VP) (mark2 g3 last10 : Value) (w : World) : Prop :=
  valP Try.prog (Instr.loadAt 23 g3) w fun t84 w =>
  callP Try.prog (fnV 26) #[t84, last10, mark2] w fun t87 w =>
  valP Try.prog (Op.unary UnOp.not t87) w fun t88 w =>
  m33_5 R t88 w
def m33_3 (R : VP) (mark2 g3 s4 : Value) (w : World) : Prop :=
  valP Try.prog (Instr.loadAt 33 s4) w fun t80 w =>
  callP Try.prog (fnV 28) #[t80] w fun t81 w =>
  valP Try.prog (Instr.extract t81 0) w fun t82 w =>
  valP Try.prog (Instr.extract t81 1) w fun t83 w =>
  m33_4 R mark2 g3 t83 w
def m33_8 (R : VP) (K1 : VP) (mark2 g3 s4 t32 t33 t34 t35 : Value) (w : World) : Prop :=
  condP t35
  (m33_9 R K1 mark2 g3 s4 t32 t33 t34 w)
  (m33_3 R mark2 g3 s4 w)
def m33_7 (R : VP) (K1 : VP) (mark2 g3 s4 t32 t33 t34 : Value) (w : World) : Prop :=
  valP Try.prog (binS BinOp.lss 3 (Operand.tmp 34) (Operand.tmp 33) t34 t33) w fun t35 w =>
  m33_8 R K1 mark2 g3 s4 t32 t33 t34 t35 w
def m33_6 (R : VP) (mark2 g3 s4 t32 t33 t34 : Value) (w : World) : Prop :=
  loopP (fun (K1 : VP) (s : Value) w => m33_7 R K1 mark2 g3 s4 t32 t33 s w) t34 w
def m33_2 (R : VP) (mark2 g3 s4 : Value) (w : World) : Prop :=
  valP Try.prog (Instr.fieldAt 33 s4 1) w fun t31 w =>
  valP Try.prog (Instr.loadAt 31 t31) w fun t32 w =>
  builtinP Try.prog Builtin.len #[31] 3 #[false] #[t32] w fun t33 w =>
  m33_6 R mark2 g3 s4 t32 t33 (Value.int IntKind.i64 0) w
def m33_14 (R : VP) (mark2 g3 s4 t30 : Value) (w : World) : Prop :=
  condP t30
  (m33_15 R (Value.bool false) w)
  (m33_2 R mark2 g3 s4 w)
def m33_1 (R : VP) (mark2 g3 s4 : Value) (w : World) : Prop :=
  valP Try.prog (Instr.fieldAt 33 s4 0) w fun t11 w =>
  valP Try.prog (Instr.loadAt 3 t11) w fun t12 w =>
  valP Try.prog (binS BinOp.lss 3 (Operand.tmp 12) (Operand.const (Value.int IntKind.i64 0)) t12 (Value.int IntKind.i64 0)) w fun t13 w =>
  condP t13
  (pickP t13 (Value.bool true) undef fun t18 =>
  condP t18
  (pickP t18 (Value.bool true) undef fun t24 =>
  condP t24
  (pickP t24 (Value.bool true) undef fun t30 =>
  m33_14 R mark2 g3 s4 t30 w)
  (valP Try.prog (Instr.fieldAt 33 s4 1) w fun t26 w =>
  valP Try.prog (Instr.loadAt 31 t26) w fun t27 w =>
  builtinP Try.prog Builtin.len #[31] 3 #[false] #[t27] w fun t28 w =>
  valP Try.prog (binS BinOp.gtr 3 (Operand.tmp 28) (Operand.const (Value.int IntKind.i64 64)) t28 (Value.int IntKind.i64 64)) w fun t29 w =>
  pickP t24 (Value.bool true) t29 fun t30 =>
  m33_14 R mark2 g3 s4 t30 w))
  (valP Try.prog (Instr.fieldAt 33 s4 1) w fun t20 w =>
  valP Try.prog (Instr.loadAt 31 t20) w fun t21 w =>
  builtinP Try.prog Builtin.len #[31] 3 #[false] #[t21] w fun t22 w =>
  valP Try.prog (binS BinOp.eql 3 (Operand.tmp 22) (Operand.const (Value.int IntKind.i64 0)) t22 (Value.int IntKind.i64 0)) w fun t23 w =>
  pickP t18 (Value.bool true) t23 fun t24 =>
  condP t24
  (pickP t24 (Value.bool true) undef fun t30 =>
  m33_14 R mark2 g3 s4 t30 w)
  (valP Try.prog (Instr.fieldAt 33 s4 1) w fun t26 w =>
  valP Try.prog (Instr.loadAt 31 t26) w fun t27 w =>
  builtinP Try.prog Builtin.len #[31] 3 #[false] #[t27] w fun t28 w =>
  valP Try.prog (binS BinOp.gtr 3 (Operand.tmp 28) (Operand.const (Value.int IntKind.i64 64)) t28 (Value.int IntKind.i64 64)) w fun t29 w =>
  pickP t24 (Value.bool true) t29 fun t30 =>
  m33_14 R mark2 g3 s4 t30 w)))
  (valP Try.prog (Instr.fieldAt 33 s4 0) w fun t15 w =>
  valP Try.prog (Instr.loadAt 3 t15) w fun t16 w =>
  valP Try.prog (binS BinOp.gtr 3 (Operand.tmp 16) (Operand.const (Value.int IntKind.i64 1048576)) t16 (Value.int IntKind.i64 1048576)) w fun t17 w =>
  pickP t13 (Value.bool true) t17 fun t18 =>
  condP t18
  (pickP t18 (Value.bool true) undef fun t24 =>
  condP t24
  (pickP t24 (Value.bool true) undef fun t30 =>
  m33_14 R mark2 g3 s4 t30 w)
  (valP Try.prog (Instr.fieldAt 33 s4 1) w fun t26 w =>
  valP Try.prog (Instr.loadAt 31 t26) w fun t27 w =>
  builtinP Try.prog Builtin.len #[31] 3 #[false] #[t27] w fun t28 w =>
  valP Try.prog (binS BinOp.gtr 3 (Operand.tmp 28) (Operand.const (Value.int IntKind.i64 64)) t28 (Value.int IntKind.i64 64)) w fun t29 w =>
  pickP t24 (Value.bool true) t29 fun t30 =>
  m33_14 R mark2 g3 s4 t30 w))
  (valP Try.prog (Instr.fieldAt 33 s4 1) w fun t20 w =>
  valP Try.prog (Instr.loadAt 31 t20) w fun t21 w =>
  builtinP Try.prog Builtin.len #[31] 3 #[false] #[t21] w fun t22 w =>
  valP Try.prog (binS BinOp.eql 3 (Operand.tmp 22) (Operand.const (Value.int IntKind.i64 0)) t22 (Value.int IntKind.i64 0)) w fun t23 w =>
  pickP t18 (Value.bool true) t23 fun t24 =>
  condP t24
  (pickP t24 (Value.bool true) undef fun t30 =>
  m33_14 R mark2 g3 s4 t30 w)
  (valP Try.prog (Instr.fieldAt 33 s4 1) w fun t26 w =>
  valP Try.prog (Instr.loadAt 31 t26) w fun t27 w =>
  builtinP Try.prog Builtin.len #[31] 3 #[false] #[t27] w fun t28 w =>
  valP Try.prog (binS BinOp.gtr 3 (Operand.tmp 28) (Operand.const (Value.int IntKind.i64 64)) t28 (Value.int IntKind.i64 64)) w fun t29 w =>
  pickP t24 (Value.bool true) t29 fun t30 =>
  m33_14 R mark2 g3 s4 t30 w)))
def m33_0 (R : VP) (g0 s1 mark2 : Value) (w : World) : Prop :=
  valP Try.prog (Instr.box 23 g0) w fun g3 w =>
  valP Try.prog (Instr.box 33 s1) w fun s4 w =>
  m33_1 R mark2 g3 s4 w
abbrev W33 := cwp Try.prog (fun i => 0)
noncomputable def k33_0 : Code := (bodyOf Try.f33)
noncomputable def k33_1 : Code := (c2 k33_0)
noncomputable def k33_2 : Code := (c2 k33_1)
noncomputable def k33_3 : Code := (c2 k33_2)
noncomputable def k33_4 : Code := (c2 k33_3)
noncomputable def k33_5 : Code := (c2 k33_4)
noncomputable def k33_6 : Code := (c2 (c1 k33_2))
noncomputable def k33_7 : Code := (c1 (c1 k33_6))
noncomputable def k33_8 : Code := (c2 k33_7)
noncomputable def k33_9 : Code := (c2 k33_8)
noncomputable def k33_10 : Code := (c2 k33_9)
noncomputable def k33_11 : Code := (c2 (c1 (c1 k33_9)))
noncomputable def k33_12 : Code := (c2 k33_11)
noncomputable def k33_13 : Code := (c2 (c1 k33_12))
noncomputable def k33_14 : Code := (c2 (c1 k33_1))
noncomputable def k33_15 : Code := (c2 (c1 k33_14))
theorem s33_15 {R : VP} {Q : EQ} (hR : ∀ e w, (R (e 6) w) → Q .ret e w) (e : Env) (w : World) (h : m33_15 R (e 6) w) : W33 k33_15 Q e w := by
  unfold m33_15 at h
  exact reA (hR _ _ h)
theorem s33_13 {R : VP} {K1 : VP} {Q : EQ} (hR : ∀ e w, (R (e 6) w) → Q .ret e w) (e : Env) (w : World) (h : m33_13 R K1 (e 6) w) : W33 k33_13 Q e w := by
  unfold m33_13 at h
  exact reA (hR _ _ h)
theorem s33_10 {R : VP} {K1 : VP} {Q : EQ} (hN : ∀ e w, (K1 (e 34) w) → Q .normal e w) (e : Env) (w : World) (h : m33_10 R K1 (e 2) (e 3) (e 4) (e 32) (e 33) (e 34) w) : W33 k33_10 Q e w := by
  unfold m33_10 at h
  exact rgA 8 (fun e w => K1 (e 34) w) h hN
theorem s33_12 {R : VP} {K1 : VP} {Q : EQ} (hN : ∀ e w, (m33_10 R K1 (e 2) (e 3) (e 4) (e 32) (e 33) (e 34) w) → Q .normal e w) (hR : ∀ e w, (R (e 6) w) → Q .ret e w) (e : Env) (w : World) (h : m33_12 R K1 (e 2) (e 3) (e 4) (e 32) (e 33) (e 34) (e 77) w) : W33 k33_12 Q e w := by
  unfold m33_12 at h
  refine coA (Operand.tmp 77) h (fun h1 => ?_) (fun h1 => ?_)
  · refine seA ?_
    have hN : ∀ e w, (m33_13 R K1 (e 6) w) → (thenE (W33 k33_13 Q) Q) .normal e w := fun e w h => then_N (s33_13 (R := R) (Q := Q) (K1 := K1) hR e w h)
    exact rgA 7 (fun e w => m33_13 R K1 (e 6) w) h1 hN
  · exact skA (hN _ _ h1)
theorem s33_11 {R : VP} {K1 : VP} {Q : EQ} (hN : ∀ e w, (m33_10 R K1 (e 2) (e 3) (e 4) (e 32) (e 33) (e 34) w) → Q .normal e w) (hR : ∀ e w, (R (e 6) w) → Q .ret e w) (e : Env) (w : World) (h : m33_11 R K1 (e 2) (e 3) (e 4) (e 7) (e 8) (e 32) (e 33) (e 34) w) : W33 k33_11 Q e w := by
  unfold m33_11 at h
  refine seA ?_
  have hN : ∀ e w, (m33_12 R K1 (e 2) (e 3) (e 4) (e 32) (e 33) (e 34) (e 77) w) → (thenE (W33 k33_12 Q) Q) .normal e w := fun e w h => then_N (s33_12 (R := R) (Q := Q) (K1 := K1) hN hR e w h)
  exact treeJ_ok 6 39 [false, false, false, false, false, false, false, false, false, false, false, false, false, false, false, false, false, false, false, false, false, false, false, false, false, false, false, false, false, false, false, false, false, false, false, false, false, false, false] (.take 0 [true, false, false, false, false, false, false, false, false, false, false, false, false, false, false, false, false, false, false, false, false, false, false, false, false, false, false, false, false, false, false, false, false, false, false, false, false, false, false] (.take 1 [true, true, false, false, false, false, false, false, false, false, false, false, false, false, false, false, false, false, false, false, false, false, false, false, false, false, false, false, false, false, false, false, false, false, false, false, false, false, false] (.take 2 [true, true, true, false, false, false, false, false, false, false, false, false, false, false, false, false, false, false, false, false, false, false, false, false, false, false, false, false, false, false, false, false, false, false, false, false, false, false, false] (.take 3 [true, true, true, true, false, false, false, false, false, false, false, false, false, false, false, false, false, false, false, false, false, false, false, false, false, false, false, false, false, false, false, false, false, false, false, false, false, false, false] (.take 4 [true, true, true, true, true, false, false, false, false, false, false, false, false, false, false, false, false, false, false, false, false, false, false, false, false, false, false, false, false, false, false, false, false, false, false, false, false, false, false] (.take 5 [true, true, true, true, true, true, false, false, false, false, false, false, false, false, false, false, false, false, false, false, false, false, false, false, false, false, false, false, false, false, false, false, false, false, false, false, false, false, false] (.take 6 [true, true, true, true, true, true, true, false, false, false, false, false, false, false, false, false, false, false, false, false, false, false, false, false, false, false, false, false, false, false, false, false, false, false, false, false, false, false, false] (.take 7 [true, true, true, true, true, true, true, true, false, false, false, false, false, false, false, false, false, false, false, false, false, false, false, false, false, false, false, false, false, false, false, false, false, false, false, false, false, false, false] (.take 8 [true, true, true, true, true, true, true, true, true, false, false, false, false, false, false, false, false, false, false, false, false, false, false, false, false, false, false, false, false, false, false, false, false, false, false, false, false, false, false] (.take 9 [true, true, true, true, true, true, true, true, true, true, false, false, false, false, false, false, false, false, false, false, false, false, false, false, false, false, false, false, false, false, false, false, false, false, false, false, false, false, false] (.take 10 [true, true, true, true, true, true, true, true, true, true, true, false, false, false, false, false, false, false, false, false, false, false, false, false, false, false, false, false, false, false, false, false, false, false, false, false, false, false, false] (.take 11 [true, true, true, true, true, true, true, true, true, true, true, true, false, false, false, false, false, false, false, false, false, false, false, false, false, false, false, false, false, false, false, false, false, false, false, false, false, false, false] (.take 12 [true, true, true, true, true, true, true, true, true, true, true, true, true, false, false, false, false, false, false, false, false, false, false, false, false, false, false, false, false, false, false, false, false, false, false, false, false, false, false] (.take 13 [true, true, true, true, true, true, true, true, true, true, true, true, true, true, false, false, false, false, false, false, false, false, false, false, false, false, false, false, false, false, false, false, false, false, false, false, false, false, false] (.take 14 [true, true, true, true, true, true, true, true, true, true, true, true, true, true, true, false, false, false, false, false, false, false, false, false, false, false, false, false, false, false, false, false, false, false, false, false, false, false, false] (.take 15 [true, true, true, true, true, true, true, true, true, true, true, true, true, true, true, true, false, false, false, false, false, false, false, false, false, false, false, false, false, false, false, false, false, false, false, false, false, false, false] (.take 16 [true, true, true, true, true, true, true, true, true, true, true, true, true, true, true, true, true, false, false, false, false, false, false, false, false, false, false, false, false, false, false, false, false, false, false, false, false, false, false] (.take 17 [true, true, true, true, true, true, true, true, true, true, true, true, true, true, true, true, true, true, false, false, false, false, false, false, false, false, false, false, false, false, false, false, false, false, false, false, false, false, false] (.take 18 [true, true, true, true, true, true, true, true, true, true, true, true, true, true, true, true, true, true, true, false, false, false, false, false, false, false, false, false, false, false, false, false, false, false, false, false, false, false, false] (.take 19 [true, true, true, true, true, true, true, true, true, true, true, true, true, true, true, true, true, true, true, true, false, false, false, false, false, false, false, false, false, false, false, false, false, false, false, false, false, false, false] (.alt 20 [true, true, true, true, true, true, true, true, true, true, true, true, true, true, true, true, true, true, true, true, true, false, false, false, false, false, false, false, false, false, false, false, false, false, false, false, false, false, false] (.take 21 [true, true, true, true, true, true, true, true, true, true, true, true, true, true, true, true, true, true, true, true, true, true, false, false, false, false, false, false, false, false, false, false, false, false, false, false, false, false, false] (.take 22 [true, true, true, true, true, true, true, true, true, true, true, true, true, true, true, true, true, true, true, true, true, true, true, false, false, false, false, false, false, false, false, false, false, false, false, false, false, false, false] (.take 23 [true, true, true, true, true, true, true, true, true, true, true, true, true, true, true, true, true, true, true, true, true, true, true, true, false, false, false, false, false, false, false, false, false, false, false, false, false, false, false] (.take 24 [true, true, true, true, true, true, true, true, true, true, true, true, true, true, true, true, true, true, true, true, true, true, true, true, true, false, false, false, false, false, false, false, false, false, false, false, false, false, false] (.take 25 [true, true, true, true, true, true, true, true, true, true, true, true, true, true, true, true, true, true, true, true, true, true, true, true, true, true, false, false, false, false, false, false, false, false, false, false, false, false, false] (.take 26 [true, true, true, true, true, true, true, true, true, true, true, true, true, true, true, true, true, true, true, true, true, true, true, true, true, true, true, false, false, false, false, false, false, false, false, false, false, false, false] (.take 27 [true, true, true, true, true, true, true, true, true, true, true, true, true, true, true, true, true, true, true, true, true, true, true, true, true, true, true, true, false, false, false, false, false, false, false, false, false, false, false] (.take 28 [true, true, true, true, true, true, true, true, true, true, true, true, true, true, true, true, true, true, true, true, true, true, true, true, true, true, true, true, true, false, false, false, false, false, false, false, false, false, false] (.take 29 [true, true, true, true, true, true, true, true, true, true, true, true, true, true, true, true, true, true, true, true, true, true, true, true, true, true, true, true, true, true, false, false, false, false, false, false, false, false, false] (.take 30 [true, true, true, true, true, true, true, true, true, true, true, true, true, true, true, true, true, true, true, true, true, true, true, true, true, true, true, true, true, true, true, false, false, false, false, false, false, false, false] (.take 31 [true, true, true, true, true, true, true, true, true, true, true, true, true, true, true, true, true, true, true, true, true, true, true, true, true, true, true, true, true, true, true, true, false, false, false, false, false, false, false] (.take 32 [true, true, true, true, true, true, true, true, true, true, true, true, true, true, true, true, true, true, true, true, true, true, true, true, true, true, true, true, true, true, true, true, true, false, false, false, false, false, false] (.take 33 [true, true, true, true, true, true, true, true, true, true, true, true, true, true, true, true, true, true, true, true, true, true, true, true, true, true, true, true, true, true, true, true, true, true, false, false, false, false, false] (.take 34 [true, true, true, true, true, true, true, true, true, true, true, true, true, true, true, true, true, true, true, true, true, true, true, true, true, true, true, true, true, true, true, true, true, true, true, false, false, false, false] (.take 35 [true, true, true, true, true, true, true, true, true, true, true, true, true, true, true, true, true, true, true, true, true, true, true, true, true, true, true, true, true, true, true, true, true, true, true, true, false, false, false] (.take 36 [true, true, true, true, true, true, true, true, true, true, true, true, true, true, true, true, true, true, true, true, true, true, true, true, true, true, true, true, true, true, true, true, true, true, true, true, true, false, false] (.take 37 [true, true, true, true, true, true, true, true, true, true, true, true, true, true, true, true, true, true, true, true, true, true, true, true, true, true, true, true, true, true, true, true, true, true, true, true, true, true, false] (.take 38 [true, true, true, true, true, true, true, true, true, true, true, true, true, true, true, true, true, true, true, true, true, true, true, true, true, true, true, true, true, true, true, true, true, true, true, true, true, true, true] .done)))))))))))))))))) .stop))))))))))))))))))))) (fun e w => m33_12 R K1 (e 2) (e 3) (e 4) (e 32) (e 33) (e 34) (e 77) w) (by kernel_rfl) (by kernel_rfl) (by kernel_rfl) (by kernel_rfl) (by kernel_rfl) (by kernel_rfl) (kcast (by kernel_rfl) h) hN (by kernel_rfl)
theorem s33_9 {R : VP} {K1 : VP} {Q : EQ} (hN : ∀ e w, (K1 (e 34) w) → Q .normal e w) (hR : ∀ e w, (R (e 6) w) → Q .ret e w) (e : Env) (w : World) (h : m33_9 R K1 (e 2) (e 3) (e 4) (e 32) (e 33) (e 34) w) : W33 k33_9 Q e w := by
  unfold m33_9 at h
  refine seA ?_
  have hN : ∀ e w, (m33_10 R K1 (e 2) (e 3) (e 4) (e 32) (e 33) (e 34) w) → (thenE (W33 k33_10 Q) Q) .normal e w := fun e w h => then_N (s33_10 (R := R) (Q := Q) (K1 := K1) hN e w h)
  have hR : ∀ e w, (R (e 6) w) → (thenE (W33 k33_10 Q) Q) .ret e w := fun e w h => then_R (hR e w h)
  refine block_ok 1 (by kernel_rfl) ?_
  have hN : ∀ e w, (m33_10 R K1 (e 2) (e 3) (e 4) (e 32) (e 33) (e 34) w) → (inBlockE 1 (thenE (W33 k33_10 Q) Q)) .normal e w := fun e w h => block_N (hN e w h)
  have hR : ∀ e w, (R (e 6) w) → (inBlockE 1 (thenE (W33 k33_10 Q) Q)) .ret e w := fun e w h => block_R (hR e w h)
  refine seA ?_
  have hN : ∀ e w, (m33_11 R K1 (e 2) (e 3) (e 4) (e 7) (e 8) (e 32) (e 33) (e 34) w) → (thenE (W33 k33_11 (inBlockE 1 (thenE (W33 k33_10 Q) Q))) (inBlockE 1 (thenE (W33 k33_10 Q) Q))) .normal e w := fun e w h => then_N (s33_11 (R := R) (Q := (inBlockE 1 (thenE (W33 k33_10 Q) Q))) (K1 := K1) hN hR e w h)
  exact rgA 5 (fun e w => m33_11 R K1 (e 2) (e 3) (e 4) (e 7) (e 8) (e 32) (e 33) (e 34) w) h hN
theorem s33_5 {R : VP} {Q : EQ} (hR : ∀ e w, (R (e 6) w) → Q .ret e w) (e : Env) (w : World) (h : m33_5 R (e 6) w) : W33 k33_5 Q e w := by
  unfold m33_5 at h
  exact reA (hR _ _ h)
theorem s33_4 {R : VP} {Q : EQ} (hR : ∀ e w, (R (e 6) w) → Q .ret e w) (e : Env) (w : World) (h : m33_4 R (e 2) (e 3) (e 10) w) : W33 k33_4 Q e w := by
  unfold m33_4 at h
  refine seA ?_
  have hN : ∀ e w, (m33_5 R (e 6) w) → (thenE (W33 k33_5 Q) Q) .normal e w := fun e w h => then_N (s33_5 (R := R) (Q := Q) hR e w h)
  exact rgA 10 (fun e w => m33_5 R (e 6) w) h hN
theorem s33_3 {R : VP} {Q : EQ} (hR : ∀ e w, (R (e 6) w) → Q .ret e w) (e : Env) (w : World) (h : m33_3 R (e 2) (e 3) (e 4) w) : W33 k33_3 Q e w := by
  unfold m33_3 at h
  refine seA ?_
  have hN : ∀ e w, (m33_4 R (e 2) (e 3) (e 10) w) → (thenE (W33 k33_4 Q) Q) .normal e w := fun e w h => then_N (s33_4 (R := R) (Q := Q) hR e w h)
  exact rgA 9 (fun e w => m33_4 R (e 2) (e 3) (e 10) w) h hN
theorem s33_8 {R : VP} {K1 : VP} {Q : EQ} (hN : ∀ e w, (K1 (e 34) w) → Q .normal e w) (hR : ∀ e w, (R (e 6) w) → Q .ret e w) (hX0 : ∀ e w, (m33_3 R (e 2) (e 3) (e 4) w) → Q (.exit 0) e w) (e : Env) (w : World) (h : m33_8 R K1 (e 2) (e 3) (e 4) (e 32) (e 33) (e 34) (e 35) w) : W33 k33_8 Q e w := by
  unfold m33_8 at h
  refine seA ?_
  have hN : ∀ e w, (m33_9 R K1 (e 2) (e 3) (e 4) (e 32) (e 33) (e 34) w) → (thenE (W33 k33_9 Q) Q) .normal e w := fun e w h => then_N (s33_9 (R := R) (Q := Q) (K1 := K1) hN hR e w h)
  have hX0 : ∀ e w, (m33_3 R (e 2) (e 3) (e 4) w) → (thenE (W33 k33_9 Q) Q) (.exit 0) e w := fun e w h => then_X (hX0 e w h)
  refine coA (Operand.tmp 35) h (fun h1 => ?_) (fun h1 => ?_)
  · exact skA (hN _ _ h1)
  · exact exA 0 (hX0 _ _ h1)
theorem s33_7 {R : VP} {K1 : VP} {Q : EQ} (hN : ∀ e w, (K1 (e 34) w) → Q .normal e w) (hR : ∀ e w, (R (e 6) w) → Q .ret e w) (hX0 : ∀ e w, (m33_3 R (e 2) (e 3) (e 4) w) → Q (.exit 0) e w) (e : Env) (w : World) (h : m33_7 R K1 (e 2) (e 3) (e 4) (e 32) (e 33) (e 34) w) : W33 k33_7 Q e w := by
  unfold m33_7 at h
  refine seA ?_
  have hN : ∀ e w, (m33_8 R K1 (e 2) (e 3) (e 4) (e 32) (e 33) (e 34) (e 35) w) → (thenE (W33 k33_8 Q) Q) .normal e w := fun e w h => then_N (s33_8 (R := R) (Q := Q) (K1 := K1) hN hR hX0 e w h)
  exact rgA 4 (fun e w => m33_8 R K1 (e 2) (e 3) (e 4) (e 32) (e 33) (e 34) (e 35) w) h hN
theorem s33_6 {R : VP} {Q : EQ} (hN : ∀ e w, (m33_3 R (e 2) (e 3) (e 4) w) → Q .normal e w) (hR : ∀ e w, (R (e 6) w) → Q .ret e w) (e : Env) (w : World) (h : m33_6 R (e 2) (e 3) (e 4) (e 32) (e 33) (e 34) w) : W33 k33_6 Q e w := by
  unfold m33_6 at h
  refine block_ok 0 (by kernel_rfl) ?_
  have hX0 : ∀ e w, (m33_3 R (e 2) (e 3) (e 4) w) → (inBlockE 0 Q) (.exit 0) e w := fun e w h => inBlock_same (Q := Q) 0 (hN e w h)
  have hR : ∀ e w, (R (e 6) w) → (inBlockE 0 Q) .ret e w := fun e w h => block_R (hR e w h)
  refine loop_ok' (fun (e : Env) => e 34) [2, 3, 4, 32, 33] (by kernel_rfl) (by kernel_rfl) h (fun K e' w' hk h' => ?_)
  have r2 : e' 2 = e 2 := hk 2 (by decide)
  have r3 : e' 3 = e 3 := hk 3 (by decide)
  have r4 : e' 4 = e 4 := hk 4 (by decide)
  have r32 : e' 32 = e 32 := hk 32 (by decide)
  have r33 : e' 33 = e 33 := hk 33 (by decide)
  have hR : ∀ e w, (R (e 6) w) → (thenE (fun (e : Env) w => K (e 34) w) (inBlockE 0 Q)) .ret e w := fun e w h => then_R (hR e w h)
  have hX0 : ∀ e w, (m33_3 R (e 2) (e 3) (e 4) w) → (thenE (fun (e : Env) w => K (e 34) w) (inBlockE 0 Q)) (.exit 0) e w := fun e w h => then_X (hX0 e w h)
  exact s33_7 (R := R) (Q := (thenE (fun (e : Env) w => K (e 34) w) (inBlockE 0 Q))) (K1 := K) (fun _ _ h => then_N h) hR hX0 e' w' (by rw [r2, r3, r4, r32, r33]; exact h')
theorem s33_2 {R : VP} {Q : EQ} (hR : ∀ e w, (R (e 6) w) → Q .ret e w) (e : Env) (w : World) (h : m33_2 R (e 2) (e 3) (e 4) w) : W33 k33_2 Q e w := by
  unfold m33_2 at h
  refine seA ?_
  have hN : ∀ e w, (m33_3 R (e 2) (e 3) (e 4) w) → (thenE (W33 k33_3 Q) Q) .normal e w := fun e w h => then_N (s33_3 (R := R) (Q := Q) hR e w h)
  have hR : ∀ e w, (R (e 6) w) → (thenE (W33 k33_3 Q) Q) .ret e w := fun e w h => then_R (hR e w h)
  refine seA ?_
  have hN : ∀ e w, (m33_6 R (e 2) (e 3) (e 4) (e 32) (e 33) (e 34) w) → (thenE (W33 k33_6 (thenE (W33 k33_3 Q) Q)) (thenE (W33 k33_3 Q) Q)) .normal e w := fun e w h => then_N (s33_6 (R := R) (Q := (thenE (W33 k33_3 Q) Q)) hN hR e w h)
  exact rgA 3 (fun e w => m33_6 R (e 2) (e 3) (e 4) (e 32) (e 33) (e 34) w) h hN
theorem s33_14 {R : VP} {Q : EQ} (hN : ∀ e w, (m33_2 R (e 2) (e 3) (e 4) w) → Q .normal e w) (hR : ∀ e w, (R (e 6) w) → Q .ret e w) (e : Env) (w : World) (h : m33_14 R (e 2) (e 3) (e 4) (e 30) w) : W33 k33_14 Q e w := by
  unfold m33_14 at h
  refine coA (Operand.tmp 30) h (fun h1 => ?_) (fun h1 => ?_)
  · refine seA ?_
    have hN : ∀ e w, (m33_15 R (e 6) w) → (thenE (W33 k33_15 Q) Q) .normal e w := fun e w h => then_N (s33_15 (R := R) (Q := Q) hR e w h)
    exact rgA 2 (fun e w => m33_15 R (e 6) w) h1 hN
  · exact skA (hN _ _ h1)
theorem s33_1 {R : VP} {Q : EQ} (hR : ∀ e w, (R (e 6) w) → Q .ret e w) (e : Env) (w : World) (h : m33_1 R (e 2) (e 3) (e 4) w) : W33 k33_1 Q e w := by
  unfold m33_1 at h
  refine seA ?_
  have hN : ∀ e w, (m33_2 R (e 2) (e 3) (e 4) w) → (thenE (W33 k33_2 Q) Q) .normal e w := fun e w h => then_N (s33_2 (R := R) (Q := Q) hR e w h)
  have hR : ∀ e w, (R (e 6) w) → (thenE (W33 k33_2 Q) Q) .ret e w := fun e w h => then_R (hR e w h)
  refine seA ?_
  have hN : ∀ e w, (m33_14 R (e 2) (e 3) (e 4) (e 30) w) → (thenE (W33 k33_14 (thenE (W33 k33_2 Q) Q)) (thenE (W33 k33_2 Q) Q)) .normal e w := fun e w h => then_N (s33_14 (R := R) (Q := (thenE (W33 k33_2 Q) Q)) hN hR e w h)
  exact rgA 1 (fun e w => m33_14 R (e 2) (e 3) (e 4) (e 30) w) h hN
theorem s33_0 {R : VP} {Q : EQ} (hR : ∀ e w, (R (e 6) w) → Q .ret e w) (e : Env) (w : World) (h : m33_0 R (e 0) (e 1) (e 2) w) : W33 k33_0 Q e w := by
  unfold m33_0 at h
  refine seA ?_
  have hN : ∀ e w, (m33_1 R (e 2) (e 3) (e 4) w) → (thenE (W33 k33_1 Q) Q) .normal e w := fun e w h => then_N (s33_1 (R := R) (Q := Q) hR e w h)
  exact rgA 0 (fun e w => m33_1 R (e 2) (e 3) (e 4) w) h hN
abbrev m33 (R : VP) (g0 s1 mark2 : Value) (w : World) : Prop := m33_0 R g0 s1 mark2 w
theorem s33 (g0 s1 mark2 : Value) {R : VP} {w : World} (h : m33 R g0 s1 mark2 w) :
    Calls Try.prog 33 #[g0, s1, mark2] w fun e w' => ∃ v, e = .returned v ∧ R v w' :=
  calls_of_cwp (st := (fun i => 0)) (c := k33_0) (by kernel_rfl) Try.func33 (by kernel_rfl) (Nat.le_of_ble_eq_true (by kernel_rfl)) (by kernel_rfl)
    (s33_0 (R := R) (Q := endE Try.prog Try.f33 R) (fun e w h => kcast (by kernel_rfl) h) (argsE #[g0, s1, mark2]) w (kcast (by kernel_rfl) h))
/-! ### headgate/sessions.byStart -/
def m34_2 (R : VP) (t4 : Value) (w : World) : Prop :=
  R t4 w
def m34_1 (R : VP) (a2 b3 : Value) (w : World) : Prop :=
  anyDraw w fun w =>
  heldP w fun J =>
  valJ Try.prog J (Instr.fieldAt 33 a2 1) fun t5 =>
  valJ Try.prog J (Instr.loadAt 31 t5) fun t6 =>
  valJ Try.prog J (Instr.indexAt 31 t6 (Value.int IntKind.i64 0)) fun t7 =>
  valJ Try.prog J (Instr.fieldAt 28 t7 0) fun t8 =>
  valJ Try.prog J (Instr.loadAt 3 t8) fun t9 =>
  valJ Try.prog J (Instr.fieldAt 33 b3 1) fun t10 =>
  valJ Try.prog J (Instr.loadAt 31 t10) fun t11 =>
  valJ Try.prog J (Instr.indexAt 31 t11 (Value.int IntKind.i64 0)) fun t12 =>
  valJ Try.prog J (Instr.fieldAt 28 t12 0) fun t13 =>
  valJ Try.prog J (Instr.loadAt 3 t13) fun t14 =>
  valJ Try.prog J (Instr.fieldAt 33 a2 0) fun t16 =>
  valJ Try.prog J (Instr.loadAt 3 t16) fun t17 =>
  valJ Try.prog J (Instr.fieldAt 33 b3 0) fun t18 =>
  valJ Try.prog J (Instr.loadAt 3 t18) fun t19 =>
  callP Try.prog (fnV 48) #[t9, t14] w fun t15 w =>
  stayP J w
  (callP Try.prog (fnV 48) #[t17, t19] w fun t20 w =>
  stayP J w
  (valP Try.prog (Instr.buildSlice 90 2 #[(0, t15), (1, t20)]) w fun t21 w =>
  stayP J w
  (callP Try.prog (fnV 47) #[t21] w fun t22 w =>
  stayP J w
  (m34_2 R t22 w))))
def m34_0 (R : VP) (a0 b1 : Value) (w : World) : Prop :=
  valP Try.prog (Instr.box 33 a0) w fun a2 w =>
  valP Try.prog (Instr.box 33 b1) w fun b3 w =>
  m34_1 R a2 b3 w
abbrev W34 := cwp Try.prog (fun i => 0)
noncomputable def k34_0 : Code := (bodyOf Try.f34)
noncomputable def k34_1 : Code := (c2 k34_0)
noncomputable def k34_2 : Code := (c2 k34_1)
theorem s34_2 {R : VP} {Q : EQ} (hR : ∀ e w, (R (e 4) w) → Q .ret e w) (e : Env) (w : World) (h : m34_2 R (e 4) w) : W34 k34_2 Q e w := by
  unfold m34_2 at h
  exact reA (hR _ _ h)
theorem s34_1 {R : VP} {Q : EQ} (hR : ∀ e w, (R (e 4) w) → Q .ret e w) (e : Env) (w : World) (h : m34_1 R (e 2) (e 3) w) : W34 k34_1 Q e w := by
  unfold m34_1 at h
  refine seA ?_
  have hN : ∀ e w, (m34_2 R (e 4) w) → (thenE (W34 k34_2 Q) Q) .normal e w := fun e w h => then_N (s34_2 (R := R) (Q := Q) hR e w h)
  exact treeJ_ok 1 19 [false, false, false, false, false, false, false, false, false, false, false, false, false, false, false, false, false, false, false] (.take 0 [true, false, false, false, false, false, false, false, false, false, false, false, false, false, false, false, false, false, false] (.take 1 [true, true, false, false, false, false, false, false, false, false, false, false, false, false, false, false, false, false, false] (.take 2 [true, true, true, false, false, false, false, false, false, false, false, false, false, false, false, false, false, false, false] (.take 3 [true, true, true, true, false, false, false, false, false, false, false, false, false, false, false, false, false, false, false] (.take 4 [true, true, true, true, true, false, false, false, false, false, false, false, false, false, false, false, false, false, false] (.take 5 [true, true, true, true, true, true, false, false, false, false, false, false, false, false, false, false, false, false, false] (.take 6 [true, true, true, true, true, true, true, false, false, false, false, false, false, false, false, false, false, false, false] (.take 7 [true, true, true, true, true, true, true, true, false, false, false, false, false, false, false, false, false, false, false] (.take 8 [true, true, true, true, true, true, true, true, true, false, false, false, false, false, false, false, false, false, false] (.take 9 [true, true, true, true, true, true, true, true, true, true, false, false, false, false, false, false, false, false, false] (.take 11 [true, true, true, true, true, true, true, true, true, true, false, true, false, false, false, false, false, false, false] (.take 12 [true, true, true, true, true, true, true, true, true, true, false, true, true, false, false, false, false, false, false] (.take 13 [true, true, true, true, true, true, true, true, true, true, false, true, true, true, false, false, false, false, false] (.take 14 [true, true, true, true, true, true, true, true, true, true, false, true, true, true, true, false, false, false, false] (.alt 10 [true, true, true, true, true, true, true, true, true, true, true, true, true, true, true, false, false, false, false] (.alt 15 [true, true, true, true, true, true, true, true, true, true, true, true, true, true, true, true, false, false, false] (.alt 16 [true, true, true, true, true, true, true, true, true, true, true, true, true, true, true, true, true, false, false] (.alt 17 [true, true, true, true, true, true, true, true, true, true, true, true, true, true, true, true, true, true, false] (.take 18 [true, true, true, true, true, true, true, true, true, true, true, true, true, true, true, true, true, true, true] .done) .stop) .stop) .stop) .stop))))))))))))))) (fun e w => m34_2 R (e 4) w) (by kernel_rfl) (by kernel_rfl) (by kernel_rfl) (by kernel_rfl) (by kernel_rfl) (by kernel_rfl) (kcast (by kernel_rfl) h) hN (by kernel_rfl)
theorem s34_0 {R : VP} {Q : EQ} (hR : ∀ e w, (R (e 4) w) → Q .ret e w) (e : Env) (w : World) (h : m34_0 R (e 0) (e 1) w) : W34 k34_0 Q e w := by
  unfold m34_0 at h
  refine seA ?_
  have hN : ∀ e w, (m34_1 R (e 2) (e 3) w) → (thenE (W34 k34_1 Q) Q) .normal e w := fun e w h => then_N (s34_1 (R := R) (Q := Q) hR e w h)
  exact rgA 0 (fun e w => m34_1 R (e 2) (e 3) w) h hN
abbrev m34 (R : VP) (a0 b1 : Value) (w : World) : Prop := m34_0 R a0 b1 w
theorem s34 (a0 b1 : Value) {R : VP} {w : World} (h : m34 R a0 b1 w) :
    Calls Try.prog 34 #[a0, b1] w fun e w' => ∃ v, e = .returned v ∧ R v w' :=
  calls_of_cwp (st := (fun i => 0)) (c := k34_0) (by kernel_rfl) Try.func34 (by kernel_rfl) (Nat.le_of_ble_eq_true (by kernel_rfl)) (by kernel_rfl)
    (s34_0 (R := R) (Q := endE Try.prog Try.f34 R) (fun e w h => kcast (by kernel_rfl) h) (argsE #[a0, b1]) w (kcast (by kernel_rfl) h))
/-! ### headgate/sessions.byTime -/
def m45_2 (R : VP) (t4 : Value) (w : World) : Prop :=
  R t4 w
def m45_1 (R : VP) (a2 b3 : Value) (w : World) : Prop :=
  anyDraw w fun w =>
  heldP w fun J =>
  valJ Try.prog J (Instr.fieldAt 28 a2 0) fun t5 =>
  valJ Try.prog J (Instr.loadAt 3 t5) fun t6 =>
  valJ Try.prog J (Instr.fieldAt 28 b3 0) fun t7 =>
  valJ Try.prog J (Instr.loadAt 3 t7) fun t8 =>
  valJ Try.prog J (Instr.fieldAt 28 a2 1) fun t10 =>
  valJ Try.prog J (Instr.loadAt 3 t10) fun t11 =>
  valJ Try.prog J (Instr.fieldAt 28 b3 1) fun t12 =>
  valJ Try.prog J (Instr.loadAt 3 t12) fun t13 =>
  callP Try.prog (fnV 48) #[t6, t8] w fun t9 w =>
  stayP J w
  (callP Try.prog (fnV 48) #[t11, t13] w fun t14 w =>
  stayP J w
  (valP Try.prog (Instr.buildSlice 90 2 #[(0, t9), (1, t14)]) w fun t15 w =>
  stayP J w
  (callP Try.prog (fnV 47) #[t15] w fun t16 w =>
  stayP J w
  (m45_2 R t16 w))))
def m45_0 (R : VP) (a0 b1 : Value) (w : World) : Prop :=
  valP Try.prog (Instr.box 28 a0) w fun a2 w =>
  valP Try.prog (Instr.box 28 b1) w fun b3 w =>
  m45_1 R a2 b3 w
abbrev W45 := cwp Try.prog (fun i => 0)
noncomputable def k45_0 : Code := (bodyOf Try.f45)
noncomputable def k45_1 : Code := (c2 k45_0)
noncomputable def k45_2 : Code := (c2 k45_1)
theorem s45_2 {R : VP} {Q : EQ} (hR : ∀ e w, (R (e 4) w) → Q .ret e w) (e : Env) (w : World) (h : m45_2 R (e 4) w) : W45 k45_2 Q e w := by
  unfold m45_2 at h
  exact reA (hR _ _ h)
theorem s45_1 {R : VP} {Q : EQ} (hR : ∀ e w, (R (e 4) w) → Q .ret e w) (e : Env) (w : World) (h : m45_1 R (e 2) (e 3) w) : W45 k45_1 Q e w := by
  unfold m45_1 at h
  refine seA ?_
  have hN : ∀ e w, (m45_2 R (e 4) w) → (thenE (W45 k45_2 Q) Q) .normal e w := fun e w h => then_N (s45_2 (R := R) (Q := Q) hR e w h)
  exact treeJ_ok 1 13 [false, false, false, false, false, false, false, false, false, false, false, false, false] (.take 0 [true, false, false, false, false, false, false, false, false, false, false, false, false] (.take 1 [true, true, false, false, false, false, false, false, false, false, false, false, false] (.take 2 [true, true, true, false, false, false, false, false, false, false, false, false, false] (.take 3 [true, true, true, true, false, false, false, false, false, false, false, false, false] (.take 5 [true, true, true, true, false, true, false, false, false, false, false, false, false] (.take 6 [true, true, true, true, false, true, true, false, false, false, false, false, false] (.take 7 [true, true, true, true, false, true, true, true, false, false, false, false, false] (.take 8 [true, true, true, true, false, true, true, true, true, false, false, false, false] (.alt 4 [true, true, true, true, true, true, true, true, true, false, false, false, false] (.alt 9 [true, true, true, true, true, true, true, true, true, true, false, false, false] (.alt 10 [true, true, true, true, true, true, true, true, true, true, true, false, false] (.alt 11 [true, true, true, true, true, true, true, true, true, true, true, true, false] (.take 12 [true, true, true, true, true, true, true, true, true, true, true, true, true] .done) .stop) .stop) .stop) .stop))))))))) (fun e w => m45_2 R (e 4) w) (by kernel_rfl) (by kernel_rfl) (by kernel_rfl) (by kernel_rfl) (by kernel_rfl) (by kernel_rfl) (kcast (by kernel_rfl) h) hN (by kernel_rfl)
theorem s45_0 {R : VP} {Q : EQ} (hR : ∀ e w, (R (e 4) w) → Q .ret e w) (e : Env) (w : World) (h : m45_0 R (e 0) (e 1) w) : W45 k45_0 Q e w := by
  unfold m45_0 at h
  refine seA ?_
  have hN : ∀ e w, (m45_1 R (e 2) (e 3) w) → (thenE (W45 k45_1 Q) Q) .normal e w := fun e w h => then_N (s45_1 (R := R) (Q := Q) hR e w h)
  exact rgA 0 (fun e w => m45_1 R (e 2) (e 3) w) h hN
abbrev m45 (R : VP) (a0 b1 : Value) (w : World) : Prop := m45_0 R a0 b1 w
theorem s45 (a0 b1 : Value) {R : VP} {w : World} (h : m45 R a0 b1 w) :
    Calls Try.prog 45 #[a0, b1] w fun e w' => ∃ v, e = .returned v ∧ R v w' :=
  calls_of_cwp (st := (fun i => 0)) (c := k45_0) (by kernel_rfl) Try.func45 (by kernel_rfl) (Nat.le_of_ble_eq_true (by kernel_rfl)) (by kernel_rfl)
    (s45_0 (R := R) (Q := endE Try.prog Try.f45 R) (fun e w h => kcast (by kernel_rfl) h) (argsE #[a0, b1]) w (kcast (by kernel_rfl) h))
/-! ### headgate/sessions.Zero -/
def m39_2 (R : VP) (t0 : Value) (w : World) : Prop :=
  valS Try.prog (loadC 26 t0) w fun r0 =>
  R r0 w
def m39_1 (R : VP) (t0 : Value) (w : World) : Prop :=
  valP Try.prog (Instr.build 26 #[(0, (Value.int IntKind.i64 (-1)))]) w fun t1 w =>
  unitP Try.prog (Instr.storeAt 26 t0 t1) w fun _ w =>
  m39_2 R t0 w
def m39_0 (R : VP) (w : World) : Prop :=
  valP Try.prog (Instr.alloc 26 true (.tuple #[])) w fun t0 w =>
  m39_1 R t0 w
abbrev W39 := cwp Try.prog (fun i => 0)
noncomputable def k39_0 : Code := (bodyOf Try.f39)
noncomputable def k39_1 : Code := (c2 k39_0)
noncomputable def k39_2 : Code := (c2 k39_1)
theorem s39_2 {R : VP} {Q : EQ} (hR : ∀ e w, (valS Try.prog (loadC 26 (e 0)) w fun r0 =>
R r0 w) → Q .ret e w) (e : Env) (w : World) (h : m39_2 R (e 0) w) : W39 k39_2 Q e w := by
  unfold m39_2 at h
  exact reA (hR _ _ h)
theorem s39_1 {R : VP} {Q : EQ} (hR : ∀ e w, (valS Try.prog (loadC 26 (e 0)) w fun r0 =>
R r0 w) → Q .ret e w) (e : Env) (w : World) (h : m39_1 R (e 0) w) : W39 k39_1 Q e w := by
  unfold m39_1 at h
  refine seA ?_
  have hN : ∀ e w, (m39_2 R (e 0) w) → (thenE (W39 k39_2 Q) Q) .normal e w := fun e w h => then_N (s39_2 (R := R) (Q := Q) hR e w h)
  exact rgA 1 (fun e w => m39_2 R (e 0) w) h hN
theorem s39_0 {R : VP} {Q : EQ} (hR : ∀ e w, (valS Try.prog (loadC 26 (e 0)) w fun r0 =>
R r0 w) → Q .ret e w) (e : Env) (w : World) (h : m39_0 R w) : W39 k39_0 Q e w := by
  unfold m39_0 at h
  refine seA ?_
  have hN : ∀ e w, (m39_1 R (e 0) w) → (thenE (W39 k39_1 Q) Q) .normal e w := fun e w h => then_N (s39_1 (R := R) (Q := Q) hR e w h)
  exact rgA 0 (fun e w => m39_1 R (e 0) w) h hN
abbrev m39 (R : VP) (w : World) : Prop := m39_0 R w
theorem s39  {R : VP} {w : World} (h : m39 R  w) :
    Calls Try.prog 39 #[] w fun e w' => ∃ v, e = .returned v ∧ R v w' :=
  calls_of_cwp (st := (fun i => 0)) (c := k39_0) (by kernel_rfl) Try.func39 (by kernel_rfl) (Nat.le_of_ble_eq_true (by kernel_rfl)) (by kernel_rfl)
    (s39_0 (R := R) (Q := endE Try.prog Try.f39 R) (fun e w h => kcast (by kernel_rfl) h) (argsE #[]) w (kcast (by kernel_rfl) h))
/-! ### headgate/headgateref28.Over -/
def m20_2 (R : VP) (t6 : Value) (w : World) : Prop :=
  R t6 w
def m20_1 (R : VP) (time1 mark2 g3 : Value) (w : World) : Prop :=
  valP Try.prog (Instr.fieldAt 23 g3 0) w fun t8 w =>
  valP Try.prog (Instr.loadAt 3 t8) w fun t9 w =>
  valP Try.prog (Instr.fieldAt 23 g3 1) w fun t10 w =>
  valP Try.prog (Instr.loadAt 3 t10) w fun t11 w =>
  valP Try.prog (binS BinOp.add 3 (Operand.tmp 9) (Operand.tmp 11) t9 t11) w fun t12 w =>
  valP Try.prog (binS BinOp.sub 3 (Operand.tmp 7) (Operand.tmp 12) mark2 t12) w fun t13 w =>
  valP Try.prog (binS BinOp.gtr 3 (Operand.tmp 13) (Operand.tmp 14) t13 time1) w fun t15 w =>
  m20_2 R t15 w
def m20_0 (R : VP) (g0 time1 mark2 : Value) (w : World) : Prop :=
  valP Try.prog (Instr.box 23 g0) w fun g3 w =>
  m20_1 R time1 mark2 g3 w
abbrev W20 := cwp Try.prog (fun i => 0)
noncomputable def k20_0 : Code := (bodyOf Try.f20)
noncomputable def k20_1 : Code := (c2 k20_0)
noncomputable def k20_2 : Code := (c2 k20_1)
theorem s20_2 {R : VP} {Q : EQ} (hR : ∀ e w, (R (e 6) w) → Q .ret e w) (e : Env) (w : World) (h : m20_2 R (e 6) w) : W20 k20_2 Q e w := by
  unfold m20_2 at h
  exact reA (hR _ _ h)
theorem s20_1 {R : VP} {Q : EQ} (hR : ∀ e w, (R (e 6) w) → Q .ret e w) (e : Env) (w : World) (h : m20_1 R (e 1) (e 2) (e 3) w) : W20 k20_1 Q e w := by
  unfold m20_1 at h
  refine seA ?_
  have hN : ∀ e w, (m20_2 R (e 6) w) → (thenE (W20 k20_2 Q) Q) .normal e w := fun e w h => then_N (s20_2 (R := R) (Q := Q) hR e w h)
  exact rgA 1 (fun e w => m20_2 R (e 6) w) h hN
theorem s20_0 {R : VP} {Q : EQ} (hR : ∀ e w, (R (e 6) w) → Q .ret e w) (e : Env) (w : World) (h : m20_0 R (e 0) (e 1) (e 2) w) : W20 k20_0 Q e w := by
  unfold m20_0 at h
  refine seA ?_
  have hN : ∀ e w, (m20_1 R (e 1) (e 2) (e 3) w) → (thenE (W20 k20_1 Q) Q) .normal e w := fun e w h => then_N (s20_1 (R := R) (Q := Q) hR e w h)
  exact rgA 0 (fun e w => m20_1 R (e 1) (e 2) (e 3) w) h hN
abbrev m20 (R : VP) (g0 time1 mark2 : Value) (w : World) : Prop := m20_0 R g0 time1 mark2 w
theorem s20 (g0 time1 mark2 : Value) {R : VP} {w : World} (h : m20 R g0 time1 mark2 w) :
    Calls Try.prog 20 #[g0, time1, mark2] w fun e w' => ∃ v, e = .returned v ∧ R v w' :=
  calls_of_cwp (st := (fun i => 0)) (c := k20_0) (by kernel_rfl) Try.func20 (by kernel_rfl) (Nat.le_of_ble_eq_true (by kernel_rfl)) (by kernel_rfl)
    (s20_0 (R := R) (Q := endE Try.prog Try.f20 R) (fun e w h => kcast (by kernel_rfl) h) (argsE #[g0, time1, mark2]) w (kcast (by kernel_rfl) h))
/-! ### headgate/headgateref28.Last -/
def m21_2 (R : VP) (t2 : Value) (w : World) : Prop :=
  R t2 w
def m21_1 (R : VP) (s1 : Value) (w : World) : Prop :=
  valP Try.prog (Instr.fieldAt 33 s1 1) w fun t3 w =>
  valP Try.prog (Instr.loadAt 31 t3) w fun t4 w =>
  valP Try.prog (Instr.fieldAt 33 s1 1) w fun t5 w =>
  valP Try.prog (Instr.loadAt 31 t5) w fun t6 w =>
  builtinP Try.prog Builtin.len #[31] 3 #[false] #[t6] w fun t7 w =>
  valP Try.prog (binS BinOp.sub 3 (Operand.tmp 7) (Operand.const (Value.int IntKind.i64 1)) t7 (Value.int IntKind.i64 1)) w fun t8 w =>
  valP Try.prog (Instr.indexAt 31 t4 t8) w fun t9 w =>
  valP Try.prog (Instr.fieldAt 28 t9 0) w fun t10 w =>
  valP Try.prog (Instr.loadAt 3 t10) w fun t11 w =>
  m21_2 R t11 w
def m21_0 (R : VP) (s0 : Value) (w : World) : Prop :=
  valP Try.prog (Instr.box 33 s0) w fun s1 w =>
  m21_1 R s1 w
abbrev W21 := cwp Try.prog (fun i => 0)
noncomputable def k21_0 : Code := (bodyOf Try.f21)
noncomputable def k21_1 : Code := (c2 k21_0)
noncomputable def k21_2 : Code := (c2 k21_1)
theorem s21_2 {R : VP} {Q : EQ} (hR : ∀ e w, (R (e 2) w) → Q .ret e w) (e : Env) (w : World) (h : m21_2 R (e 2) w) : W21 k21_2 Q e w := by
  unfold m21_2 at h
  exact reA (hR _ _ h)
theorem s21_1 {R : VP} {Q : EQ} (hR : ∀ e w, (R (e 2) w) → Q .ret e w) (e : Env) (w : World) (h : m21_1 R (e 1) w) : W21 k21_1 Q e w := by
  unfold m21_1 at h
  refine seA ?_
  have hN : ∀ e w, (m21_2 R (e 2) w) → (thenE (W21 k21_2 Q) Q) .normal e w := fun e w h => then_N (s21_2 (R := R) (Q := Q) hR e w h)
  exact rgA 1 (fun e w => m21_2 R (e 2) w) h hN
theorem s21_0 {R : VP} {Q : EQ} (hR : ∀ e w, (R (e 2) w) → Q .ret e w) (e : Env) (w : World) (h : m21_0 R (e 0) w) : W21 k21_0 Q e w := by
  unfold m21_0 at h
  refine seA ?_
  have hN : ∀ e w, (m21_1 R (e 1) w) → (thenE (W21 k21_1 Q) Q) .normal e w := fun e w h => then_N (s21_1 (R := R) (Q := Q) hR e w h)
  exact rgA 0 (fun e w => m21_1 R (e 1) w) h hN
abbrev m21 (R : VP) (s0 : Value) (w : World) : Prop := m21_0 R s0 w
theorem s21 (s0 : Value) {R : VP} {w : World} (h : m21 R s0 w) :
    Calls Try.prog 21 #[s0] w fun e w' => ∃ v, e = .returned v ∧ R v w' :=
  calls_of_cwp (st := (fun i => 0)) (c := k21_0) (by kernel_rfl) Try.func21 (by kernel_rfl) (Nat.le_of_ble_eq_true (by kernel_rfl)) (by kernel_rfl)
    (s21_0 (R := R) (Q := endE Try.prog Try.f21 R) (fun e w h => kcast (by kernel_rfl) h) (argsE #[s0]) w (kcast (by kernel_rfl) h))
/-! ### headgate/headgateref28.One -/
def m29_2 (R : VP) (t6 : Value) (w : World) : Prop :=
  R t6 w
def m29_1 (R : VP) (g3 a4 b5 : Value) (w : World) : Prop :=
  anyDraw w fun w =>
  heldP w fun J =>
  valJ Try.prog J (Instr.fieldAt 33 a4 0) fun t7 =>
  valJ Try.prog J (Instr.loadAt 3 t7) fun t8 =>
  valJ Try.prog J (Instr.fieldAt 33 b5 0) fun t9 =>
  valJ Try.prog J (Instr.loadAt 3 t9) fun t10 =>
  valJ Try.prog J (binS BinOp.eql 3 (Operand.tmp 8) (Operand.tmp 10) t8 t10) fun t11 =>
  condP t11
  (valJ Try.prog J (Instr.loadAt 33 a4) fun t13 =>
  valJ Try.prog J (Instr.loadAt 33 b5) fun t15 =>
  valJ Try.prog J (Instr.fieldAt 23 g3 0) fun t18 =>
  valJ Try.prog J (Instr.loadAt 3 t18) fun t19 =>
  callP Try.prog (fnV 43) #[t13] w fun t14 w =>
  stayP J w
  (callP Try.prog (fnV 21) #[t15] w fun t16 w =>
  stayP J w
  (valJ Try.prog J (binS BinOp.sub 3 (Operand.tmp 14) (Operand.tmp 16) t14 t16) fun t17 =>
  valJ Try.prog J (binS BinOp.leq 3 (Operand.tmp 17) (Operand.tmp 19) t17 t19) fun t20 =>
  pickP t11 t20 (Value.bool false) fun t21 =>
  condP t21
  (valJ Try.prog J (Instr.loadAt 33 b5) fun t23 =>
  valJ Try.prog J (Instr.loadAt 33 a4) fun t25 =>
  valJ Try.prog J (Instr.fieldAt 23 g3 0) fun t28 =>
  valJ Try.prog J (Instr.loadAt 3 t28) fun t29 =>
  callP Try.prog (fnV 43) #[t23] w fun t24 w =>
  stayP J w
  (callP Try.prog (fnV 21) #[t25] w fun t26 w =>
  stayP J w
  (valJ Try.prog J (binS BinOp.sub 3 (Operand.tmp 24) (Operand.tmp 26) t24 t26) fun t27 =>
  valJ Try.prog J (binS BinOp.leq 3 (Operand.tmp 27) (Operand.tmp 29) t27 t29) fun t30 =>
  pickP t21 t30 (Value.bool false) fun t31 =>
  m29_2 R t31 w)))
  (pickP t21 undef (Value.bool false) fun t31 =>
  m29_2 R t31 w))))
  (pickP t11 undef (Value.bool false) fun t21 =>
  pickP t21 undef (Value.bool false) fun t31 =>
  m29_2 R t31 w)
def m29_0 (R : VP) (g0 a1 b2 : Value) (w : World) : Prop :=
  valP Try.prog (Instr.box 23 g0) w fun g3 w =>
  valP Try.prog (Instr.box 33 a1) w fun a4 w =>
  valP Try.prog (Instr.box 33 b2) w fun b5 w =>
  m29_1 R g3 a4 b5 w
abbrev W29 := cwp Try.prog (fun i => 0)
noncomputable def k29_0 : Code := (bodyOf Try.f29)
noncomputable def k29_1 : Code := (c2 k29_0)
noncomputable def k29_2 : Code := (c2 k29_1)
theorem s29_2 {R : VP} {Q : EQ} (hR : ∀ e w, (R (e 6) w) → Q .ret e w) (e : Env) (w : World) (h : m29_2 R (e 6) w) : W29 k29_2 Q e w := by
  unfold m29_2 at h
  exact reA (hR _ _ h)
theorem s29_1 {R : VP} {Q : EQ} (hR : ∀ e w, (R (e 6) w) → Q .ret e w) (e : Env) (w : World) (h : m29_1 R (e 3) (e 4) (e 5) w) : W29 k29_1 Q e w := by
  unfold m29_1 at h
  refine seA ?_
  have hN : ∀ e w, (m29_2 R (e 6) w) → (thenE (W29 k29_2 Q) Q) .normal e w := fun e w h => then_N (s29_2 (R := R) (Q := Q) hR e w h)
  exact treeJ_ok 1 26 [false, false, false, false, false, false, false, false, false, false, false, false, false, false, false, false, false, false, false, false, false, false, false, false, false, false] (.take 0 [true, false, false, false, false, false, false, false, false, false, false, false, false, false, false, false, false, false, false, false, false, false, false, false, false, false] (.take 1 [true, true, false, false, false, false, false, false, false, false, false, false, false, false, false, false, false, false, false, false, false, false, false, false, false, false] (.take 2 [true, true, true, false, false, false, false, false, false, false, false, false, false, false, false, false, false, false, false, false, false, false, false, false, false, false] (.take 3 [true, true, true, true, false, false, false, false, false, false, false, false, false, false, false, false, false, false, false, false, false, false, false, false, false, false] (.take 4 [true, true, true, true, true, false, false, false, false, false, false, false, false, false, false, false, false, false, false, false, false, false, false, false, false, false] (.take 5 [true, true, true, true, true, true, false, false, false, false, false, false, false, false, false, false, false, false, false, false, false, false, false, false, false, false] (.take 6 [true, true, true, true, true, true, true, false, false, false, false, false, false, false, false, false, false, false, false, false, false, false, false, false, false, false] (.take 8 [true, true, true, true, true, true, true, false, true, false, false, false, false, false, false, false, false, false, false, false, false, false, false, false, false, false] (.take 11 [true, true, true, true, true, true, true, false, true, false, false, true, false, false, false, false, false, false, false, false, false, false, false, false, false, false] (.take 12 [true, true, true, true, true, true, true, false, true, false, false, true, true, false, false, false, false, false, false, false, false, false, false, false, false, false] (.alt 7 [true, true, true, true, true, true, true, true, true, false, false, true, true, false, false, false, false, false, false, false, false, false, false, false, false, false] (.alt 9 [true, true, true, true, true, true, true, true, true, true, false, true, true, false, false, false, false, false, false, false, false, false, false, false, false, false] (.take 10 [true, true, true, true, true, true, true, true, true, true, true, true, true, false, false, false, false, false, false, false, false, false, false, false, false, false] (.take 13 [true, true, true, true, true, true, true, true, true, true, true, true, true, true, false, false, false, false, false, false, false, false, false, false, false, false] (.take 14 [true, true, true, true, true, true, true, true, true, true, true, true, true, true, true, false, false, false, false, false, false, false, false, false, false, false] (.take 15 [true, true, true, true, true, true, true, true, true, true, true, true, true, true, true, true, false, false, false, false, false, false, false, false, false, false] (.take 16 [true, true, true, true, true, true, true, true, true, true, true, true, true, true, true, true, true, false, false, false, false, false, false, false, false, false] (.take 18 [true, true, true, true, true, true, true, true, true, true, true, true, true, true, true, true, true, false, true, false, false, false, false, false, false, false] (.take 21 [true, true, true, true, true, true, true, true, true, true, true, true, true, true, true, true, true, false, true, false, false, true, false, false, false, false] (.take 22 [true, true, true, true, true, true, true, true, true, true, true, true, true, true, true, true, true, false, true, false, false, true, true, false, false, false] (.alt 17 [true, true, true, true, true, true, true, true, true, true, true, true, true, true, true, true, true, true, true, false, false, true, true, false, false, false] (.alt 19 [true, true, true, true, true, true, true, true, true, true, true, true, true, true, true, true, true, true, true, true, false, true, true, false, false, false] (.take 20 [true, true, true, true, true, true, true, true, true, true, true, true, true, true, true, true, true, true, true, true, true, true, true, false, false, false] (.take 23 [true, true, true, true, true, true, true, true, true, true, true, true, true, true, true, true, true, true, true, true, true, true, true, true, false, false] (.take 24 [true, true, true, true, true, true, true, true, true, true, true, true, true, true, true, true, true, true, true, true, true, true, true, true, true, false] (.take 25 [true, true, true, true, true, true, true, true, true, true, true, true, true, true, true, true, true, true, true, true, true, true, true, true, true, true] .done)))) .stop) .stop))))))))) .stop) .stop))))))))))) (fun e w => m29_2 R (e 6) w) (by kernel_rfl) (by kernel_rfl) (by kernel_rfl) (by kernel_rfl) (by kernel_rfl) (by kernel_rfl) (kcast (by kernel_rfl) h) hN (by kernel_rfl)
theorem s29_0 {R : VP} {Q : EQ} (hR : ∀ e w, (R (e 6) w) → Q .ret e w) (e : Env) (w : World) (h : m29_0 R (e 0) (e 1) (e 2) w) : W29 k29_0 Q e w := by
  unfold m29_0 at h
  refine seA ?_
  have hN : ∀ e w, (m29_1 R (e 3) (e 4) (e 5) w) → (thenE (W29 k29_1 Q) Q) .normal e w := fun e w h => then_N (s29_1 (R := R) (Q := Q) hR e w h)
  exact rgA 0 (fun e w => m29_1 R (e 3) (e 4) (e 5) w) h hN
abbrev m29 (R : VP) (g0 a1 b2 : Value) (w : World) : Prop := m29_0 R g0 a1 b2 w
theorem s29 (g0 a1 b2 : Value) {R : VP} {w : World} (h : m29 R g0 a1 b2 w) :
    Calls Try.prog 29 #[g0, a1, b2] w fun e w' => ∃ v, e = .returned v ∧ R v w' :=
  calls_of_cwp (st := (fun i => 0)) (c := k29_0) (by kernel_rfl) Try.func29 (by kernel_rfl) (Nat.le_of_ble_eq_true (by kernel_rfl)) (by kernel_rfl)
    (s29_0 (R := R) (Q := endE Try.prog Try.f29 R) (fun e w h => kcast (by kernel_rfl) h) (argsE #[g0, a1, b2]) w (kcast (by kernel_rfl) h))
/-! ### headgate/headgateref28.before -/
def m38_2 (R : VP) (t4 : Value) (w : World) : Prop :=
  R t4 w
def m38_1 (R : VP) (a2 b3 : Value) (w : World) : Prop :=
  anyDraw w fun w =>
  heldP w fun J =>
  valJ Try.prog J (Instr.loadAt 33 a2) fun t5 =>
  valJ Try.prog J (Instr.loadAt 33 b3) fun t7 =>
  callP Try.prog (fnV 43) #[t5] w fun t6 w =>
  stayP J w
  (callP Try.prog (fnV 43) #[t7] w fun t8 w =>
  stayP J w
  (valJ Try.prog J (binS BinOp.lss 3 (Operand.tmp 6) (Operand.tmp 8) t6 t8) fun t9 =>
  condP t9
  (pickP t9 (Value.bool true) undef fun t23 =>
  m38_2 R t23 w)
  (valJ Try.prog J (Instr.loadAt 33 a2) fun t11 =>
  valJ Try.prog J (Instr.loadAt 33 b3) fun t13 =>
  callP Try.prog (fnV 43) #[t11] w fun t12 w =>
  stayP J w
  (callP Try.prog (fnV 43) #[t13] w fun t14 w =>
  stayP J w
  (valJ Try.prog J (binS BinOp.eql 3 (Operand.tmp 12) (Operand.tmp 14) t12 t14) fun t15 =>
  condP t15
  (valJ Try.prog J (Instr.fieldAt 33 a2 0) fun t17 =>
  valJ Try.prog J (Instr.loadAt 3 t17) fun t18 =>
  valJ Try.prog J (Instr.fieldAt 33 b3 0) fun t19 =>
  valJ Try.prog J (Instr.loadAt 3 t19) fun t20 =>
  valJ Try.prog J (binS BinOp.lss 3 (Operand.tmp 18) (Operand.tmp 20) t18 t20) fun t21 =>
  pickP t15 t21 (Value.bool false) fun t22 =>
  pickP t9 (Value.bool true) t22 fun t23 =>
  m38_2 R t23 w)
  (pickP t15 undef (Value.bool false) fun t22 =>
  pickP t9 (Value.bool true) t22 fun t23 =>
  m38_2 R t23 w))))))
def m38_0 (R : VP) (a0 b1 : Value) (w : World) : Prop :=
  valP Try.prog (Instr.box 33 a0) w fun a2 w =>
  valP Try.prog (Instr.box 33 b1) w fun b3 w =>
  m38_1 R a2 b3 w
abbrev W38 := cwp Try.prog (fun i => 0)
noncomputable def k38_0 : Code := (bodyOf Try.f38)
noncomputable def k38_1 : Code := (c2 k38_0)
noncomputable def k38_2 : Code := (c2 k38_1)
theorem s38_2 {R : VP} {Q : EQ} (hR : ∀ e w, (R (e 4) w) → Q .ret e w) (e : Env) (w : World) (h : m38_2 R (e 4) w) : W38 k38_2 Q e w := by
  unfold m38_2 at h
  exact reA (hR _ _ h)
theorem s38_1 {R : VP} {Q : EQ} (hR : ∀ e w, (R (e 4) w) → Q .ret e w) (e : Env) (w : World) (h : m38_1 R (e 2) (e 3) w) : W38 k38_1 Q e w := by
  unfold m38_1 at h
  refine seA ?_
  have hN : ∀ e w, (m38_2 R (e 4) w) → (thenE (W38 k38_2 Q) Q) .normal e w := fun e w h => then_N (s38_2 (R := R) (Q := Q) hR e w h)
  exact treeJ_ok 1 20 [false, false, false, false, false, false, false, false, false, false, false, false, false, false, false, false, false, false, false, false] (.take 0 [true, false, false, false, false, false, false, false, false, false, false, false, false, false, false, false, false, false, false, false] (.take 2 [true, false, true, false, false, false, false, false, false, false, false, false, false, false, false, false, false, false, false, false] (.alt 1 [true, true, true, false, false, false, false, false, false, false, false, false, false, false, false, false, false, false, false, false] (.alt 3 [true, true, true, true, false, false, false, false, false, false, false, false, false, false, false, false, false, false, false, false] (.take 4 [true, true, true, true, true, false, false, false, false, false, false, false, false, false, false, false, false, false, false, false] (.take 5 [true, true, true, true, true, true, false, false, false, false, false, false, false, false, false, false, false, false, false, false] (.take 6 [true, true, true, true, true, true, true, false, false, false, false, false, false, false, false, false, false, false, false, false] (.take 8 [true, true, true, true, true, true, true, false, true, false, false, false, false, false, false, false, false, false, false, false] (.alt 7 [true, true, true, true, true, true, true, true, true, false, false, false, false, false, false, false, false, false, false, false] (.alt 9 [true, true, true, true, true, true, true, true, true, true, false, false, false, false, false, false, false, false, false, false] (.take 10 [true, true, true, true, true, true, true, true, true, true, true, false, false, false, false, false, false, false, false, false] (.take 11 [true, true, true, true, true, true, true, true, true, true, true, true, false, false, false, false, false, false, false, false] (.take 12 [true, true, true, true, true, true, true, true, true, true, true, true, true, false, false, false, false, false, false, false] (.take 13 [true, true, true, true, true, true, true, true, true, true, true, true, true, true, false, false, false, false, false, false] (.take 14 [true, true, true, true, true, true, true, true, true, true, true, true, true, true, true, false, false, false, false, false] (.take 15 [true, true, true, true, true, true, true, true, true, true, true, true, true, true, true, true, false, false, false, false] (.take 16 [true, true, true, true, true, true, true, true, true, true, true, true, true, true, true, true, true, false, false, false] (.take 17 [true, true, true, true, true, true, true, true, true, true, true, true, true, true, true, true, true, true, false, false] (.take 18 [true, true, true, true, true, true, true, true, true, true, true, true, true, true, true, true, true, true, true, false] (.take 19 [true, true, true, true, true, true, true, true, true, true, true, true, true, true, true, true, true, true, true, true] .done)))))))))) .stop) .stop))))) .stop) .stop))) (fun e w => m38_2 R (e 4) w) (by kernel_rfl) (by kernel_rfl) (by kernel_rfl) (by kernel_rfl) (by kernel_rfl) (by kernel_rfl) (kcast (by kernel_rfl) h) hN (by kernel_rfl)
theorem s38_0 {R : VP} {Q : EQ} (hR : ∀ e w, (R (e 4) w) → Q .ret e w) (e : Env) (w : World) (h : m38_0 R (e 0) (e 1) w) : W38 k38_0 Q e w := by
  unfold m38_0 at h
  refine seA ?_
  have hN : ∀ e w, (m38_1 R (e 2) (e 3) w) → (thenE (W38 k38_1 Q) Q) .normal e w := fun e w h => then_N (s38_1 (R := R) (Q := Q) hR e w h)
  exact rgA 0 (fun e w => m38_1 R (e 2) (e 3) w) h hN
abbrev m38 (R : VP) (a0 b1 : Value) (w : World) : Prop := m38_0 R a0 b1 w
theorem s38 (a0 b1 : Value) {R : VP} {w : World} (h : m38 R a0 b1 w) :
    Calls Try.prog 38 #[a0, b1] w fun e w' => ∃ v, e = .returned v ∧ R v w' :=
  calls_of_cwp (st := (fun i => 0)) (c := k38_0) (by kernel_rfl) Try.func38 (by kernel_rfl) (Nat.le_of_ble_eq_true (by kernel_rfl)) (by kernel_rfl)
    (s38_0 (R := R) (Q := endE Try.prog Try.f38 R) (fun e w h => kcast (by kernel_rfl) h) (argsE #[a0, b1]) w (kcast (by kernel_rfl) h))
/-! ### headgate/headgateref28.ahead -/
def m40_2 (R : VP) (t4 : Value) (w : World) : Prop :=
  R t4 w
def m40_1 (R : VP) (a2 b3 : Value) (w : World) : Prop :=
  valP Try.prog (Instr.fieldAt 28 a2 0) w fun t5 w =>
  valP Try.prog (Instr.loadAt 3 t5) w fun t6 w =>
  valP Try.prog (Instr.fieldAt 28 b3 0) w fun t7 w =>
  valP Try.prog (Instr.loadAt 3 t7) w fun t8 w =>
  valP Try.prog (binS BinOp.lss 3 (Operand.tmp 6) (Operand.tmp 8) t6 t8) w fun t9 w =>
  condP t9
  (pickP t9 (Value.bool true) undef fun t23 =>
  m40_2 R t23 w)
  (valP Try.prog (Instr.fieldAt 28 a2 0) w fun t11 w =>
  valP Try.prog (Instr.loadAt 3 t11) w fun t12 w =>
  valP Try.prog (Instr.fieldAt 28 b3 0) w fun t13 w =>
  valP Try.prog (Instr.loadAt 3 t13) w fun t14 w =>
  valP Try.prog (binS BinOp.eql 3 (Operand.tmp 12) (Operand.tmp 14) t12 t14) w fun t15 w =>
  condP t15
  (valP Try.prog (Instr.fieldAt 28 a2 1) w fun t17 w =>
  valP Try.prog (Instr.loadAt 3 t17) w fun t18 w =>
  valP Try.prog (Instr.fieldAt 28 b3 1) w fun t19 w =>
  valP Try.prog (Instr.loadAt 3 t19) w fun t20 w =>
  valP Try.prog (binS BinOp.lss 3 (Operand.tmp 18) (Operand.tmp 20) t18 t20) w fun t21 w =>
  pickP t15 t21 (Value.bool false) fun t22 =>
  pickP t9 (Value.bool true) t22 fun t23 =>
  m40_2 R t23 w)
  (pickP t15 undef (Value.bool false) fun t22 =>
  pickP t9 (Value.bool true) t22 fun t23 =>
  m40_2 R t23 w))
def m40_0 (R : VP) (a0 b1 : Value) (w : World) : Prop :=
  valP Try.prog (Instr.box 28 a0) w fun a2 w =>
  valP Try.prog (Instr.box 28 b1) w fun b3 w =>
  m40_1 R a2 b3 w
abbrev W40 := cwp Try.prog (fun i => 0)
noncomputable def k40_0 : Code := (bodyOf Try.f40)
noncomputable def k40_1 : Code := (c2 k40_0)
noncomputable def k40_2 : Code := (c2 k40_1)
theorem s40_2 {R : VP} {Q : EQ} (hR : ∀ e w, (R (e 4) w) → Q .ret e w) (e : Env) (w : World) (h : m40_2 R (e 4) w) : W40 k40_2 Q e w := by
  unfold m40_2 at h
  exact reA (hR _ _ h)
theorem s40_1 {R : VP} {Q : EQ} (hR : ∀ e w, (R (e 4) w) → Q .ret e w) (e : Env) (w : World) (h : m40_1 R (e 2) (e 3) w) : W40 k40_1 Q e w := by
  unfold m40_1 at h
  refine seA ?_
  have hN : ∀ e w, (m40_2 R (e 4) w) → (thenE (W40 k40_2 Q) Q) .normal e w := fun e w h => then_N (s40_2 (R := R) (Q := Q) hR e w h)
  exact rgA 1 (fun e w => m40_2 R (e 4) w) h hN
theorem s40_0 {R : VP} {Q : EQ} (hR : ∀ e w, (R (e 4) w) → Q .ret e w) (e : Env) (w : World) (h : m40_0 R (e 0) (e 1) w) : W40 k40_0 Q e w := by
  unfold m40_0 at h
  refine seA ?_
  have hN : ∀ e w, (m40_1 R (e 2) (e 3) w) → (thenE (W40 k40_1 Q) Q) .normal e w := fun e w h => then_N (s40_1 (R := R) (Q := Q) hR e w h)
  exact rgA 0 (fun e w => m40_1 R (e 2) (e 3) w) h hN
abbrev m40 (R : VP) (a0 b1 : Value) (w : World) : Prop := m40_0 R a0 b1 w
theorem s40 (a0 b1 : Value) {R : VP} {w : World} (h : m40 R a0 b1 w) :
    Calls Try.prog 40 #[a0, b1] w fun e w' => ∃ v, e = .returned v ∧ R v w' :=
  calls_of_cwp (st := (fun i => 0)) (c := k40_0) (by kernel_rfl) Try.func40 (by kernel_rfl) (Nat.le_of_ble_eq_true (by kernel_rfl)) (by kernel_rfl)
    (s40_0 (R := R) (Q := endE Try.prog Try.f40 R) (fun e w h => kcast (by kernel_rfl) h) (argsE #[a0, b1]) w (kcast (by kernel_rfl) h))
/-! ### headgate/headgateref28.First -/
def m43_2 (R : VP) (t2 : Value) (w : World) : Prop :=
  R t2 w
def m43_1 (R : VP) (s1 : Value) (w : World) : Prop :=
  valP Try.prog (Instr.fieldAt 33 s1 1) w fun t3 w =>
  valP Try.prog (Instr.loadAt 31 t3) w fun t4 w =>
  valP Try.prog (Instr.indexAt 31 t4 (Value.int IntKind.i64 0)) w fun t5 w =>
  valP Try.prog (Instr.fieldAt 28 t5 0) w fun t6 w =>
  valP Try.prog (Instr.loadAt 3 t6) w fun t7 w =>
  m43_2 R t7 w
def m43_0 (R : VP) (s0 : Value) (w : World) : Prop :=
  valP Try.prog (Instr.box 33 s0) w fun s1 w =>
  m43_1 R s1 w
abbrev W43 := cwp Try.prog (fun i => 0)
noncomputable def k43_0 : Code := (bodyOf Try.f43)
noncomputable def k43_1 : Code := (c2 k43_0)
noncomputable def k43_2 : Code := (c2 k43_1)
theorem s43_2 {R : VP} {Q : EQ} (hR : ∀ e w, (R (e 2) w) → Q .ret e w) (e : Env) (w : World) (h : m43_2 R (e 2) w) : W43 k43_2 Q e w := by
  unfold m43_2 at h
  exact reA (hR _ _ h)
theorem s43_1 {R : VP} {Q : EQ} (hR : ∀ e w, (R (e 2) w) → Q .ret e w) (e : Env) (w : World) (h : m43_1 R (e 1) w) : W43 k43_1 Q e w := by
  unfold m43_1 at h
  refine seA ?_
  have hN : ∀ e w, (m43_2 R (e 2) w) → (thenE (W43 k43_2 Q) Q) .normal e w := fun e w h => then_N (s43_2 (R := R) (Q := Q) hR e w h)
  exact rgA 1 (fun e w => m43_2 R (e 2) w) h hN
theorem s43_0 {R : VP} {Q : EQ} (hR : ∀ e w, (R (e 2) w) → Q .ret e w) (e : Env) (w : World) (h : m43_0 R (e 0) w) : W43 k43_0 Q e w := by
  unfold m43_0 at h
  refine seA ?_
  have hN : ∀ e w, (m43_1 R (e 1) w) → (thenE (W43 k43_1 Q) Q) .normal e w := fun e w h => then_N (s43_1 (R := R) (Q := Q) hR e w h)
  exact rgA 0 (fun e w => m43_1 R (e 1) w) h hN
abbrev m43 (R : VP) (s0 : Value) (w : World) : Prop := m43_0 R s0 w
theorem s43 (s0 : Value) {R : VP} {w : World} (h : m43 R s0 w) :
    Calls Try.prog 43 #[s0] w fun e w' => ∃ v, e = .returned v ∧ R v w' :=
  calls_of_cwp (st := (fun i => 0)) (c := k43_0) (by kernel_rfl) Try.func43 (by kernel_rfl) (Nat.le_of_ble_eq_true (by kernel_rfl)) (by kernel_rfl)
    (s43_0 (R := R) (Q := endE Try.prog Try.f43 R) (fun e w h => kcast (by kernel_rfl) h) (argsE #[s0]) w (kcast (by kernel_rfl) h))
/-! ### headgate/headgateref28.May -/
def m19_2 (R : VP) (t2 : Value) (w : World) : Prop :=
  R t2 w
def m19_1 (R : VP) (g1 : Value) (w : World) : Prop :=
  valP Try.prog (Instr.fieldAt 23 g1 0) w fun t3 w =>
  valP Try.prog (Instr.loadAt 3 t3) w fun t4 w =>
  valP Try.prog (binS BinOp.geq 3 (Operand.tmp 4) (Operand.const (Value.int IntKind.i64 0)) t4 (Value.int IntKind.i64 0)) w fun t5 w =>
  condP t5
  (valP Try.prog (Instr.fieldAt 23 g1 0) w fun t7 w =>
  valP Try.prog (Instr.loadAt 3 t7) w fun t8 w =>
  valP Try.prog (binS BinOp.leq 3 (Operand.tmp 8) (Operand.const (Value.int IntKind.i64 1048576)) t8 (Value.int IntKind.i64 1048576)) w fun t9 w =>
  pickP t5 t9 (Value.bool false) fun t10 =>
  condP t10
  (valP Try.prog (Instr.fieldAt 23 g1 1) w fun t12 w =>
  valP Try.prog (Instr.loadAt 3 t12) w fun t13 w =>
  valP Try.prog (binS BinOp.geq 3 (Operand.tmp 13) (Operand.const (Value.int IntKind.i64 0)) t13 (Value.int IntKind.i64 0)) w fun t14 w =>
  pickP t10 t14 (Value.bool false) fun t15 =>
  condP t15
  (valP Try.prog (Instr.fieldAt 23 g1 1) w fun t17 w =>
  valP Try.prog (Instr.loadAt 3 t17) w fun t18 w =>
  valP Try.prog (binS BinOp.leq 3 (Operand.tmp 18) (Operand.const (Value.int IntKind.i64 1048576)) t18 (Value.int IntKind.i64 1048576)) w fun t19 w =>
  pickP t15 t19 (Value.bool false) fun t20 =>
  m19_2 R t20 w)
  (pickP t15 undef (Value.bool false) fun t20 =>
  m19_2 R t20 w))
  (pickP t10 undef (Value.bool false) fun t15 =>
  condP t15
  (valP Try.prog (Instr.fieldAt 23 g1 1) w fun t17 w =>
  valP Try.prog (Instr.loadAt 3 t17) w fun t18 w =>
  valP Try.prog (binS BinOp.leq 3 (Operand.tmp 18) (Operand.const (Value.int IntKind.i64 1048576)) t18 (Value.int IntKind.i64 1048576)) w fun t19 w =>
  pickP t15 t19 (Value.bool false) fun t20 =>
  m19_2 R t20 w)
  (pickP t15 undef (Value.bool false) fun t20 =>
  m19_2 R t20 w)))
  (pickP t5 undef (Value.bool false) fun t10 =>
  condP t10
  (valP Try.prog (Instr.fieldAt 23 g1 1) w fun t12 w =>
  valP Try.prog (Instr.loadAt 3 t12) w fun t13 w =>
  valP Try.prog (binS BinOp.geq 3 (Operand.tmp 13) (Operand.const (Value.int IntKind.i64 0)) t13 (Value.int IntKind.i64 0)) w fun t14 w =>
  pickP t10 t14 (Value.bool false) fun t15 =>
  condP t15
  (valP Try.prog (Instr.fieldAt 23 g1 1) w fun t17 w =>
  valP Try.prog (Instr.loadAt 3 t17) w fun t18 w =>
  valP Try.prog (binS BinOp.leq 3 (Operand.tmp 18) (Operand.const (Value.int IntKind.i64 1048576)) t18 (Value.int IntKind.i64 1048576)) w fun t19 w =>
  pickP t15 t19 (Value.bool false) fun t20 =>
  m19_2 R t20 w)
  (pickP t15 undef (Value.bool false) fun t20 =>
  m19_2 R t20 w))
  (pickP t10 undef (Value.bool false) fun t15 =>
  condP t15
  (valP Try.prog (Instr.fieldAt 23 g1 1) w fun t17 w =>
  valP Try.prog (Instr.loadAt 3 t17) w fun t18 w =>
  valP Try.prog (binS BinOp.leq 3 (Operand.tmp 18) (Operand.const (Value.int IntKind.i64 1048576)) t18 (Value.int IntKind.i64 1048576)) w fun t19 w =>
  pickP t15 t19 (Value.bool false) fun t20 =>
  m19_2 R t20 w)
  (pickP t15 undef (Value.bool false) fun t20 =>
  m19_2 R t20 w)))
def m19_0 (R : VP) (g0 : Value) (w : World) : Prop :=
  valP Try.prog (Instr.box 23 g0) w fun g1 w =>
  m19_1 R g1 w
abbrev W19 := cwp Try.prog (fun i => 0)
noncomputable def k19_0 : Code := (bodyOf Try.f19)
noncomputable def k19_1 : Code := (c2 k19_0)
noncomputable def k19_2 : Code := (c2 k19_1)
theorem s19_2 {R : VP} {Q : EQ} (hR : ∀ e w, (R (e 2) w) → Q .ret e w) (e : Env) (w : World) (h : m19_2 R (e 2) w) : W19 k19_2 Q e w := by
  unfold m19_2 at h
  exact reA (hR _ _ h)
theorem s19_1 {R : VP} {Q : EQ} (hR : ∀ e w, (R (e 2) w) → Q .ret e w) (e : Env) (w : World) (h : m19_1 R (e 1) w) : W19 k19_1 Q e w := by
  unfold m19_1 at h
  refine seA ?_
  have hN : ∀ e w, (m19_2 R (e 2) w) → (thenE (W19 k19_2 Q) Q) .normal e w := fun e w h => then_N (s19_2 (R := R) (Q := Q) hR e w h)
  exact rgA 1 (fun e w => m19_2 R (e 2) w) h hN
theorem s19_0 {R : VP} {Q : EQ} (hR : ∀ e w, (R (e 2) w) → Q .ret e w) (e : Env) (w : World) (h : m19_0 R (e 0) w) : W19 k19_0 Q e w := by
  unfold m19_0 at h
  refine seA ?_
  have hN : ∀ e w, (m19_1 R (e 1) w) → (thenE (W19 k19_1 Q) Q) .normal e w := fun e w h => then_N (s19_1 (R := R) (Q := Q) hR e w h)
  exact rgA 0 (fun e w => m19_1 R (e 1) w) h hN
abbrev m19 (R : VP) (g0 : Value) (w : World) : Prop := m19_0 R g0 w
theorem s19 (g0 : Value) {R : VP} {w : World} (h : m19 R g0 w) :
    Calls Try.prog 19 #[g0] w fun e w' => ∃ v, e = .returned v ∧ R v w' :=
  calls_of_cwp (st := (fun i => 0)) (c := k19_0) (by kernel_rfl) Try.func19 (by kernel_rfl) (Nat.le_of_ble_eq_true (by kernel_rfl)) (by kernel_rfl)
    (s19_0 (R := R) (Q := endE Try.prog Try.f19 R) (fun e w h => kcast (by kernel_rfl) h) (argsE #[g0]) w (kcast (by kernel_rfl) h))
end Go.Proofs.Ytojgdmcojmllkaa.M
