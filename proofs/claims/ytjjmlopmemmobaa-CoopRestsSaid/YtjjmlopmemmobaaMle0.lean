/- What functions' texts ask of their ends, told over values that have names; printed by a program of this work. -/
import Derived.Test.YtjjmlopmemmobaaFw
import Derived.Test.YtjjmlopmemmobaaProg
namespace Go.Proofs.Ytjjmlopmemmobaa.M
open Go.Proofs.Ytjjmlopmemmobaa.F
set_option linter.unusedVariables false
set_option maxRecDepth 100000
/-! ### headgate/headgatelaw35.CoopNone -/
def m7_4 (R : VP) (t4 : Value) (w : World) : Prop :=
  R t4 w
def m7_3 (R : VP) (m0 p1 c5 l6 e7 : Value) (w : World) : Prop :=
  valP Try.prog (Instr.buildSlice 28 1 #[(0, m0)]) w fun t16 w =>
  callP Try.prog (fnV 24) #[c5, t16] w fun t17 w =>
  valP Try.prog (binS BinOp.eql 26 (Operand.tmp 17) (Operand.const (Value.int IntKind.i64 1)) t17 (Value.int IntKind.i64 1)) w fun t18 w =>
  condP t18
  (callP Try.prog (fnV 29) #[c5, m0] w fun t22 w =>
  valP Try.prog (binS BinOp.eql 26 (Operand.tmp 22) (Operand.const (Value.int IntKind.i64 11)) t22 (Value.int IntKind.i64 11)) w fun t23 w =>
  pickP t18 t23 (Value.bool false) fun t24 =>
  condP t24
  (builtinP Try.prog Builtin.len #[28] 3 #[false] #[l6] w fun t27 w =>
  valP Try.prog (binS BinOp.eql 3 (Operand.tmp 27) (Operand.const (Value.int IntKind.i64 0)) t27 (Value.int IntKind.i64 0)) w fun t28 w =>
  pickP t24 t28 (Value.bool false) fun t29 =>
  condP t29
  (valP Try.prog (binS BinOp.eql 26 (Operand.tmp 31) (Operand.const (Value.int IntKind.i64 11)) e7 (Value.int IntKind.i64 11)) w fun t32 w =>
  pickP t29 t32 (Value.bool false) fun t33 =>
  condP t33
  (callP Try.prog (fnV 33) #[c5, m0, p1] w fun t38 w =>
  valP Try.prog (binS BinOp.eql 26 (Operand.tmp 38) (Operand.const (Value.int IntKind.i64 11)) t38 (Value.int IntKind.i64 11)) w fun t39 w =>
  pickP t33 t39 (Value.bool false) fun t40 =>
  condP t40
  (callP Try.prog (fnV 23) #[c5] w fun t43 w =>
  valP Try.prog (Op.unary UnOp.not t43) w fun t44 w =>
  pickP t40 t44 (Value.bool false) fun t45 =>
  condP t45
  (callP Try.prog (fnV 35) #[c5] w fun t48 w =>
  valP Try.prog (binS BinOp.eql 3 (Operand.tmp 48) (Operand.const (Value.int IntKind.i64 0)) t48 (Value.int IntKind.i64 0)) w fun t49 w =>
  pickP t45 t49 (Value.bool false) fun t50 =>
  condP t50
  (callP Try.prog (fnV 19) #[c5] w fun t53 w =>
  builtinP Try.prog Builtin.len #[28] 3 #[false] #[t53] w fun t54 w =>
  valP Try.prog (binS BinOp.eql 3 (Operand.tmp 54) (Operand.const (Value.int IntKind.i64 0)) t54 (Value.int IntKind.i64 0)) w fun t55 w =>
  pickP t50 t55 (Value.bool false) fun t56 =>
  condP t56
  (callP Try.prog (fnV 20) #[c5] w fun t59 w =>
  builtinP Try.prog Builtin.len #[28] 3 #[false] #[t59] w fun t60 w =>
  valP Try.prog (binS BinOp.eql 3 (Operand.tmp 60) (Operand.const (Value.int IntKind.i64 0)) t60 (Value.int IntKind.i64 0)) w fun t61 w =>
  pickP t56 t61 (Value.bool false) fun t62 =>
  condP t62
  (callP Try.prog (fnV 18) #[c5] w fun t65 w =>
  builtinP Try.prog Builtin.len #[28] 3 #[false] #[t65] w fun t66 w =>
  valP Try.prog (binS BinOp.eql 3 (Operand.tmp 66) (Operand.const (Value.int IntKind.i64 0)) t66 (Value.int IntKind.i64 0)) w fun t67 w =>
  pickP t62 t67 (Value.bool false) fun t68 =>
  condP t68
  (callP Try.prog (fnV 22) #[] w fun t70 w =>
  pickP t68 t70 (Value.bool false) fun t71 =>
  m7_4 R t71 w)
  (pickP t68 undef (Value.bool false) fun t71 =>
  m7_4 R t71 w))
  (pickP t62 undef (Value.bool false) fun t68 =>
  pickP t68 undef (Value.bool false) fun t71 =>
  m7_4 R t71 w))
  (pickP t56 undef (Value.bool false) fun t62 =>
  pickP t62 undef (Value.bool false) fun t68 =>
  pickP t68 undef (Value.bool false) fun t71 =>
  m7_4 R t71 w))
  (pickP t50 undef (Value.bool false) fun t56 =>
  pickP t56 undef (Value.bool false) fun t62 =>
  pickP t62 undef (Value.bool false) fun t68 =>
  pickP t68 undef (Value.bool false) fun t71 =>
  m7_4 R t71 w))
  (pickP t45 undef (Value.bool false) fun t50 =>
  pickP t50 undef (Value.bool false) fun t56 =>
  pickP t56 undef (Value.bool false) fun t62 =>
  pickP t62 undef (Value.bool false) fun t68 =>
  pickP t68 undef (Value.bool false) fun t71 =>
  m7_4 R t71 w))
  (pickP t40 undef (Value.bool false) fun t45 =>
  pickP t45 undef (Value.bool false) fun t50 =>
  pickP t50 undef (Value.bool false) fun t56 =>
  pickP t56 undef (Value.bool false) fun t62 =>
  pickP t62 undef (Value.bool false) fun t68 =>
  pickP t68 undef (Value.bool false) fun t71 =>
  m7_4 R t71 w))
  (pickP t33 undef (Value.bool false) fun t40 =>
  pickP t40 undef (Value.bool false) fun t45 =>
  pickP t45 undef (Value.bool false) fun t50 =>
  pickP t50 undef (Value.bool false) fun t56 =>
  pickP t56 undef (Value.bool false) fun t62 =>
  pickP t62 undef (Value.bool false) fun t68 =>
  pickP t68 undef (Value.bool false) fun t71 =>
  m7_4 R t71 w))
  (pickP t29 undef (Value.bool false) fun t33 =>
  pickP t33 undef (Value.bool false) fun t40 =>
  pickP t40 undef (Value.bool false) fun t45 =>
  pickP t45 undef (Value.bool false) fun t50 =>
  pickP t50 undef (Value.bool false) fun t56 =>
  pickP t56 undef (Value.bool false) fun t62 =>
  pickP t62 undef (Value.bool false) fun t68 =>
  pickP t68 undef (Value.bool false) fun t71 =>
  m7_4 R t71 w))
  (pickP t24 undef (Value.bool false) fun t29 =>
  pickP t29 undef (Value.bool false) fun t33 =>
  pickP t33 undef (Value.bool false) fun t40 =>
  pickP t40 undef (Value.bool false) fun t45 =>
  pickP t45 undef (Value.bool false) fun t50 =>
  pickP t50 undef (Value.bool false) fun t56 =>
  pickP t56 undef (Value.bool false) fun t62 =>
  pickP t62 undef (Value.bool false) fun t68 =>
  pickP t68 undef (Value.bool false) fun t71 =>
  m7_4 R t71 w))
  (pickP t18 undef (Value.bool false) fun t24 =>
  pickP t24 undef (Value.bool false) fun t29 =>
  pickP t29 undef (Value.bool false) fun t33 =>
  pickP t33 undef (Value.bool false) fun t40 =>
  pickP t40 undef (Value.bool false) fun t45 =>
  pickP t45 undef (Value.bool false) fun t50 =>
  pickP t50 undef (Value.bool false) fun t56 =>
  pickP t56 undef (Value.bool false) fun t62 =>
  pickP t62 undef (Value.bool false) fun t68 =>
  pickP t68 undef (Value.bool false) fun t71 =>
  m7_4 R t71 w)
def m7_2 (R : VP) (m0 p1 c5 : Value) (w : World) : Prop :=
  callP Try.prog (fnV 25) #[c5, m0] w fun t11 w =>
  valP Try.prog (Instr.extract t11 0) w fun t12 w =>
  valP Try.prog (Instr.extract t11 1) w fun t13 w =>
  m7_3 R m0 p1 c5 t12 t13 w
def m7_1 (R : VP) (m0 p1 : Value) (w : World) : Prop :=
  m7_2 R m0 p1 (Value.pointer none) w
def m7_0 (R : VP) (m0 p1 : Value) (w : World) : Prop :=
  m7_1 R m0 p1 w
abbrev W7 := cwp Try.prog (fun i => 0)
noncomputable def k7_0 : Code := (bodyOf Try.f7)
noncomputable def k7_1 : Code := (c2 k7_0)
noncomputable def k7_2 : Code := (c2 k7_1)
noncomputable def k7_3 : Code := (c2 k7_2)
noncomputable def k7_4 : Code := (c2 k7_3)
theorem s7_4 {R : VP} {Q : EQ} (hR : ∀ e w, (R (e 4) w) → Q .ret e w) (e : Env) (w : World) (h : m7_4 R (e 4) w) : W7 k7_4 Q e w := by
  unfold m7_4 at h
  exact reA (hR _ _ h)
theorem s7_3 {R : VP} {Q : EQ} (hR : ∀ e w, (R (e 4) w) → Q .ret e w) (e : Env) (w : World) (h : m7_3 R (e 0) (e 1) (e 5) (e 6) (e 7) w) : W7 k7_3 Q e w := by
  unfold m7_3 at h
  refine seA ?_
  have hN : ∀ e w, (m7_4 R (e 4) w) → (thenE (W7 k7_4 Q) Q) .normal e w := fun e w h => then_N (s7_4 (R := R) (Q := Q) hR e w h)
  exact rgK 3 (fun e w => m7_4 R (e 4) w) h hN
theorem s7_2 {R : VP} {Q : EQ} (hR : ∀ e w, (R (e 4) w) → Q .ret e w) (e : Env) (w : World) (h : m7_2 R (e 0) (e 1) (e 5) w) : W7 k7_2 Q e w := by
  unfold m7_2 at h
  refine seA ?_
  have hN : ∀ e w, (m7_3 R (e 0) (e 1) (e 5) (e 6) (e 7) w) → (thenE (W7 k7_3 Q) Q) .normal e w := fun e w h => then_N (s7_3 (R := R) (Q := Q) hR e w h)
  exact rgA 2 (fun e w => m7_3 R (e 0) (e 1) (e 5) (e 6) (e 7) w) h hN
theorem s7_1 {R : VP} {Q : EQ} (hR : ∀ e w, (R (e 4) w) → Q .ret e w) (e : Env) (w : World) (h : m7_1 R (e 0) (e 1) w) : W7 k7_1 Q e w := by
  unfold m7_1 at h
  refine seA ?_
  have hN : ∀ e w, (m7_2 R (e 0) (e 1) (e 5) w) → (thenE (W7 k7_2 Q) Q) .normal e w := fun e w h => then_N (s7_2 (R := R) (Q := Q) hR e w h)
  exact rgA 1 (fun e w => m7_2 R (e 0) (e 1) (e 5) w) h hN
theorem s7_0 {R : VP} {Q : EQ} (hR : ∀ e w, (R (e 4) w) → Q .ret e w) (e : Env) (w : World) (h : m7_0 R (e 0) (e 1) w) : W7 k7_0 Q e w := by
  unfold m7_0 at h
  refine seA ?_
  have hN : ∀ e w, (m7_1 R (e 0) (e 1) w) → (thenE (W7 k7_1 Q) Q) .normal e w := fun e w h => then_N (s7_1 (R := R) (Q := Q) hR e w h)
  exact rgA 0 (fun e w => m7_1 R (e 0) (e 1) w) h hN
abbrev m7 (R : VP) (m0 p1 : Value) (w : World) : Prop := m7_0 R m0 p1 w
theorem s7 (m0 p1 : Value) {R : VP} {w : World} (h : m7 R m0 p1 w) :
    Calls Try.prog 7 #[m0, p1] w fun e w' => ∃ v, e = .returned v ∧ R v w' :=
  calls_of_cwp (st := (fun i => 0)) (c := k7_0) (by kernel_rfl) Try.func7 (by kernel_rfl) (Nat.le_of_ble_eq_true (by kernel_rfl)) (by kernel_rfl)
    (s7_0 (R := R) (Q := endE Try.prog Try.f7 R) (fun e w h => kcast (by kernel_rfl) h) (argsE #[m0, p1]) w (kcast (by kernel_rfl) h))
end Go.Proofs.Ytjjmlopmemmobaa.M
