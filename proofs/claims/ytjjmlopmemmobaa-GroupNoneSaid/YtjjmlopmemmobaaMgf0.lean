/- What functions' texts ask of their ends, told over values that have names; printed by a program of this work. -/
import Derived.Test.YtjjmlopmemmobaaFw
import Derived.Test.YtjjmlopmemmobaaProg
namespace Go.Proofs.Ytjjmlopmemmobaa.M
open Go.Proofs.Ytjjmlopmemmobaa.F
set_option linter.unusedVariables false
set_option maxRecDepth 100000
/-! ### headgate/headgatelaw10.GroupNone -/
def m13_5 (R : VP) (t6 : Value) (w : World) : Prop :=
  R t6 w
def m13_4 (R : VP) (a0 b1 c2 g7 x8 y9 e10 n11 l12 f13 : Value) (w : World) : Prop :=
  valP Try.prog (binS BinOp.eql 3 (Operand.tmp 28) (Operand.const (Value.int IntKind.i64 0)) x8 (Value.int IntKind.i64 0)) w fun t29 w =>
  condP t29
  (valP Try.prog (binS BinOp.eql 3 (Operand.tmp 31) (Operand.const (Value.int IntKind.i64 0)) y9 (Value.int IntKind.i64 0)) w fun t32 w =>
  pickP t29 t32 (Value.bool false) fun t33 =>
  condP t33
  (valP Try.prog (binS BinOp.eql 26 (Operand.tmp 35) (Operand.const (Value.int IntKind.i64 1)) e10 (Value.int IntKind.i64 1)) w fun t36 w =>
  pickP t33 t36 (Value.bool false) fun t37 =>
  condP t37
  (valP Try.prog (binS BinOp.eql 3 (Operand.tmp 39) (Operand.const (Value.int IntKind.i64 0)) n11 (Value.int IntKind.i64 0)) w fun t40 w =>
  pickP t37 t40 (Value.bool false) fun t41 =>
  condP t41
  (builtinP Try.prog Builtin.len #[28] 3 #[false] #[l12] w fun t44 w =>
  valP Try.prog (binS BinOp.eql 3 (Operand.tmp 44) (Operand.const (Value.int IntKind.i64 0)) t44 (Value.int IntKind.i64 0)) w fun t45 w =>
  pickP t41 t45 (Value.bool false) fun t46 =>
  condP t46
  (valP Try.prog (binS BinOp.eql 26 (Operand.tmp 48) (Operand.const (Value.int IntKind.i64 11)) f13 (Value.int IntKind.i64 11)) w fun t49 w =>
  pickP t46 t49 (Value.bool false) fun t50 =>
  condP t50
  (callP Try.prog (fnV 48) #[g7, a0, b1] w fun t55 w =>
  valP Try.prog (binS BinOp.eql 26 (Operand.tmp 55) (Operand.const (Value.int IntKind.i64 11)) t55 (Value.int IntKind.i64 11)) w fun t56 w =>
  pickP t50 t56 (Value.bool false) fun t57 =>
  condP t57
  (callP Try.prog (fnV 49) #[g7, a0] w fun t61 w =>
  valP Try.prog (binS BinOp.eql 26 (Operand.tmp 61) (Operand.const (Value.int IntKind.i64 11)) t61 (Value.int IntKind.i64 11)) w fun t62 w =>
  pickP t57 t62 (Value.bool false) fun t63 =>
  condP t63
  (callP Try.prog (fnV 42) #[g7] w fun t66 w =>
  valP Try.prog (Op.unary UnOp.not t66) w fun t67 w =>
  pickP t63 t67 (Value.bool false) fun t68 =>
  condP t68
  (callP Try.prog (fnV 47) #[g7, a0, b1, c2] w fun t74 w =>
  valP Try.prog (binS BinOp.eql 26 (Operand.tmp 74) (Operand.const (Value.int IntKind.i64 11)) t74 (Value.int IntKind.i64 11)) w fun t75 w =>
  pickP t68 t75 (Value.bool false) fun t76 =>
  condP t76
  (callP Try.prog (fnV 44) #[g7] w fun t79 w =>
  valP Try.prog (binS BinOp.eql 3 (Operand.tmp 79) (Operand.const (Value.int IntKind.i64 0)) t79 (Value.int IntKind.i64 0)) w fun t80 w =>
  pickP t76 t80 (Value.bool false) fun t81 =>
  condP t81
  (callP Try.prog (fnV 45) #[g7] w fun t84 w =>
  valP Try.prog (binS BinOp.eql 3 (Operand.tmp 84) (Operand.const (Value.int IntKind.i64 0)) t84 (Value.int IntKind.i64 0)) w fun t85 w =>
  pickP t81 t85 (Value.bool false) fun t86 =>
  condP t86
  (callP Try.prog (fnV 39) #[g7] w fun t89 w =>
  builtinP Try.prog Builtin.len #[66] 3 #[false] #[t89] w fun t90 w =>
  valP Try.prog (binS BinOp.eql 3 (Operand.tmp 90) (Operand.const (Value.int IntKind.i64 0)) t90 (Value.int IntKind.i64 0)) w fun t91 w =>
  pickP t86 t91 (Value.bool false) fun t92 =>
  condP t92
  (callP Try.prog (fnV 46) #[g7] w fun t95 w =>
  builtinP Try.prog Builtin.len #[28] 3 #[false] #[t95] w fun t96 w =>
  valP Try.prog (binS BinOp.eql 3 (Operand.tmp 96) (Operand.const (Value.int IntKind.i64 0)) t96 (Value.int IntKind.i64 0)) w fun t97 w =>
  pickP t92 t97 (Value.bool false) fun t98 =>
  condP t98
  (callP Try.prog (fnV 40) #[] w fun t100 w =>
  pickP t98 t100 (Value.bool false) fun t101 =>
  m13_5 R t101 w)
  (pickP t98 undef (Value.bool false) fun t101 =>
  m13_5 R t101 w))
  (pickP t92 undef (Value.bool false) fun t98 =>
  pickP t98 undef (Value.bool false) fun t101 =>
  m13_5 R t101 w))
  (pickP t86 undef (Value.bool false) fun t92 =>
  pickP t92 undef (Value.bool false) fun t98 =>
  pickP t98 undef (Value.bool false) fun t101 =>
  m13_5 R t101 w))
  (pickP t81 undef (Value.bool false) fun t86 =>
  pickP t86 undef (Value.bool false) fun t92 =>
  pickP t92 undef (Value.bool false) fun t98 =>
  pickP t98 undef (Value.bool false) fun t101 =>
  m13_5 R t101 w))
  (pickP t76 undef (Value.bool false) fun t81 =>
  pickP t81 undef (Value.bool false) fun t86 =>
  pickP t86 undef (Value.bool false) fun t92 =>
  pickP t92 undef (Value.bool false) fun t98 =>
  pickP t98 undef (Value.bool false) fun t101 =>
  m13_5 R t101 w))
  (pickP t68 undef (Value.bool false) fun t76 =>
  pickP t76 undef (Value.bool false) fun t81 =>
  pickP t81 undef (Value.bool false) fun t86 =>
  pickP t86 undef (Value.bool false) fun t92 =>
  pickP t92 undef (Value.bool false) fun t98 =>
  pickP t98 undef (Value.bool false) fun t101 =>
  m13_5 R t101 w))
  (pickP t63 undef (Value.bool false) fun t68 =>
  pickP t68 undef (Value.bool false) fun t76 =>
  pickP t76 undef (Value.bool false) fun t81 =>
  pickP t81 undef (Value.bool false) fun t86 =>
  pickP t86 undef (Value.bool false) fun t92 =>
  pickP t92 undef (Value.bool false) fun t98 =>
  pickP t98 undef (Value.bool false) fun t101 =>
  m13_5 R t101 w))
  (pickP t57 undef (Value.bool false) fun t63 =>
  pickP t63 undef (Value.bool false) fun t68 =>
  pickP t68 undef (Value.bool false) fun t76 =>
  pickP t76 undef (Value.bool false) fun t81 =>
  pickP t81 undef (Value.bool false) fun t86 =>
  pickP t86 undef (Value.bool false) fun t92 =>
  pickP t92 undef (Value.bool false) fun t98 =>
  pickP t98 undef (Value.bool false) fun t101 =>
  m13_5 R t101 w))
  (pickP t50 undef (Value.bool false) fun t57 =>
  pickP t57 undef (Value.bool false) fun t63 =>
  pickP t63 undef (Value.bool false) fun t68 =>
  pickP t68 undef (Value.bool false) fun t76 =>
  pickP t76 undef (Value.bool false) fun t81 =>
  pickP t81 undef (Value.bool false) fun t86 =>
  pickP t86 undef (Value.bool false) fun t92 =>
  pickP t92 undef (Value.bool false) fun t98 =>
  pickP t98 undef (Value.bool false) fun t101 =>
  m13_5 R t101 w))
  (pickP t46 undef (Value.bool false) fun t50 =>
  pickP t50 undef (Value.bool false) fun t57 =>
  pickP t57 undef (Value.bool false) fun t63 =>
  pickP t63 undef (Value.bool false) fun t68 =>
  pickP t68 undef (Value.bool false) fun t76 =>
  pickP t76 undef (Value.bool false) fun t81 =>
  pickP t81 undef (Value.bool false) fun t86 =>
  pickP t86 undef (Value.bool false) fun t92 =>
  pickP t92 undef (Value.bool false) fun t98 =>
  pickP t98 undef (Value.bool false) fun t101 =>
  m13_5 R t101 w))
  (pickP t41 undef (Value.bool false) fun t46 =>
  pickP t46 undef (Value.bool false) fun t50 =>
  pickP t50 undef (Value.bool false) fun t57 =>
  pickP t57 undef (Value.bool false) fun t63 =>
  pickP t63 undef (Value.bool false) fun t68 =>
  pickP t68 undef (Value.bool false) fun t76 =>
  pickP t76 undef (Value.bool false) fun t81 =>
  pickP t81 undef (Value.bool false) fun t86 =>
  pickP t86 undef (Value.bool false) fun t92 =>
  pickP t92 undef (Value.bool false) fun t98 =>
  pickP t98 undef (Value.bool false) fun t101 =>
  m13_5 R t101 w))
  (pickP t37 undef (Value.bool false) fun t41 =>
  pickP t41 undef (Value.bool false) fun t46 =>
  pickP t46 undef (Value.bool false) fun t50 =>
  pickP t50 undef (Value.bool false) fun t57 =>
  pickP t57 undef (Value.bool false) fun t63 =>
  pickP t63 undef (Value.bool false) fun t68 =>
  pickP t68 undef (Value.bool false) fun t76 =>
  pickP t76 undef (Value.bool false) fun t81 =>
  pickP t81 undef (Value.bool false) fun t86 =>
  pickP t86 undef (Value.bool false) fun t92 =>
  pickP t92 undef (Value.bool false) fun t98 =>
  pickP t98 undef (Value.bool false) fun t101 =>
  m13_5 R t101 w))
  (pickP t33 undef (Value.bool false) fun t37 =>
  pickP t37 undef (Value.bool false) fun t41 =>
  pickP t41 undef (Value.bool false) fun t46 =>
  pickP t46 undef (Value.bool false) fun t50 =>
  pickP t50 undef (Value.bool false) fun t57 =>
  pickP t57 undef (Value.bool false) fun t63 =>
  pickP t63 undef (Value.bool false) fun t68 =>
  pickP t68 undef (Value.bool false) fun t76 =>
  pickP t76 undef (Value.bool false) fun t81 =>
  pickP t81 undef (Value.bool false) fun t86 =>
  pickP t86 undef (Value.bool false) fun t92 =>
  pickP t92 undef (Value.bool false) fun t98 =>
  pickP t98 undef (Value.bool false) fun t101 =>
  m13_5 R t101 w))
  (pickP t29 undef (Value.bool false) fun t33 =>
  pickP t33 undef (Value.bool false) fun t37 =>
  pickP t37 undef (Value.bool false) fun t41 =>
  pickP t41 undef (Value.bool false) fun t46 =>
  pickP t46 undef (Value.bool false) fun t50 =>
  pickP t50 undef (Value.bool false) fun t57 =>
  pickP t57 undef (Value.bool false) fun t63 =>
  pickP t63 undef (Value.bool false) fun t68 =>
  pickP t68 undef (Value.bool false) fun t76 =>
  pickP t76 undef (Value.bool false) fun t81 =>
  pickP t81 undef (Value.bool false) fun t86 =>
  pickP t86 undef (Value.bool false) fun t92 =>
  pickP t92 undef (Value.bool false) fun t98 =>
  pickP t98 undef (Value.bool false) fun t101 =>
  m13_5 R t101 w)
def m13_3 (R : VP) (a0 b1 c2 g7 x8 y9 e10 : Value) (w : World) : Prop :=
  callP Try.prog (fnV 41) #[g7, a0] w fun t24 w =>
  valP Try.prog (Instr.extract t24 0) w fun t25 w =>
  valP Try.prog (Instr.extract t24 1) w fun t26 w =>
  valP Try.prog (Instr.extract t24 2) w fun t27 w =>
  m13_4 R a0 b1 c2 g7 x8 y9 e10 t25 t26 t27 w
def m13_2 (R : VP) (a0 b1 c2 g7 : Value) (w : World) : Prop :=
  callP Try.prog (fnV 54) #[g7, a0] w fun t17 w =>
  valP Try.prog (Instr.extract t17 0) w fun t18 w =>
  valP Try.prog (Instr.extract t17 1) w fun t19 w =>
  valP Try.prog (Instr.extract t17 2) w fun t20 w =>
  m13_3 R a0 b1 c2 g7 t18 t19 t20 w
def m13_1 (R : VP) (a0 b1 c2 : Value) (w : World) : Prop :=
  m13_2 R a0 b1 c2 (Value.pointer none) w
def m13_0 (R : VP) (a0 b1 c2 : Value) (w : World) : Prop :=
  m13_1 R a0 b1 c2 w
abbrev W13 := cwp Try.prog (fun i => 0)
noncomputable def k13_0 : Code := (bodyOf Try.f13)
noncomputable def k13_1 : Code := (c2 k13_0)
noncomputable def k13_2 : Code := (c2 k13_1)
noncomputable def k13_3 : Code := (c2 k13_2)
noncomputable def k13_4 : Code := (c2 k13_3)
noncomputable def k13_5 : Code := (c2 k13_4)
theorem s13_5 {R : VP} {Q : EQ} (hR : ∀ e w, (R (e 6) w) → Q .ret e w) (e : Env) (w : World) (h : m13_5 R (e 6) w) : W13 k13_5 Q e w := by
  unfold m13_5 at h
  exact reA (hR _ _ h)
theorem s13_4 {R : VP} {Q : EQ} (hR : ∀ e w, (R (e 6) w) → Q .ret e w) (e : Env) (w : World) (h : m13_4 R (e 0) (e 1) (e 2) (e 7) (e 8) (e 9) (e 10) (e 11) (e 12) (e 13) w) : W13 k13_4 Q e w := by
  unfold m13_4 at h
  refine seA ?_
  have hN : ∀ e w, (m13_5 R (e 6) w) → (thenE (W13 k13_5 Q) Q) .normal e w := fun e w h => then_N (s13_5 (R := R) (Q := Q) hR e w h)
  exact rgK 4 (fun e w => m13_5 R (e 6) w) h hN
theorem s13_3 {R : VP} {Q : EQ} (hR : ∀ e w, (R (e 6) w) → Q .ret e w) (e : Env) (w : World) (h : m13_3 R (e 0) (e 1) (e 2) (e 7) (e 8) (e 9) (e 10) w) : W13 k13_3 Q e w := by
  unfold m13_3 at h
  refine seA ?_
  have hN : ∀ e w, (m13_4 R (e 0) (e 1) (e 2) (e 7) (e 8) (e 9) (e 10) (e 11) (e 12) (e 13) w) → (thenE (W13 k13_4 Q) Q) .normal e w := fun e w h => then_N (s13_4 (R := R) (Q := Q) hR e w h)
  exact rgA 3 (fun e w => m13_4 R (e 0) (e 1) (e 2) (e 7) (e 8) (e 9) (e 10) (e 11) (e 12) (e 13) w) h hN
theorem s13_2 {R : VP} {Q : EQ} (hR : ∀ e w, (R (e 6) w) → Q .ret e w) (e : Env) (w : World) (h : m13_2 R (e 0) (e 1) (e 2) (e 7) w) : W13 k13_2 Q e w := by
  unfold m13_2 at h
  refine seA ?_
  have hN : ∀ e w, (m13_3 R (e 0) (e 1) (e 2) (e 7) (e 8) (e 9) (e 10) w) → (thenE (W13 k13_3 Q) Q) .normal e w := fun e w h => then_N (s13_3 (R := R) (Q := Q) hR e w h)
  exact rgA 2 (fun e w => m13_3 R (e 0) (e 1) (e 2) (e 7) (e 8) (e 9) (e 10) w) h hN
theorem s13_1 {R : VP} {Q : EQ} (hR : ∀ e w, (R (e 6) w) → Q .ret e w) (e : Env) (w : World) (h : m13_1 R (e 0) (e 1) (e 2) w) : W13 k13_1 Q e w := by
  unfold m13_1 at h
  refine seA ?_
  have hN : ∀ e w, (m13_2 R (e 0) (e 1) (e 2) (e 7) w) → (thenE (W13 k13_2 Q) Q) .normal e w := fun e w h => then_N (s13_2 (R := R) (Q := Q) hR e w h)
  exact rgA 1 (fun e w => m13_2 R (e 0) (e 1) (e 2) (e 7) w) h hN
theorem s13_0 {R : VP} {Q : EQ} (hR : ∀ e w, (R (e 6) w) → Q .ret e w) (e : Env) (w : World) (h : m13_0 R (e 0) (e 1) (e 2) w) : W13 k13_0 Q e w := by
  unfold m13_0 at h
  refine seA ?_
  have hN : ∀ e w, (m13_1 R (e 0) (e 1) (e 2) w) → (thenE (W13 k13_1 Q) Q) .normal e w := fun e w h => then_N (s13_1 (R := R) (Q := Q) hR e w h)
  exact rgA 0 (fun e w => m13_1 R (e 0) (e 1) (e 2) w) h hN
abbrev m13 (R : VP) (a0 b1 c2 : Value) (w : World) : Prop := m13_0 R a0 b1 c2 w
theorem s13 (a0 b1 c2 : Value) {R : VP} {w : World} (h : m13 R a0 b1 c2 w) :
    Calls Try.prog 13 #[a0, b1, c2] w fun e w' => ∃ v, e = .returned v ∧ R v w' :=
  calls_of_cwp (st := (fun i => 0)) (c := k13_0) (by kernel_rfl) Try.func13 (by kernel_rfl) (Nat.le_of_ble_eq_true (by kernel_rfl)) (by kernel_rfl)
    (s13_0 (R := R) (Q := endE Try.prog Try.f13 R) (fun e w h => kcast (by kernel_rfl) h) (argsE #[a0, b1, c2]) w (kcast (by kernel_rfl) h))
end Go.Proofs.Ytjjmlopmemmobaa.M
