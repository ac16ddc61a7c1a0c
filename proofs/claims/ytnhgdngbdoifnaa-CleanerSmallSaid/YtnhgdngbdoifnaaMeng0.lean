/- What functions' texts ask of their ends, told over values that have names; printed by a program of this work. -/
import Derived.Test.YtnhgdngbdoifnaaFw
import Derived.Test.YtnhgdngbdoifnaaProg
namespace Go.Proofs.Ytnhgdngbdoifnaa.M
open Go.Proofs.Ytnhgdngbdoifnaa.F
set_option linter.unusedVariables false
set_option maxRecDepth 100000
/-! ### headgate/headgateref16.in -/
def m28_2 (R : VP) (t2 : Value) (w : World) : Prop :=
  R t2 w
def m28_1 (R : VP) (n0 : Value) (w : World) : Prop :=
  valP Try.prog (binS BinOp.geq 3 (Operand.tmp 3) (Operand.const (Value.int IntKind.i64 0)) n0 (Value.int IntKind.i64 0)) w fun t4 w =>
  condP t4
  (valP Try.prog (binS BinOp.leq 3 (Operand.tmp 6) (Operand.const (Value.int IntKind.i64 1099511627776)) n0 (Value.int IntKind.i64 1099511627776)) w fun t7 w =>
  pickP t4 t7 (Value.bool false) fun t8 =>
  m28_2 R t8 w)
  (pickP t4 undef (Value.bool false) fun t8 =>
  m28_2 R t8 w)
def m28_0 (R : VP) (n0 : Value) (w : World) : Prop :=
  m28_1 R n0 w
abbrev W28 := cwp Try.prog (fun i => 0)
noncomputable def k28_0 : Code := (bodyOf Try.f28)
noncomputable def k28_1 : Code := (c2 k28_0)
noncomputable def k28_2 : Code := (c2 k28_1)
theorem s28_2 {R : VP} {Q : EQ} (hR : ∀ e w, (R (e 2) w) → Q .ret e w) (e : Env) (w : World) (h : m28_2 R (e 2) w) : W28 k28_2 Q e w := by
  unfold m28_2 at h
  exact reA (hR _ _ h)
theorem s28_1 {R : VP} {Q : EQ} (hR : ∀ e w, (R (e 2) w) → Q .ret e w) (e : Env) (w : World) (h : m28_1 R (e 0) w) : W28 k28_1 Q e w := by
  unfold m28_1 at h
  refine seA ?_
  have hN : ∀ e w, (m28_2 R (e 2) w) → (thenE (W28 k28_2 Q) Q) .normal e w := fun e w h => then_N (s28_2 (R := R) (Q := Q) hR e w h)
  exact rgA 1 (fun e w => m28_2 R (e 2) w) h hN
theorem s28_0 {R : VP} {Q : EQ} (hR : ∀ e w, (R (e 2) w) → Q .ret e w) (e : Env) (w : World) (h : m28_0 R (e 0) w) : W28 k28_0 Q e w := by
  unfold m28_0 at h
  refine seA ?_
  have hN : ∀ e w, (m28_1 R (e 0) w) → (thenE (W28 k28_1 Q) Q) .normal e w := fun e w h => then_N (s28_1 (R := R) (Q := Q) hR e w h)
  exact rgA 0 (fun e w => m28_1 R (e 0) w) h hN
abbrev m28 (R : VP) (n0 : Value) (w : World) : Prop := m28_0 R n0 w
theorem s28 (n0 : Value) {R : VP} {w : World} (h : m28 R n0 w) :
    Calls Try.prog 28 #[n0] w fun e w' => ∃ v, e = .returned v ∧ R v w' :=
  calls_of_cwp (st := (fun i => 0)) (c := k28_0) (by kernel_rfl) Try.func28 (by kernel_rfl) (Nat.le_of_ble_eq_true (by kernel_rfl)) (by kernel_rfl)
    (s28_0 (R := R) (Q := endE Try.prog Try.f28 R) (fun e w h => kcast (by kernel_rfl) h) (argsE #[n0]) w (kcast (by kernel_rfl) h))
/-! ### headgate/headgateref16.Ahead -/
def m25_2 (R : VP) (t4 : Value) (w : World) : Prop :=
  R t4 w
def m25_1 (R : VP) (a2 b3 : Value) (w : World) : Prop :=
  valP Try.prog (Instr.fieldAt 67 a2 1) w fun t5 w =>
  valP Try.prog (Instr.loadAt 3 t5) w fun t6 w =>
  valP Try.prog (Instr.fieldAt 67 b3 1) w fun t7 w =>
  valP Try.prog (Instr.loadAt 3 t7) w fun t8 w =>
  valP Try.prog (binS BinOp.lss 3 (Operand.tmp 6) (Operand.tmp 8) t6 t8) w fun t9 w =>
  condP t9
  (pickP t9 (Value.bool true) undef fun t23 =>
  m25_2 R t23 w)
  (valP Try.prog (Instr.fieldAt 67 a2 1) w fun t11 w =>
  valP Try.prog (Instr.loadAt 3 t11) w fun t12 w =>
  valP Try.prog (Instr.fieldAt 67 b3 1) w fun t13 w =>
  valP Try.prog (Instr.loadAt 3 t13) w fun t14 w =>
  valP Try.prog (binS BinOp.eql 3 (Operand.tmp 12) (Operand.tmp 14) t12 t14) w fun t15 w =>
  condP t15
  (valP Try.prog (Instr.fieldAt 67 a2 0) w fun t17 w =>
  valP Try.prog (Instr.loadAt 3 t17) w fun t18 w =>
  valP Try.prog (Instr.fieldAt 67 b3 0) w fun t19 w =>
  valP Try.prog (Instr.loadAt 3 t19) w fun t20 w =>
  valP Try.prog (binS BinOp.lss 3 (Operand.tmp 18) (Operand.tmp 20) t18 t20) w fun t21 w =>
  pickP t15 t21 (Value.bool false) fun t22 =>
  pickP t9 (Value.bool true) t22 fun t23 =>
  m25_2 R t23 w)
  (pickP t15 undef (Value.bool false) fun t22 =>
  pickP t9 (Value.bool true) t22 fun t23 =>
  m25_2 R t23 w))
def m25_0 (R : VP) (a0 b1 : Value) (w : World) : Prop :=
  valP Try.prog (Instr.box 67 a0) w fun a2 w =>
  valP Try.prog (Instr.box 67 b1) w fun b3 w =>
  m25_1 R a2 b3 w
abbrev W25 := cwp Try.prog (fun i => 0)
noncomputable def k25_0 : Code := (bodyOf Try.f25)
noncomputable def k25_1 : Code := (c2 k25_0)
noncomputable def k25_2 : Code := (c2 k25_1)
theorem s25_2 {R : VP} {Q : EQ} (hR : ∀ e w, (R (e 4) w) → Q .ret e w) (e : Env) (w : World) (h : m25_2 R (e 4) w) : W25 k25_2 Q e w := by
  unfold m25_2 at h
  exact reA (hR _ _ h)
theorem s25_1 {R : VP} {Q : EQ} (hR : ∀ e w, (R (e 4) w) → Q .ret e w) (e : Env) (w : World) (h : m25_1 R (e 2) (e 3) w) : W25 k25_1 Q e w := by
  unfold m25_1 at h
  refine seA ?_
  have hN : ∀ e w, (m25_2 R (e 4) w) → (thenE (W25 k25_2 Q) Q) .normal e w := fun e w h => then_N (s25_2 (R := R) (Q := Q) hR e w h)
  exact rgA 1 (fun e w => m25_2 R (e 4) w) h hN
theorem s25_0 {R : VP} {Q : EQ} (hR : ∀ e w, (R (e 4) w) → Q .ret e w) (e : Env) (w : World) (h : m25_0 R (e 0) (e 1) w) : W25 k25_0 Q e w := by
  unfold m25_0 at h
  refine seA ?_
  have hN : ∀ e w, (m25_1 R (e 2) (e 3) w) → (thenE (W25 k25_1 Q) Q) .normal e w := fun e w h => then_N (s25_1 (R := R) (Q := Q) hR e w h)
  exact rgA 0 (fun e w => m25_1 R (e 2) (e 3) w) h hN
abbrev m25 (R : VP) (a0 b1 : Value) (w : World) : Prop := m25_0 R a0 b1 w
theorem s25 (a0 b1 : Value) {R : VP} {w : World} (h : m25 R a0 b1 w) :
    Calls Try.prog 25 #[a0, b1] w fun e w' => ∃ v, e = .returned v ∧ R v w' :=
  calls_of_cwp (st := (fun i => 0)) (c := k25_0) (by kernel_rfl) Try.func25 (by kernel_rfl) (Nat.le_of_ble_eq_true (by kernel_rfl)) (by kernel_rfl)
    (s25_0 (R := R) (Q := endE Try.prog Try.f25 R) (fun e w h => kcast (by kernel_rfl) h) (argsE #[a0, b1]) w (kcast (by kernel_rfl) h))
/-! ### headgate/headgateref16.May -/
def m15_17 (R : VP) (t4 : Value) (w : World) : Prop :=
  R t4 w
def m15_14 (R : VP) (K1 : VP) (t4 : Value) (w : World) : Prop :=
  R t4 w
def m15_12 (R : VP) (K1 : VP) (t4 : Value) (w : World) : Prop :=
  R t4 w
def m15_8 (R : VP) (K1 : VP) (g2 s3 i5 : Value) (w : World) : Prop :=
  valP Try.prog (binS BinOp.add 3 (Operand.tmp 60) (Operand.const (Value.int IntKind.i64 1)) i5 (Value.int IntKind.i64 1)) w fun t61 w =>
  K1 t61 w
def m15_11 (R : VP) (K1 : VP) (g2 s3 i5 t123 : Value) (w : World) : Prop :=
  condP t123
  (m15_12 R K1 (Value.bool false) w)
  (m15_8 R K1 g2 s3 i5 w)
def m15_10 (R : VP) (K1 : VP) (g2 s3 i5 c6 : Value) (w : World) : Prop :=
  anyDraw w fun w =>
  valS Try.prog (binS BinOp.gtr 3 (Operand.tmp 111) (Operand.const (Value.int IntKind.i64 0)) i5 (Value.int IntKind.i64 0)) w fun t112 =>
  condP t112
  (valS Try.prog (Instr.fieldAt 28 s3 4) w fun t114 =>
  valS Try.prog (Instr.loadAt 26 t114) w fun t115 =>
  valS Try.prog (binS BinOp.sub 3 (Operand.tmp 116) (Operand.const (Value.int IntKind.i64 1)) i5 (Value.int IntKind.i64 1)) w fun t117 =>
  valS Try.prog (Instr.indexAt 26 t115 t117) w fun t118 =>
  valS Try.prog (Instr.loadAt 67 t118) w fun t119 =>
  valS Try.prog (Instr.loadAt 67 c6) w fun t120 =>
  callP Try.prog (fnV 25) #[t119, t120] w fun t121 w =>
  valP Try.prog (Op.unary UnOp.not t121) w fun t122 w =>
  pickP t112 t122 (Value.bool false) fun t123 =>
  m15_11 R K1 g2 s3 i5 t123 w)
  (pickP t112 undef (Value.bool false) fun t123 =>
  m15_11 R K1 g2 s3 i5 t123 w)
def m15_13 (R : VP) (K1 : VP) (g2 s3 i5 c6 t110 : Value) (w : World) : Prop :=
  condP t110
  (m15_14 R K1 (Value.bool false) w)
  (m15_10 R K1 g2 s3 i5 c6 w)
def m15_9 (R : VP) (K1 : VP) (g2 s3 i5 c6 : Value) (w : World) : Prop :=
  valP Try.prog (Instr.fieldAt 67 c6 0) w fun t67 w =>
  valP Try.prog (Instr.loadAt 3 t67) w fun t68 w =>
  callP Try.prog (fnV 28) #[t68] w fun t69 w =>
  valP Try.prog (Op.unary UnOp.not t69) w fun t70 w =>
  condP t70
  (pickP t70 (Value.bool true) undef fun t75 =>
  pickP t75 (Value.bool true) undef fun t81 =>
  pickP t81 (Value.bool true) undef fun t89 =>
  pickP t89 (Value.bool true) undef fun t96 =>
  pickP t96 (Value.bool true) undef fun t104 =>
  pickP t104 (Value.bool true) undef fun t110 =>
  m15_13 R K1 g2 s3 i5 c6 t110 w)
  (valP Try.prog (Instr.fieldAt 67 c6 0) w fun t72 w =>
  valP Try.prog (Instr.loadAt 3 t72) w fun t73 w =>
  valP Try.prog (binS BinOp.gtr 3 (Operand.tmp 73) (Operand.const (Value.int IntKind.i64 1048576)) t73 (Value.int IntKind.i64 1048576)) w fun t74 w =>
  pickP t70 (Value.bool true) t74 fun t75 =>
  condP t75
  (pickP t75 (Value.bool true) undef fun t81 =>
  pickP t81 (Value.bool true) undef fun t89 =>
  pickP t89 (Value.bool true) undef fun t96 =>
  pickP t96 (Value.bool true) undef fun t104 =>
  pickP t104 (Value.bool true) undef fun t110 =>
  m15_13 R K1 g2 s3 i5 c6 t110 w)
  (valP Try.prog (Instr.fieldAt 67 c6 1) w fun t77 w =>
  valP Try.prog (Instr.loadAt 3 t77) w fun t78 w =>
  callP Try.prog (fnV 28) #[t78] w fun t79 w =>
  valP Try.prog (Op.unary UnOp.not t79) w fun t80 w =>
  pickP t75 (Value.bool true) t80 fun t81 =>
  condP t81
  (pickP t81 (Value.bool true) undef fun t89 =>
  pickP t89 (Value.bool true) undef fun t96 =>
  pickP t96 (Value.bool true) undef fun t104 =>
  pickP t104 (Value.bool true) undef fun t110 =>
  m15_13 R K1 g2 s3 i5 c6 t110 w)
  (valP Try.prog (Instr.fieldAt 67 c6 1) w fun t83 w =>
  valP Try.prog (Instr.loadAt 3 t83) w fun t84 w =>
  valP Try.prog (Instr.fieldAt 23 g2 1) w fun t85 w =>
  valP Try.prog (Instr.loadAt 3 t85) w fun t86 w =>
  valP Try.prog (binS BinOp.rem 3 (Operand.tmp 84) (Operand.tmp 86) t84 t86) w fun t87 w =>
  valP Try.prog (binS BinOp.neq 3 (Operand.tmp 87) (Operand.const (Value.int IntKind.i64 0)) t87 (Value.int IntKind.i64 0)) w fun t88 w =>
  pickP t81 (Value.bool true) t88 fun t89 =>
  condP t89
  (pickP t89 (Value.bool true) undef fun t96 =>
  pickP t96 (Value.bool true) undef fun t104 =>
  pickP t104 (Value.bool true) undef fun t110 =>
  m15_13 R K1 g2 s3 i5 c6 t110 w)
  (valP Try.prog (Instr.fieldAt 67 c6 1) w fun t91 w =>
  valP Try.prog (Instr.loadAt 3 t91) w fun t92 w =>
  valP Try.prog (Instr.fieldAt 28 s3 0) w fun t93 w =>
  valP Try.prog (Instr.loadAt 3 t93) w fun t94 w =>
  valP Try.prog (binS BinOp.gtr 3 (Operand.tmp 92) (Operand.tmp 94) t92 t94) w fun t95 w =>
  pickP t89 (Value.bool true) t95 fun t96 =>
  condP t96
  (pickP t96 (Value.bool true) undef fun t104 =>
  pickP t104 (Value.bool true) undef fun t110 =>
  m15_13 R K1 g2 s3 i5 c6 t110 w)
  (valP Try.prog (Instr.loadAt 23 g2) w fun t98 w =>
  valP Try.prog (Instr.fieldAt 67 c6 1) w fun t99 w =>
  valP Try.prog (Instr.loadAt 3 t99) w fun t100 w =>
  valP Try.prog (Instr.fieldAt 28 s3 0) w fun t101 w =>
  valP Try.prog (Instr.loadAt 3 t101) w fun t102 w =>
  callP Try.prog (fnV 29) #[t98, t100, t102] w fun t103 w =>
  pickP t96 (Value.bool true) t103 fun t104 =>
  condP t104
  (pickP t104 (Value.bool true) undef fun t110 =>
  m15_13 R K1 g2 s3 i5 c6 t110 w)
  (valP Try.prog (Instr.fieldAt 67 c6 2) w fun t106 w =>
  valP Try.prog (Instr.loadAt 65 t106) w fun t107 w =>
  callP Try.prog (fnV 30) #[t107] w fun t108 w =>
  valP Try.prog (Op.unary UnOp.not t108) w fun t109 w =>
  pickP t104 (Value.bool true) t109 fun t110 =>
  m15_13 R K1 g2 s3 i5 c6 t110 w))))))
def m15_7 (R : VP) (K1 : VP) (g2 s3 i5 : Value) (w : World) : Prop :=
  valP Try.prog (Instr.fieldAt 28 s3 4) w fun t62 w =>
  valP Try.prog (Instr.loadAt 26 t62) w fun t63 w =>
  valP Try.prog (Instr.indexAt 26 t63 i5) w fun t65 w =>
  valP Try.prog (Instr.loadAt 67 t65) w fun t66 w =>
  valP Try.prog (Instr.alloc 67 true (.tuple #[])) w fun c6 w =>
  unitP Try.prog (Instr.storeAt 67 c6 t66) w fun _ w =>
  m15_9 R K1 g2 s3 i5 c6 w
def m15_4 (R : VP) (t4 : Value) (w : World) : Prop :=
  R t4 w
def m15_3 (R : VP) (w : World) : Prop :=
  m15_4 R (Value.bool true) w
def m15_15 (R : VP) (K1 : VP) (g2 s3 i5 t59 : Value) (w : World) : Prop :=
  condP t59
  (m15_7 R K1 g2 s3 i5 w)
  (m15_3 R w)
def m15_6 (R : VP) (K1 : VP) (g2 s3 i5 : Value) (w : World) : Prop :=
  valP Try.prog (Instr.fieldAt 28 s3 4) w fun t56 w =>
  valP Try.prog (Instr.loadAt 26 t56) w fun t57 w =>
  builtinP Try.prog Builtin.len #[26] 3 #[false] #[t57] w fun t58 w =>
  valP Try.prog (binS BinOp.lss 3 (Operand.tmp 55) (Operand.tmp 58) i5 t58) w fun t59 w =>
  m15_15 R K1 g2 s3 i5 t59 w
def m15_5 (R : VP) (g2 s3 i5 : Value) (w : World) : Prop :=
  loopP (fun (K1 : VP) (s : Value) w => m15_6 R K1 g2 s3 s w) i5 w
def m15_2 (R : VP) (g2 s3 : Value) (w : World) : Prop :=
  m15_5 R g2 s3 (Value.int IntKind.i64 0) w
def m15_16 (R : VP) (g2 s3 t54 : Value) (w : World) : Prop :=
  condP t54
  (m15_17 R (Value.bool false) w)
  (m15_2 R g2 s3 w)
def m15_1 (R : VP) (g2 s3 : Value) (w : World) : Prop :=
  valP Try.prog (Instr.loadAt 23 g2) w fun t7 w =>
  callP Try.prog (fnV 27) #[t7] w fun t8 w =>
  valP Try.prog (Op.unary UnOp.not t8) w fun t9 w =>
  condP t9
  (pickP t9 (Value.bool true) undef fun t20 =>
  pickP t20 (Value.bool true) undef fun t26 =>
  pickP t26 (Value.bool true) undef fun t32 =>
  pickP t32 (Value.bool true) undef fun t38 =>
  pickP t38 (Value.bool true) undef fun t48 =>
  pickP t48 (Value.bool true) undef fun t54 =>
  m15_16 R g2 s3 t54 w)
  (valP Try.prog (Instr.fieldAt 28 s3 0) w fun t11 w =>
  valP Try.prog (Instr.loadAt 3 t11) w fun t12 w =>
  valP Try.prog (binS BinOp.neq 3 (Operand.tmp 12) (Operand.const (Value.int IntKind.i64 (-1))) t12 (Value.int IntKind.i64 (-1))) w fun t13 w =>
  condP t13
  (valP Try.prog (Instr.fieldAt 28 s3 0) w fun t15 w =>
  valP Try.prog (Instr.loadAt 3 t15) w fun t16 w =>
  callP Try.prog (fnV 28) #[t16] w fun t17 w =>
  valP Try.prog (Op.unary UnOp.not t17) w fun t18 w =>
  pickP t13 t18 (Value.bool false) fun t19 =>
  pickP t9 (Value.bool true) t19 fun t20 =>
  condP t20
  (pickP t20 (Value.bool true) undef fun t26 =>
  pickP t26 (Value.bool true) undef fun t32 =>
  pickP t32 (Value.bool true) undef fun t38 =>
  pickP t38 (Value.bool true) undef fun t48 =>
  pickP t48 (Value.bool true) undef fun t54 =>
  m15_16 R g2 s3 t54 w)
  (valP Try.prog (Instr.fieldAt 28 s3 1) w fun t22 w =>
  valP Try.prog (Instr.loadAt 3 t22) w fun t23 w =>
  callP Try.prog (fnV 28) #[t23] w fun t24 w =>
  valP Try.prog (Op.unary UnOp.not t24) w fun t25 w =>
  pickP t20 (Value.bool true) t25 fun t26 =>
  condP t26
  (pickP t26 (Value.bool true) undef fun t32 =>
  pickP t32 (Value.bool true) undef fun t38 =>
  pickP t38 (Value.bool true) undef fun t48 =>
  pickP t48 (Value.bool true) undef fun t54 =>
  m15_16 R g2 s3 t54 w)
  (valP Try.prog (Instr.fieldAt 28 s3 2) w fun t28 w =>
  valP Try.prog (Instr.loadAt 3 t28) w fun t29 w =>
  callP Try.prog (fnV 28) #[t29] w fun t30 w =>
  valP Try.prog (Op.unary UnOp.not t30) w fun t31 w =>
  pickP t26 (Value.bool true) t31 fun t32 =>
  condP t32
  (pickP t32 (Value.bool true) undef fun t38 =>
  pickP t38 (Value.bool true) undef fun t48 =>
  pickP t48 (Value.bool true) undef fun t54 =>
  m15_16 R g2 s3 t54 w)
  (valP Try.prog (Instr.fieldAt 28 s3 3) w fun t34 w =>
  valP Try.prog (Instr.loadAt 3 t34) w fun t35 w =>
  callP Try.prog (fnV 28) #[t35] w fun t36 w =>
  valP Try.prog (Op.unary UnOp.not t36) w fun t37 w =>
  pickP t32 (Value.bool true) t37 fun t38 =>
  condP t38
  (pickP t38 (Value.bool true) undef fun t48 =>
  pickP t48 (Value.bool true) undef fun t54 =>
  m15_16 R g2 s3 t54 w)
  (valP Try.prog (Instr.fieldAt 28 s3 1) w fun t40 w =>
  valP Try.prog (Instr.loadAt 3 t40) w fun t41 w =>
  valP Try.prog (Instr.fieldAt 28 s3 2) w fun t42 w =>
  valP Try.prog (Instr.loadAt 3 t42) w fun t43 w =>
  valP Try.prog (binS BinOp.add 3 (Operand.tmp 41) (Operand.tmp 43) t41 t43) w fun t44 w =>
  valP Try.prog (Instr.fieldAt 28 s3 3) w fun t45 w =>
  valP Try.prog (Instr.loadAt 3 t45) w fun t46 w =>
  valP Try.prog (binS BinOp.gtr 3 (Operand.tmp 44) (Operand.tmp 46) t44 t46) w fun t47 w =>
  pickP t38 (Value.bool true) t47 fun t48 =>
  condP t48
  (pickP t48 (Value.bool true) undef fun t54 =>
  m15_16 R g2 s3 t54 w)
  (valP Try.prog (Instr.fieldAt 28 s3 4) w fun t50 w =>
  valP Try.prog (Instr.loadAt 26 t50) w fun t51 w =>
  builtinP Try.prog Builtin.len #[26] 3 #[false] #[t51] w fun t52 w =>
  valP Try.prog (binS BinOp.gtr 3 (Operand.tmp 52) (Operand.const (Value.int IntKind.i64 64)) t52 (Value.int IntKind.i64 64)) w fun t53 w =>
  pickP t48 (Value.bool true) t53 fun t54 =>
  m15_16 R g2 s3 t54 w))))))
  (pickP t13 undef (Value.bool false) fun t19 =>
  pickP t9 (Value.bool true) t19 fun t20 =>
  valP Try.prog (Instr.fieldAt 28 s3 1) w fun t22 w =>
  valP Try.prog (Instr.loadAt 3 t22) w fun t23 w =>
  callP Try.prog (fnV 28) #[t23] w fun t24 w =>
  valP Try.prog (Op.unary UnOp.not t24) w fun t25 w =>
  pickP t20 (Value.bool true) t25 fun t26 =>
  condP t26
  (pickP t26 (Value.bool true) undef fun t32 =>
  pickP t32 (Value.bool true) undef fun t38 =>
  pickP t38 (Value.bool true) undef fun t48 =>
  pickP t48 (Value.bool true) undef fun t54 =>
  m15_16 R g2 s3 t54 w)
  (valP Try.prog (Instr.fieldAt 28 s3 2) w fun t28 w =>
  valP Try.prog (Instr.loadAt 3 t28) w fun t29 w =>
  callP Try.prog (fnV 28) #[t29] w fun t30 w =>
  valP Try.prog (Op.unary UnOp.not t30) w fun t31 w =>
  pickP t26 (Value.bool true) t31 fun t32 =>
  condP t32
  (pickP t32 (Value.bool true) undef fun t38 =>
  pickP t38 (Value.bool true) undef fun t48 =>
  pickP t48 (Value.bool true) undef fun t54 =>
  m15_16 R g2 s3 t54 w)
  (valP Try.prog (Instr.fieldAt 28 s3 3) w fun t34 w =>
  valP Try.prog (Instr.loadAt 3 t34) w fun t35 w =>
  callP Try.prog (fnV 28) #[t35] w fun t36 w =>
  valP Try.prog (Op.unary UnOp.not t36) w fun t37 w =>
  pickP t32 (Value.bool true) t37 fun t38 =>
  condP t38
  (pickP t38 (Value.bool true) undef fun t48 =>
  pickP t48 (Value.bool true) undef fun t54 =>
  m15_16 R g2 s3 t54 w)
  (valP Try.prog (Instr.fieldAt 28 s3 1) w fun t40 w =>
  valP Try.prog (Instr.loadAt 3 t40) w fun t41 w =>
  valP Try.prog (Instr.fieldAt 28 s3 2) w fun t42 w =>
  valP Try.prog (Instr.loadAt 3 t42) w fun t43 w =>
  valP Try.prog (binS BinOp.add 3 (Operand.tmp 41) (Operand.tmp 43) t41 t43) w fun t44 w =>
  valP Try.prog (Instr.fieldAt 28 s3 3) w fun t45 w =>
  valP Try.prog (Instr.loadAt 3 t45) w fun t46 w =>
  valP Try.prog (binS BinOp.gtr 3 (Operand.tmp 44) (Operand.tmp 46) t44 t46) w fun t47 w =>
  pickP t38 (Value.bool true) t47 fun t48 =>
  condP t48
  (pickP t48 (Value.bool true) undef fun t54 =>
  m15_16 R g2 s3 t54 w)
  (valP Try.prog (Instr.fieldAt 28 s3 4) w fun t50 w =>
  valP Try.prog (Instr.loadAt 26 t50) w fun t51 w =>
  builtinP Try.prog Builtin.len #[26] 3 #[false] #[t51] w fun t52 w =>
  valP Try.prog (binS BinOp.gtr 3 (Operand.tmp 52) (Operand.const (Value.int IntKind.i64 64)) t52 (Value.int IntKind.i64 64)) w fun t53 w =>
  pickP t48 (Value.bool true) t53 fun t54 =>
  m15_16 R g2 s3 t54 w))))))
def m15_0 (R : VP) (g0 s1 : Value) (w : World) : Prop :=
  valP Try.prog (Instr.box 23 g0) w fun g2 w =>
  valP Try.prog (Instr.box 28 s1) w fun s3 w =>
  m15_1 R g2 s3 w
abbrev W15 := cwp Try.prog (fun i => cond (Nat.beq i 9) 12 (0))
noncomputable def k15_0 : Code := (bodyOf Try.f15)
noncomputable def k15_1 : Code := (c2 k15_0)
noncomputable def k15_2 : Code := (c2 k15_1)
noncomputable def k15_3 : Code := (c2 k15_2)
noncomputable def k15_4 : Code := (c2 k15_3)
noncomputable def k15_5 : Code := (c2 (c1 k15_2))
noncomputable def k15_6 : Code := (c1 (c1 k15_5))
noncomputable def k15_7 : Code := (c2 k15_6)
noncomputable def k15_8 : Code := (c2 k15_7)
noncomputable def k15_9 : Code := (c2 (c1 (c1 k15_7)))
noncomputable def k15_10 : Code := (c2 k15_9)
noncomputable def k15_11 : Code := (c2 k15_10)
noncomputable def k15_12 : Code := (c2 (c1 k15_11))
noncomputable def k15_13 : Code := (c2 (c1 k15_9))
noncomputable def k15_14 : Code := (c2 (c1 k15_13))
noncomputable def k15_15 : Code := (c2 (c1 k15_6))
noncomputable def k15_16 : Code := (c2 (c1 k15_1))
noncomputable def k15_17 : Code := (c2 (c1 k15_16))
theorem s15_17 {R : VP} {Q : EQ} (hR : ∀ e w, (R (e 4) w) → Q .ret e w) (e : Env) (w : World) (h : m15_17 R (e 4) w) : W15 k15_17 Q e w := by
  unfold m15_17 at h
  exact reA (hR _ _ h)
theorem s15_14 {R : VP} {K1 : VP} {Q : EQ} (hR : ∀ e w, (R (e 4) w) → Q .ret e w) (e : Env) (w : World) (h : m15_14 R K1 (e 4) w) : W15 k15_14 Q e w := by
  unfold m15_14 at h
  exact reA (hR _ _ h)
theorem s15_12 {R : VP} {K1 : VP} {Q : EQ} (hR : ∀ e w, (R (e 4) w) → Q .ret e w) (e : Env) (w : World) (h : m15_12 R K1 (e 4) w) : W15 k15_12 Q e w := by
  unfold m15_12 at h
  exact reA (hR _ _ h)
theorem s15_8 {R : VP} {K1 : VP} {Q : EQ} (hN : ∀ e w, (K1 (e 5) w) → Q .normal e w) (e : Env) (w : World) (h : m15_8 R K1 (e 2) (e 3) (e 5) w) : W15 k15_8 Q e w := by
  unfold m15_8 at h
  exact rgA 5 (fun e w => K1 (e 5) w) h hN
theorem s15_11 {R : VP} {K1 : VP} {Q : EQ} (hN : ∀ e w, (m15_8 R K1 (e 2) (e 3) (e 5) w) → Q .normal e w) (hR : ∀ e w, (R (e 4) w) → Q .ret e w) (e : Env) (w : World) (h : m15_11 R K1 (e 2) (e 3) (e 5) (e 123) w) : W15 k15_11 Q e w := by
  unfold m15_11 at h
  refine coA (Operand.tmp 123) h (fun h1 => ?_) (fun h1 => ?_)
  · refine seA ?_
    have hN : ∀ e w, (m15_12 R K1 (e 4) w) → (thenE (W15 k15_12 Q) Q) .normal e w := fun e w h => then_N (s15_12 (R := R) (Q := Q) (K1 := K1) hR e w h)
    exact rgA 10 (fun e w => m15_12 R K1 (e 4) w) h1 hN
  · exact skA (hN _ _ h1)
theorem s15_10 {R : VP} {K1 : VP} {Q : EQ} (hN : ∀ e w, (m15_8 R K1 (e 2) (e 3) (e 5) w) → Q .normal e w) (hR : ∀ e w, (R (e 4) w) → Q .ret e w) (e : Env) (w : World) (h : m15_10 R K1 (e 2) (e 3) (e 5) (e 6) w) : W15 k15_10 Q e w := by
  unfold m15_10 at h
  refine seA ?_
  have hN : ∀ e w, (m15_11 R K1 (e 2) (e 3) (e 5) (e 123) w) → (thenE (W15 k15_11 Q) Q) .normal e w := fun e w h => then_N (s15_11 (R := R) (Q := Q) (K1 := K1) hN hR e w h)
  exact taA 9 10 (fun e w => m15_11 R K1 (e 2) (e 3) (e 5) (e 123) w) h hN
theorem s15_13 {R : VP} {K1 : VP} {Q : EQ} (hN : ∀ e w, (m15_10 R K1 (e 2) (e 3) (e 5) (e 6) w) → Q .normal e w) (hR : ∀ e w, (R (e 4) w) → Q .ret e w) (e : Env) (w : World) (h : m15_13 R K1 (e 2) (e 3) (e 5) (e 6) (e 110) w) : W15 k15_13 Q e w := by
  unfold m15_13 at h
  refine coA (Operand.tmp 110) h (fun h1 => ?_) (fun h1 => ?_)
  · refine seA ?_
    have hN : ∀ e w, (m15_14 R K1 (e 4) w) → (thenE (W15 k15_14 Q) Q) .normal e w := fun e w h => then_N (s15_14 (R := R) (Q := Q) (K1 := K1) hR e w h)
    exact rgA 8 (fun e w => m15_14 R K1 (e 4) w) h1 hN
  · exact skA (hN _ _ h1)
theorem s15_9 {R : VP} {K1 : VP} {Q : EQ} (hN : ∀ e w, (m15_8 R K1 (e 2) (e 3) (e 5) w) → Q .normal e w) (hR : ∀ e w, (R (e 4) w) → Q .ret e w) (e : Env) (w : World) (h : m15_9 R K1 (e 2) (e 3) (e 5) (e 6) w) : W15 k15_9 Q e w := by
  unfold m15_9 at h
  refine seA ?_
  have hN : ∀ e w, (m15_10 R K1 (e 2) (e 3) (e 5) (e 6) w) → (thenE (W15 k15_10 Q) Q) .normal e w := fun e w h => then_N (s15_10 (R := R) (Q := Q) (K1 := K1) hN hR e w h)
  have hR : ∀ e w, (R (e 4) w) → (thenE (W15 k15_10 Q) Q) .ret e w := fun e w h => then_R (hR e w h)
  refine seA ?_
  have hN : ∀ e w, (m15_13 R K1 (e 2) (e 3) (e 5) (e 6) (e 110) w) → (thenE (W15 k15_13 (thenE (W15 k15_10 Q) Q)) (thenE (W15 k15_10 Q) Q)) .normal e w := fun e w h => then_N (s15_13 (R := R) (Q := (thenE (W15 k15_10 Q) Q)) (K1 := K1) hN hR e w h)
  exact rgK 7 (fun e w => m15_13 R K1 (e 2) (e 3) (e 5) (e 6) (e 110) w) h hN
theorem s15_7 {R : VP} {K1 : VP} {Q : EQ} (hN : ∀ e w, (K1 (e 5) w) → Q .normal e w) (hR : ∀ e w, (R (e 4) w) → Q .ret e w) (e : Env) (w : World) (h : m15_7 R K1 (e 2) (e 3) (e 5) w) : W15 k15_7 Q e w := by
  unfold m15_7 at h
  refine seA ?_
  have hN : ∀ e w, (m15_8 R K1 (e 2) (e 3) (e 5) w) → (thenE (W15 k15_8 Q) Q) .normal e w := fun e w h => then_N (s15_8 (R := R) (Q := Q) (K1 := K1) hN e w h)
  have hR : ∀ e w, (R (e 4) w) → (thenE (W15 k15_8 Q) Q) .ret e w := fun e w h => then_R (hR e w h)
  refine block_ok 1 (by kernel_rfl) ?_
  have hN : ∀ e w, (m15_8 R K1 (e 2) (e 3) (e 5) w) → (inBlockE 1 (thenE (W15 k15_8 Q) Q)) .normal e w := fun e w h => block_N (hN e w h)
  have hR : ∀ e w, (R (e 4) w) → (inBlockE 1 (thenE (W15 k15_8 Q) Q)) .ret e w := fun e w h => block_R (hR e w h)
  refine seA ?_
  have hN : ∀ e w, (m15_9 R K1 (e 2) (e 3) (e 5) (e 6) w) → (thenE (W15 k15_9 (inBlockE 1 (thenE (W15 k15_8 Q) Q))) (inBlockE 1 (thenE (W15 k15_8 Q) Q))) .normal e w := fun e w h => then_N (s15_9 (R := R) (Q := (inBlockE 1 (thenE (W15 k15_8 Q) Q))) (K1 := K1) hN hR e w h)
  exact rgA 6 (fun e w => m15_9 R K1 (e 2) (e 3) (e 5) (e 6) w) h hN
theorem s15_4 {R : VP} {Q : EQ} (hR : ∀ e w, (R (e 4) w) → Q .ret e w) (e : Env) (w : World) (h : m15_4 R (e 4) w) : W15 k15_4 Q e w := by
  unfold m15_4 at h
  exact reA (hR _ _ h)
theorem s15_3 {R : VP} {Q : EQ} (hR : ∀ e w, (R (e 4) w) → Q .ret e w) (e : Env) (w : World) (h : m15_3 R w) : W15 k15_3 Q e w := by
  unfold m15_3 at h
  refine seA ?_
  have hN : ∀ e w, (m15_4 R (e 4) w) → (thenE (W15 k15_4 Q) Q) .normal e w := fun e w h => then_N (s15_4 (R := R) (Q := Q) hR e w h)
  exact rgA 11 (fun e w => m15_4 R (e 4) w) h hN
theorem s15_15 {R : VP} {K1 : VP} {Q : EQ} (hN : ∀ e w, (m15_7 R K1 (e 2) (e 3) (e 5) w) → Q .normal e w) (hX0 : ∀ e w, (m15_3 R w) → Q (.exit 0) e w) (e : Env) (w : World) (h : m15_15 R K1 (e 2) (e 3) (e 5) (e 59) w) : W15 k15_15 Q e w := by
  unfold m15_15 at h
  refine coA (Operand.tmp 59) h (fun h1 => ?_) (fun h1 => ?_)
  · exact skA (hN _ _ h1)
  · exact exA 0 (hX0 _ _ h1)
theorem s15_6 {R : VP} {K1 : VP} {Q : EQ} (hN : ∀ e w, (K1 (e 5) w) → Q .normal e w) (hR : ∀ e w, (R (e 4) w) → Q .ret e w) (hX0 : ∀ e w, (m15_3 R w) → Q (.exit 0) e w) (e : Env) (w : World) (h : m15_6 R K1 (e 2) (e 3) (e 5) w) : W15 k15_6 Q e w := by
  unfold m15_6 at h
  refine seA ?_
  have hN : ∀ e w, (m15_7 R K1 (e 2) (e 3) (e 5) w) → (thenE (W15 k15_7 Q) Q) .normal e w := fun e w h => then_N (s15_7 (R := R) (Q := Q) (K1 := K1) hN hR e w h)
  have hX0 : ∀ e w, (m15_3 R w) → (thenE (W15 k15_7 Q) Q) (.exit 0) e w := fun e w h => then_X (hX0 e w h)
  refine seA ?_
  have hN : ∀ e w, (m15_15 R K1 (e 2) (e 3) (e 5) (e 59) w) → (thenE (W15 k15_15 (thenE (W15 k15_7 Q) Q)) (thenE (W15 k15_7 Q) Q)) .normal e w := fun e w h => then_N (s15_15 (R := R) (Q := (thenE (W15 k15_7 Q) Q)) (K1 := K1) hN hX0 e w h)
  exact rgA 4 (fun e w => m15_15 R K1 (e 2) (e 3) (e 5) (e 59) w) h hN
theorem s15_5 {R : VP} {Q : EQ} (hN : ∀ e w, (m15_3 R w) → Q .normal e w) (hR : ∀ e w, (R (e 4) w) → Q .ret e w) (e : Env) (w : World) (h : m15_5 R (e 2) (e 3) (e 5) w) : W15 k15_5 Q e w := by
  unfold m15_5 at h
  refine block_ok 0 (by kernel_rfl) ?_
  have hX0 : ∀ e w, (m15_3 R w) → (inBlockE 0 Q) (.exit 0) e w := fun e w h => inBlock_same (Q := Q) 0 (hN e w h)
  have hR : ∀ e w, (R (e 4) w) → (inBlockE 0 Q) .ret e w := fun e w h => block_R (hR e w h)
  refine loop_ok' (fun (e : Env) => e 5) [2, 3] (by kernel_rfl) (by kernel_rfl) h (fun K e' w' hk h' => ?_)
  have r2 : e' 2 = e 2 := hk 2 (by decide)
  have r3 : e' 3 = e 3 := hk 3 (by decide)
  have hR : ∀ e w, (R (e 4) w) → (thenE (fun (e : Env) w => K (e 5) w) (inBlockE 0 Q)) .ret e w := fun e w h => then_R (hR e w h)
  have hX0 : ∀ e w, (m15_3 R w) → (thenE (fun (e : Env) w => K (e 5) w) (inBlockE 0 Q)) (.exit 0) e w := fun e w h => then_X (hX0 e w h)
  exact s15_6 (R := R) (Q := (thenE (fun (e : Env) w => K (e 5) w) (inBlockE 0 Q))) (K1 := K) (fun _ _ h => then_N h) hR hX0 e' w' (by rw [r2, r3]; exact h')
theorem s15_2 {R : VP} {Q : EQ} (hR : ∀ e w, (R (e 4) w) → Q .ret e w) (e : Env) (w : World) (h : m15_2 R (e 2) (e 3) w) : W15 k15_2 Q e w := by
  unfold m15_2 at h
  refine seA ?_
  have hN : ∀ e w, (m15_3 R w) → (thenE (W15 k15_3 Q) Q) .normal e w := fun e w h => then_N (s15_3 (R := R) (Q := Q) hR e w h)
  have hR : ∀ e w, (R (e 4) w) → (thenE (W15 k15_3 Q) Q) .ret e w := fun e w h => then_R (hR e w h)
  refine seA ?_
  have hN : ∀ e w, (m15_5 R (e 2) (e 3) (e 5) w) → (thenE (W15 k15_5 (thenE (W15 k15_3 Q) Q)) (thenE (W15 k15_3 Q) Q)) .normal e w := fun e w h => then_N (s15_5 (R := R) (Q := (thenE (W15 k15_3 Q) Q)) hN hR e w h)
  exact rgA 3 (fun e w => m15_5 R (e 2) (e 3) (e 5) w) h hN
theorem s15_16 {R : VP} {Q : EQ} (hN : ∀ e w, (m15_2 R (e 2) (e 3) w) → Q .normal e w) (hR : ∀ e w, (R (e 4) w) → Q .ret e w) (e : Env) (w : World) (h : m15_16 R (e 2) (e 3) (e 54) w) : W15 k15_16 Q e w := by
  unfold m15_16 at h
  refine coA (Operand.tmp 54) h (fun h1 => ?_) (fun h1 => ?_)
  · refine seA ?_
    have hN : ∀ e w, (m15_17 R (e 4) w) → (thenE (W15 k15_17 Q) Q) .normal e w := fun e w h => then_N (s15_17 (R := R) (Q := Q) hR e w h)
    exact rgA 2 (fun e w => m15_17 R (e 4) w) h1 hN
  · exact skA (hN _ _ h1)
theorem s15_1 {R : VP} {Q : EQ} (hR : ∀ e w, (R (e 4) w) → Q .ret e w) (e : Env) (w : World) (h : m15_1 R (e 2) (e 3) w) : W15 k15_1 Q e w := by
  unfold m15_1 at h
  refine seA ?_
  have hN : ∀ e w, (m15_2 R (e 2) (e 3) w) → (thenE (W15 k15_2 Q) Q) .normal e w := fun e w h => then_N (s15_2 (R := R) (Q := Q) hR e w h)
  have hR : ∀ e w, (R (e 4) w) → (thenE (W15 k15_2 Q) Q) .ret e w := fun e w h => then_R (hR e w h)
  refine seA ?_
  have hN : ∀ e w, (m15_16 R (e 2) (e 3) (e 54) w) → (thenE (W15 k15_16 (thenE (W15 k15_2 Q) Q)) (thenE (W15 k15_2 Q) Q)) .normal e w := fun e w h => then_N (s15_16 (R := R) (Q := (thenE (W15 k15_2 Q) Q)) hN hR e w h)
  exact rgK 1 (fun e w => m15_16 R (e 2) (e 3) (e 54) w) h hN
theorem s15_0 {R : VP} {Q : EQ} (hR : ∀ e w, (R (e 4) w) → Q .ret e w) (e : Env) (w : World) (h : m15_0 R (e 0) (e 1) w) : W15 k15_0 Q e w := by
  unfold m15_0 at h
  refine seA ?_
  have hN : ∀ e w, (m15_1 R (e 2) (e 3) w) → (thenE (W15 k15_1 Q) Q) .normal e w := fun e w h => then_N (s15_1 (R := R) (Q := Q) hR e w h)
  exact rgA 0 (fun e w => m15_1 R (e 2) (e 3) w) h hN
abbrev m15 (R : VP) (g0 s1 : Value) (w : World) : Prop := m15_0 R g0 s1 w
theorem s15 (g0 s1 : Value) {R : VP} {w : World} (h : m15 R g0 s1 w) :
    Calls Try.prog 15 #[g0, s1] w fun e w' => ∃ v, e = .returned v ∧ R v w' :=
  calls_of_cwp (st := (fun i => cond (Nat.beq i 9) 12 (0))) (c := k15_0) (by kernel_rfl) Try.func15 (by kernel_rfl) (Nat.le_of_ble_eq_true (by kernel_rfl)) (by kernel_rfl)
    (s15_0 (R := R) (Q := endE Try.prog Try.f15 R) (fun e w h => kcast (by kernel_rfl) h) (argsE #[g0, s1]) w (kcast (by kernel_rfl) h))
/-! ### headgate/headgateref16.Value -/
def m44_3 (R : VP) (t2 t3 : Value) (w : World) : Prop :=
  R (Value.tuple #[t2, t3]) w
def m44_2 (R : VP) (v4 rest5 e6 : Value) (w : World) : Prop :=
  valP Try.prog (binS BinOp.eql 3 (Operand.tmp 15) (Operand.const (Value.int IntKind.i64 0)) e6 (Value.int IntKind.i64 0)) w fun t16 w =>
  condP t16
  (valP Try.prog (binS BinOp.eql 9 (Operand.tmp 18) (Operand.const (Value.string ⟨#[]⟩)) rest5 (Value.string ⟨#[]⟩)) w fun t19 w =>
  pickP t16 t19 (Value.bool false) fun t20 =>
  m44_3 R v4 t20 w)
  (pickP t16 undef (Value.bool false) fun t20 =>
  m44_3 R v4 t20 w)
def m44_1 (R : VP) (r1 : Value) (w : World) : Prop :=
  valP Try.prog (Instr.fieldAt 46 r1 2) w fun t8 w =>
  valP Try.prog (Instr.loadAt 9 t8) w fun t9 w =>
  callP Try.prog (fnV 55) #[t9] w fun t10 w =>
  valP Try.prog (Instr.extract t10 0) w fun t11 w =>
  valP Try.prog (Instr.extract t10 1) w fun t12 w =>
  valP Try.prog (Instr.extract t10 2) w fun t13 w =>
  m44_2 R t11 t12 t13 w
def m44_0 (R : VP) (r0 : Value) (w : World) : Prop :=
  valP Try.prog (Instr.box 46 r0) w fun r1 w =>
  m44_1 R r1 w
abbrev W44 := cwp Try.prog (fun i => 0)
noncomputable def k44_0 : Code := (bodyOf Try.f44)
noncomputable def k44_1 : Code := (c2 k44_0)
noncomputable def k44_2 : Code := (c2 k44_1)
noncomputable def k44_3 : Code := (c2 k44_2)
theorem s44_3 {R : VP} {Q : EQ} (hR : ∀ e w, (R (Value.tuple #[(e 2), (e 3)]) w) → Q .ret e w) (e : Env) (w : World) (h : m44_3 R (e 2) (e 3) w) : W44 k44_3 Q e w := by
  unfold m44_3 at h
  exact reA (hR _ _ h)
theorem s44_2 {R : VP} {Q : EQ} (hR : ∀ e w, (R (Value.tuple #[(e 2), (e 3)]) w) → Q .ret e w) (e : Env) (w : World) (h : m44_2 R (e 4) (e 5) (e 6) w) : W44 k44_2 Q e w := by
  unfold m44_2 at h
  refine seA ?_
  have hN : ∀ e w, (m44_3 R (e 2) (e 3) w) → (thenE (W44 k44_3 Q) Q) .normal e w := fun e w h => then_N (s44_3 (R := R) (Q := Q) hR e w h)
  exact rgA 2 (fun e w => m44_3 R (e 2) (e 3) w) h hN
theorem s44_1 {R : VP} {Q : EQ} (hR : ∀ e w, (R (Value.tuple #[(e 2), (e 3)]) w) → Q .ret e w) (e : Env) (w : World) (h : m44_1 R (e 1) w) : W44 k44_1 Q e w := by
  unfold m44_1 at h
  refine seA ?_
  have hN : ∀ e w, (m44_2 R (e 4) (e 5) (e 6) w) → (thenE (W44 k44_2 Q) Q) .normal e w := fun e w h => then_N (s44_2 (R := R) (Q := Q) hR e w h)
  exact rgA 1 (fun e w => m44_2 R (e 4) (e 5) (e 6) w) h hN
theorem s44_0 {R : VP} {Q : EQ} (hR : ∀ e w, (R (Value.tuple #[(e 2), (e 3)]) w) → Q .ret e w) (e : Env) (w : World) (h : m44_0 R (e 0) w) : W44 k44_0 Q e w := by
  unfold m44_0 at h
  refine seA ?_
  have hN : ∀ e w, (m44_1 R (e 1) w) → (thenE (W44 k44_1 Q) Q) .normal e w := fun e w h => then_N (s44_1 (R := R) (Q := Q) hR e w h)
  exact rgA 0 (fun e w => m44_1 R (e 1) w) h hN
abbrev m44 (R : VP) (r0 : Value) (w : World) : Prop := m44_0 R r0 w
theorem s44 (r0 : Value) {R : VP} {w : World} (h : m44 R r0 w) :
    Calls Try.prog 44 #[r0] w fun e w' => ∃ v, e = .returned v ∧ R v w' :=
  calls_of_cwp (st := (fun i => 0)) (c := k44_0) (by kernel_rfl) Try.func44 (by kernel_rfl) (Nat.le_of_ble_eq_true (by kernel_rfl)) (by kernel_rfl)
    (s44_0 (R := R) (Q := endE Try.prog Try.f44 R) (fun e w h => kcast (by kernel_rfl) h) (argsE #[r0]) w (kcast (by kernel_rfl) h))
/-! ### headgate/headgateref16.put -/
def m46_15 (R : VP) (K1 : (Value × Value) → World → Prop) (l0 v3 x9 out10 i11 : Value) (w : World) : Prop :=
  valP Try.prog (binS BinOp.add 3 (Operand.tmp 34) (Operand.const (Value.int IntKind.i64 1)) i11 (Value.int IntKind.i64 1)) w fun t35 w =>
  K1 (out10, t35) w
def m46_14 (R : VP) (K1 : (Value × Value) → World → Prop) (l0 v3 x9 out10 i11 : Value) (w : World) : Prop :=
  valP Try.prog (Instr.indexAt 26 l0 i11) w fun t30 w =>
  valP Try.prog (Instr.loadAt 67 t30) w fun t31 w =>
  valP Try.prog (Instr.buildSlice 26 1 #[(0, t31)]) w fun t32 w =>
  builtinP Try.prog Builtin.append #[26, 26] 26 #[false, false] #[out10, t32] w fun t33 w =>
  m46_15 R K1 l0 v3 x9 t33 i11 w
def m46_10 (R : VP) (t8 : Value) (w : World) : Prop :=
  R t8 w
def m46_9 (R : VP) (out10 : Value) (w : World) : Prop :=
  m46_10 R out10 w
def m46_8 (R : VP) (l0 out10 i11 : Value) (w : World) : Prop :=
  valP Try.prog (Instr.sliceAt 26 l0 (some i11) none none) w fun t67 w =>
  builtinP Try.prog Builtin.append #[26, 26] 26 #[false, false] #[out10, t67] w fun t68 w =>
  m46_9 R t68 w
def m46_7 (R : VP) (l0 x9 out10 i11 : Value) (w : World) : Prop :=
  valP Try.prog (Instr.loadAt 67 x9) w fun t61 w =>
  valP Try.prog (Instr.buildSlice 26 1 #[(0, t61)]) w fun t62 w =>
  builtinP Try.prog Builtin.append #[26, 26] 26 #[false, false] #[out10, t62] w fun t63 w =>
  m46_8 R l0 t63 i11 w
def m46_6 (R : VP) (l0 v3 x9 out10 i11 : Value) (w : World) : Prop :=
  valP Try.prog (Instr.fieldAt 67 x9 2) w fun t55 w =>
  valP Try.prog (Instr.loadAt 65 t55) w fun t56 w =>
  callP Try.prog (fnV 56) #[t56, v3] w fun t58 w =>
  valP Try.prog (Instr.fieldAt 67 x9 2) w fun t59 w =>
  unitP Try.prog (Instr.storeAt 65 t59 t58) w fun _ w =>
  m46_7 R l0 x9 out10 i11 w
def m46_12 (R : VP) (l0 v3 x9 out10 i11 : Value) (w : World) : Prop :=
  valP Try.prog (binS BinOp.add 3 (Operand.tmp 53) (Operand.const (Value.int IntKind.i64 1)) i11 (Value.int IntKind.i64 1)) w fun t54 w =>
  m46_6 R l0 v3 x9 out10 t54 w
def m46_11 (R : VP) (l0 v3 x9 out10 i11 t48 : Value) (w : World) : Prop :=
  condP t48
  (valP Try.prog (Instr.indexAt 26 l0 i11) w fun t51 w =>
  valP Try.prog (Instr.loadAt 67 t51) w fun t52 w =>
  unitP Try.prog (Instr.storeAt 67 x9 t52) w fun _ w =>
  m46_12 R l0 v3 x9 out10 i11 w)
  (m46_6 R l0 v3 x9 out10 i11 w)
def m46_5 (R : VP) (l0 v3 x9 out10 i11 : Value) (w : World) : Prop :=
  anyDraw w fun w =>
  builtinS Try.prog Builtin.len #[26] 3 #[false] #[l0] w fun t38 =>
  valS Try.prog (binS BinOp.lss 3 (Operand.tmp 36) (Operand.tmp 38) i11 t38) w fun t39 =>
  condP t39
  (valS Try.prog (Instr.loadAt 67 x9) w fun t41 =>
  valS Try.prog (Instr.indexAt 26 l0 i11) w fun t44 =>
  valS Try.prog (Instr.loadAt 67 t44) w fun t45 =>
  callP Try.prog (fnV 25) #[t41, t45] w fun t46 w =>
  valP Try.prog (Op.unary UnOp.not t46) w fun t47 w =>
  pickP t39 t47 (Value.bool false) fun t48 =>
  m46_11 R l0 v3 x9 out10 i11 t48 w)
  (pickP t39 undef (Value.bool false) fun t48 =>
  m46_11 R l0 v3 x9 out10 i11 t48 w)
def m46_16 (R : VP) (K1 : (Value × Value) → World → Prop) (l0 v3 x9 out10 i11 t26 : Value) (w : World) : Prop :=
  condP t26
  (m46_14 R K1 l0 v3 x9 out10 i11 w)
  (m46_5 R l0 v3 x9 out10 i11 w)
def m46_13 (R : VP) (K1 : (Value × Value) → World → Prop) (l0 v3 x9 out10 i11 : Value) (w : World) : Prop :=
  anyDraw w fun w =>
  builtinS Try.prog Builtin.len #[26] 3 #[false] #[l0] w fun t17 =>
  valS Try.prog (binS BinOp.lss 3 (Operand.tmp 15) (Operand.tmp 17) i11 t17) w fun t18 =>
  condP t18
  (valS Try.prog (Instr.indexAt 26 l0 i11) w fun t22 =>
  valS Try.prog (Instr.loadAt 67 t22) w fun t23 =>
  valS Try.prog (Instr.loadAt 67 x9) w fun t24 =>
  callP Try.prog (fnV 25) #[t23, t24] w fun t25 w =>
  pickP t18 t25 (Value.bool false) fun t26 =>
  m46_16 R K1 l0 v3 x9 out10 i11 t26 w)
  (pickP t18 undef (Value.bool false) fun t26 =>
  m46_16 R K1 l0 v3 x9 out10 i11 t26 w)
def m46_4 (R : VP) (l0 v3 x9 out10 i11 : Value) (w : World) : Prop :=
  loopP (fun (K1 : (Value × Value) → World → Prop) (s : Value × Value) w => m46_13 R K1 l0 v3 x9 s.1 s.2 w) (out10, i11) w
def m46_3 (R : VP) (l0 v3 x9 out10 : Value) (w : World) : Prop :=
  m46_4 R l0 v3 x9 out10 (Value.int IntKind.i64 0) w
def m46_2 (R : VP) (l0 v3 x9 : Value) (w : World) : Prop :=
  m46_3 R l0 v3 x9 (Value.slice none 0 0) w
def m46_1 (R : VP) (l0 key1 start2 v3 : Value) (w : World) : Prop :=
  valP Try.prog (Instr.build 67 #[(0, key1), (1, start2)]) w fun t14 w =>
  valP Try.prog (Instr.alloc 67 true (.tuple #[])) w fun x9 w =>
  unitP Try.prog (Instr.storeAt 67 x9 t14) w fun _ w =>
  m46_2 R l0 v3 x9 w
def m46_0 (R : VP) (l0 key1 start2 v3 : Value) (w : World) : Prop :=
  m46_1 R l0 key1 start2 v3 w
abbrev W46 := cwp Try.prog (fun i => cond (Nat.beq i 7) 12 (cond (Nat.beq i 4) 12 (0)))
noncomputable def k46_0 : Code := (bodyOf Try.f46)
noncomputable def k46_1 : Code := (c2 k46_0)
noncomputable def k46_2 : Code := (c2 k46_1)
noncomputable def k46_3 : Code := (c2 k46_2)
noncomputable def k46_4 : Code := (c2 k46_3)
noncomputable def k46_5 : Code := (c2 k46_4)
noncomputable def k46_6 : Code := (c2 k46_5)
noncomputable def k46_7 : Code := (c2 k46_6)
noncomputable def k46_8 : Code := (c2 k46_7)
noncomputable def k46_9 : Code := (c2 k46_8)
noncomputable def k46_10 : Code := (c2 k46_9)
noncomputable def k46_11 : Code := (c2 (c1 k46_5))
noncomputable def k46_12 : Code := (c2 (c1 k46_11))
noncomputable def k46_13 : Code := (c1 (c1 (c1 k46_4)))
noncomputable def k46_14 : Code := (c2 k46_13)
noncomputable def k46_15 : Code := (c2 (c1 k46_14))
noncomputable def k46_16 : Code := (c2 (c1 k46_13))
theorem s46_15 {R : VP} {K1 : (Value × Value) → World → Prop} {Q : EQ} (hN : ∀ e w, (K1 ((e 10), (e 11)) w) → Q .normal e w) (e : Env) (w : World) (h : m46_15 R K1 (e 0) (e 3) (e 9) (e 10) (e 11) w) : W46 k46_15 Q e w := by
  unfold m46_15 at h
  exact rgA 6 (fun e w => K1 ((e 10), (e 11)) w) h hN
theorem s46_14 {R : VP} {K1 : (Value × Value) → World → Prop} {Q : EQ} (hN : ∀ e w, (K1 ((e 10), (e 11)) w) → Q .normal e w) (e : Env) (w : World) (h : m46_14 R K1 (e 0) (e 3) (e 9) (e 10) (e 11) w) : W46 k46_14 Q e w := by
  unfold m46_14 at h
  refine block_ok 1 (by kernel_rfl) ?_
  have hN : ∀ e w, (K1 ((e 10), (e 11)) w) → (inBlockE 1 Q) .normal e w := fun e w h => block_N (hN e w h)
  refine seA ?_
  have hN : ∀ e w, (m46_15 R K1 (e 0) (e 3) (e 9) (e 10) (e 11) w) → (thenE (W46 k46_15 (inBlockE 1 Q)) (inBlockE 1 Q)) .normal e w := fun e w h => then_N (s46_15 (R := R) (Q := (inBlockE 1 Q)) (K1 := K1) hN e w h)
  exact rgA 5 (fun e w => m46_15 R K1 (e 0) (e 3) (e 9) (e 10) (e 11) w) h hN
theorem s46_10 {R : VP} {Q : EQ} (hR : ∀ e w, (R (e 8) w) → Q .ret e w) (e : Env) (w : World) (h : m46_10 R (e 8) w) : W46 k46_10 Q e w := by
  unfold m46_10 at h
  exact reA (hR _ _ h)
theorem s46_9 {R : VP} {Q : EQ} (hR : ∀ e w, (R (e 8) w) → Q .ret e w) (e : Env) (w : World) (h : m46_9 R (e 10) w) : W46 k46_9 Q e w := by
  unfold m46_9 at h
  refine seA ?_
  have hN : ∀ e w, (m46_10 R (e 8) w) → (thenE (W46 k46_10 Q) Q) .normal e w := fun e w h => then_N (s46_10 (R := R) (Q := Q) hR e w h)
  exact rgA 13 (fun e w => m46_10 R (e 8) w) h hN
theorem s46_8 {R : VP} {Q : EQ} (hR : ∀ e w, (R (e 8) w) → Q .ret e w) (e : Env) (w : World) (h : m46_8 R (e 0) (e 10) (e 11) w) : W46 k46_8 Q e w := by
  unfold m46_8 at h
  refine seA ?_
  have hN : ∀ e w, (m46_9 R (e 10) w) → (thenE (W46 k46_9 Q) Q) .normal e w := fun e w h => then_N (s46_9 (R := R) (Q := Q) hR e w h)
  exact rgA 12 (fun e w => m46_9 R (e 10) w) h hN
theorem s46_7 {R : VP} {Q : EQ} (hR : ∀ e w, (R (e 8) w) → Q .ret e w) (e : Env) (w : World) (h : m46_7 R (e 0) (e 9) (e 10) (e 11) w) : W46 k46_7 Q e w := by
  unfold m46_7 at h
  refine seA ?_
  have hN : ∀ e w, (m46_8 R (e 0) (e 10) (e 11) w) → (thenE (W46 k46_8 Q) Q) .normal e w := fun e w h => then_N (s46_8 (R := R) (Q := Q) hR e w h)
  exact rgA 11 (fun e w => m46_8 R (e 0) (e 10) (e 11) w) h hN
theorem s46_6 {R : VP} {Q : EQ} (hR : ∀ e w, (R (e 8) w) → Q .ret e w) (e : Env) (w : World) (h : m46_6 R (e 0) (e 3) (e 9) (e 10) (e 11) w) : W46 k46_6 Q e w := by
  unfold m46_6 at h
  refine seA ?_
  have hN : ∀ e w, (m46_7 R (e 0) (e 9) (e 10) (e 11) w) → (thenE (W46 k46_7 Q) Q) .normal e w := fun e w h => then_N (s46_7 (R := R) (Q := Q) hR e w h)
  exact rgA 10 (fun e w => m46_7 R (e 0) (e 9) (e 10) (e 11) w) h hN
theorem s46_12 {R : VP} {Q : EQ} (hN : ∀ e w, (m46_6 R (e 0) (e 3) (e 9) (e 10) (e 11) w) → Q .normal e w) (e : Env) (w : World) (h : m46_12 R (e 0) (e 3) (e 9) (e 10) (e 11) w) : W46 k46_12 Q e w := by
  unfold m46_12 at h
  exact rgA 9 (fun e w => m46_6 R (e 0) (e 3) (e 9) (e 10) (e 11) w) h hN
theorem s46_11 {R : VP} {Q : EQ} (hN : ∀ e w, (m46_6 R (e 0) (e 3) (e 9) (e 10) (e 11) w) → Q .normal e w) (e : Env) (w : World) (h : m46_11 R (e 0) (e 3) (e 9) (e 10) (e 11) (e 48) w) : W46 k46_11 Q e w := by
  unfold m46_11 at h
  refine coA (Operand.tmp 48) h (fun h1 => ?_) (fun h1 => ?_)
  · refine seA ?_
    have hN : ∀ e w, (m46_12 R (e 0) (e 3) (e 9) (e 10) (e 11) w) → (thenE (W46 k46_12 Q) Q) .normal e w := fun e w h => then_N (s46_12 (R := R) (Q := Q) hN e w h)
    exact rgA 8 (fun e w => m46_12 R (e 0) (e 3) (e 9) (e 10) (e 11) w) h1 hN
  · exact skA (hN _ _ h1)
theorem s46_5 {R : VP} {Q : EQ} (hR : ∀ e w, (R (e 8) w) → Q .ret e w) (e : Env) (w : World) (h : m46_5 R (e 0) (e 3) (e 9) (e 10) (e 11) w) : W46 k46_5 Q e w := by
  unfold m46_5 at h
  refine seA ?_
  have hN : ∀ e w, (m46_6 R (e 0) (e 3) (e 9) (e 10) (e 11) w) → (thenE (W46 k46_6 Q) Q) .normal e w := fun e w h => then_N (s46_6 (R := R) (Q := Q) hR e w h)
  refine seA ?_
  have hN : ∀ e w, (m46_11 R (e 0) (e 3) (e 9) (e 10) (e 11) (e 48) w) → (thenE (W46 k46_11 (thenE (W46 k46_6 Q) Q)) (thenE (W46 k46_6 Q) Q)) .normal e w := fun e w h => then_N (s46_11 (R := R) (Q := (thenE (W46 k46_6 Q) Q)) hN e w h)
  exact taA 7 10 (fun e w => m46_11 R (e 0) (e 3) (e 9) (e 10) (e 11) (e 48) w) h hN
theorem s46_16 {R : VP} {K1 : (Value × Value) → World → Prop} {Q : EQ} (hN : ∀ e w, (m46_14 R K1 (e 0) (e 3) (e 9) (e 10) (e 11) w) → Q .normal e w) (hX0 : ∀ e w, (m46_5 R (e 0) (e 3) (e 9) (e 10) (e 11) w) → Q (.exit 0) e w) (e : Env) (w : World) (h : m46_16 R K1 (e 0) (e 3) (e 9) (e 10) (e 11) (e 26) w) : W46 k46_16 Q e w := by
  unfold m46_16 at h
  refine coA (Operand.tmp 26) h (fun h1 => ?_) (fun h1 => ?_)
  · exact skA (hN _ _ h1)
  · exact exA 0 (hX0 _ _ h1)
theorem s46_13 {R : VP} {K1 : (Value × Value) → World → Prop} {Q : EQ} (hN : ∀ e w, (K1 ((e 10), (e 11)) w) → Q .normal e w) (hX0 : ∀ e w, (m46_5 R (e 0) (e 3) (e 9) (e 10) (e 11) w) → Q (.exit 0) e w) (e : Env) (w : World) (h : m46_13 R K1 (e 0) (e 3) (e 9) (e 10) (e 11) w) : W46 k46_13 Q e w := by
  unfold m46_13 at h
  refine seA ?_
  have hN : ∀ e w, (m46_14 R K1 (e 0) (e 3) (e 9) (e 10) (e 11) w) → (thenE (W46 k46_14 Q) Q) .normal e w := fun e w h => then_N (s46_14 (R := R) (Q := Q) (K1 := K1) hN e w h)
  have hX0 : ∀ e w, (m46_5 R (e 0) (e 3) (e 9) (e 10) (e 11) w) → (thenE (W46 k46_14 Q) Q) (.exit 0) e w := fun e w h => then_X (hX0 e w h)
  refine seA ?_
  have hN : ∀ e w, (m46_16 R K1 (e 0) (e 3) (e 9) (e 10) (e 11) (e 26) w) → (thenE (W46 k46_16 (thenE (W46 k46_14 Q) Q)) (thenE (W46 k46_14 Q) Q)) .normal e w := fun e w h => then_N (s46_16 (R := R) (Q := (thenE (W46 k46_14 Q) Q)) (K1 := K1) hN hX0 e w h)
  exact taA 4 10 (fun e w => m46_16 R K1 (e 0) (e 3) (e 9) (e 10) (e 11) (e 26) w) h hN
theorem s46_4 {R : VP} {Q : EQ} (hR : ∀ e w, (R (e 8) w) → Q .ret e w) (e : Env) (w : World) (h : m46_4 R (e 0) (e 3) (e 9) (e 10) (e 11) w) : W46 k46_4 Q e w := by
  unfold m46_4 at h
  refine seA ?_
  have hN : ∀ e w, (m46_5 R (e 0) (e 3) (e 9) (e 10) (e 11) w) → (thenE (W46 k46_5 Q) Q) .normal e w := fun e w h => then_N (s46_5 (R := R) (Q := Q) hR e w h)
  refine block_ok 0 (by kernel_rfl) ?_
  have hX0 : ∀ e w, (m46_5 R (e 0) (e 3) (e 9) (e 10) (e 11) w) → (inBlockE 0 (thenE (W46 k46_5 Q) Q)) (.exit 0) e w := fun e w h => inBlock_same (Q := (thenE (W46 k46_5 Q) Q)) 0 (hN e w h)
  refine loop_ok' (fun (e : Env) => (e 10, e 11)) [0, 3, 9] (by kernel_rfl) (by kernel_rfl) h (fun K e' w' hk h' => ?_)
  have r0 : e' 0 = e 0 := hk 0 (by decide)
  have r3 : e' 3 = e 3 := hk 3 (by decide)
  have r9 : e' 9 = e 9 := hk 9 (by decide)
  have hX0 : ∀ e w, (m46_5 R (e 0) (e 3) (e 9) (e 10) (e 11) w) → (thenE (fun (e : Env) w => K ((e 10), (e 11)) w) (inBlockE 0 (thenE (W46 k46_5 Q) Q))) (.exit 0) e w := fun e w h => then_X (hX0 e w h)
  exact s46_13 (R := R) (Q := (thenE (fun (e : Env) w => K ((e 10), (e 11)) w) (inBlockE 0 (thenE (W46 k46_5 Q) Q)))) (K1 := K) (fun _ _ h => then_N h) hX0 e' w' (by rw [r0, r3, r9]; exact h')
theorem s46_3 {R : VP} {Q : EQ} (hR : ∀ e w, (R (e 8) w) → Q .ret e w) (e : Env) (w : World) (h : m46_3 R (e 0) (e 3) (e 9) (e 10) w) : W46 k46_3 Q e w := by
  unfold m46_3 at h
  refine seA ?_
  have hN : ∀ e w, (m46_4 R (e 0) (e 3) (e 9) (e 10) (e 11) w) → (thenE (W46 k46_4 Q) Q) .normal e w := fun e w h => then_N (s46_4 (R := R) (Q := Q) hR e w h)
  exact rgA 3 (fun e w => m46_4 R (e 0) (e 3) (e 9) (e 10) (e 11) w) h hN
theorem s46_2 {R : VP} {Q : EQ} (hR : ∀ e w, (R (e 8) w) → Q .ret e w) (e : Env) (w : World) (h : m46_2 R (e 0) (e 3) (e 9) w) : W46 k46_2 Q e w := by
  unfold m46_2 at h
  refine seA ?_
  have hN : ∀ e w, (m46_3 R (e 0) (e 3) (e 9) (e 10) w) → (thenE (W46 k46_3 Q) Q) .normal e w := fun e w h => then_N (s46_3 (R := R) (Q := Q) hR e w h)
  exact rgA 2 (fun e w => m46_3 R (e 0) (e 3) (e 9) (e 10) w) h hN
theorem s46_1 {R : VP} {Q : EQ} (hR : ∀ e w, (R (e 8) w) → Q .ret e w) (e : Env) (w : World) (h : m46_1 R (e 0) (e 1) (e 2) (e 3) w) : W46 k46_1 Q e w := by
  unfold m46_1 at h
  refine seA ?_
  have hN : ∀ e w, (m46_2 R (e 0) (e 3) (e 9) w) → (thenE (W46 k46_2 Q) Q) .normal e w := fun e w h => then_N (s46_2 (R := R) (Q := Q) hR e w h)
  exact rgA 1 (fun e w => m46_2 R (e 0) (e 3) (e 9) w) h hN
theorem s46_0 {R : VP} {Q : EQ} (hR : ∀ e w, (R (e 8) w) → Q .ret e w) (e : Env) (w : World) (h : m46_0 R (e 0) (e 1) (e 2) (e 3) w) : W46 k46_0 Q e w := by
  unfold m46_0 at h
  refine seA ?_
  have hN : ∀ e w, (m46_1 R (e 0) (e 1) (e 2) (e 3) w) → (thenE (W46 k46_1 Q) Q) .normal e w := fun e w h => then_N (s46_1 (R := R) (Q := Q) hR e w h)
  exact rgA 0 (fun e w => m46_1 R (e 0) (e 1) (e 2) (e 3) w) h hN
abbrev m46 (R : VP) (l0 key1 start2 v3 : Value) (w : World) : Prop := m46_0 R l0 key1 start2 v3 w
theorem s46 (l0 key1 start2 v3 : Value) {R : VP} {w : World} (h : m46 R l0 key1 start2 v3 w) :
    Calls Try.prog 46 #[l0, key1, start2, v3] w fun e w' => ∃ v, e = .returned v ∧ R v w' :=
  calls_of_cwp (st := (fun i => cond (Nat.beq i 7) 12 (cond (Nat.beq i 4) 12 (0)))) (c := k46_0) (by kernel_rfl) Try.func46 (by kernel_rfl) (Nat.le_of_ble_eq_true (by kernel_rfl)) (by kernel_rfl)
    (s46_0 (R := R) (Q := endE Try.prog Try.f46 R) (fun e w h => kcast (by kernel_rfl) h) (argsE #[l0, key1, start2, v3]) w (kcast (by kernel_rfl) h))
/-! ### headgate/headgateref16.Feed -/
def m24_39 (R : VP) (t6 t7 t8 : Value) (w : World) : Prop :=
  valS Try.prog (loadC 28 t6) w fun r0 =>
  R (Value.tuple #[r0, t7, t8]) w
def m24_37 (R : VP) (t6 t7 t8 : Value) (w : World) : Prop :=
  valS Try.prog (loadC 28 t6) w fun r0 =>
  R (Value.tuple #[r0, t7, t8]) w
def m24_35 (R : VP) (t6 t7 t8 : Value) (w : World) : Prop :=
  valS Try.prog (loadC 28 t6) w fun r0 =>
  R (Value.tuple #[r0, t7, t8]) w
def m24_34 (R : VP) (s4 t6 : Value) (w : World) : Prop :=
  valP Try.prog (Instr.loadAt 28 s4) w fun t60 w =>
  unitP Try.prog (Instr.storeAt 28 t6 t60) w fun _ w =>
  m24_35 R t6 (Value.slice none 0 0) (Value.int IntKind.i64 0) w
def m24_29 (R : VP) (K1 : (Value × Value × Value) → World → Prop) (g3 s4 r5 t6 v9 starts11 l13 n14 i15 : Value) (w : World) : Prop :=
  valP Try.prog (binS BinOp.add 3 (Operand.tmp 74) (Operand.const (Value.int IntKind.i64 1)) i15 (Value.int IntKind.i64 1)) w fun t75 w =>
  K1 (l13, n14, t75) w
def m24_31 (R : VP) (K1 : (Value × Value × Value) → World → Prop) (g3 s4 r5 t6 v9 starts11 l13 n14 i15 : Value) (w : World) : Prop :=
  valP Try.prog (binS BinOp.add 3 (Operand.tmp 94) (Operand.const (Value.int IntKind.i64 1)) n14 (Value.int IntKind.i64 1)) w fun t95 w =>
  m24_29 R K1 g3 s4 r5 t6 v9 starts11 l13 t95 i15 w
def m24_30 (R : VP) (K1 : (Value × Value × Value) → World → Prop) (g3 s4 r5 t6 v9 starts11 l13 n14 i15 t84 : Value) (w : World) : Prop :=
  condP t84
  (anyDraw w fun w =>
  valS Try.prog (Instr.fieldAt 46 r5 0) w fun t86 =>
  valS Try.prog (Instr.loadAt 3 t86) w fun t87 =>
  valS Try.prog (Instr.indexAt 51 starts11 i15) w fun t90 =>
  valS Try.prog (Instr.loadAt 3 t90) w fun t91 =>
  callP Try.prog (fnV 46) #[l13, t87, t91, v9] w fun t93 w =>
  m24_31 R K1 g3 s4 r5 t6 v9 starts11 t93 n14 i15 w)
  (m24_29 R K1 g3 s4 r5 t6 v9 starts11 l13 n14 i15 w)
def m24_28 (R : VP) (K1 : (Value × Value × Value) → World → Prop) (g3 s4 r5 t6 v9 starts11 l13 n14 i15 : Value) (w : World) : Prop :=
  anyDraw w fun w =>
  valS Try.prog (Instr.loadAt 23 g3) w fun t76 =>
  valS Try.prog (Instr.indexAt 51 starts11 i15) w fun t79 =>
  valS Try.prog (Instr.loadAt 3 t79) w fun t80 =>
  valS Try.prog (Instr.fieldAt 28 s4 0) w fun t81 =>
  valS Try.prog (Instr.loadAt 3 t81) w fun t82 =>
  callP Try.prog (fnV 29) #[t76, t80, t82] w fun t83 w =>
  valP Try.prog (Op.unary UnOp.not t83) w fun t84 w =>
  m24_30 R K1 g3 s4 r5 t6 v9 starts11 l13 n14 i15 t84 w
def m24_20 (R : VP) (K1 : (Value × Value × Value) → World → Prop) (g3 s4 t6 l13 open16 over17 i18 : Value) (w : World) : Prop :=
  valP Try.prog (binS BinOp.add 3 (Operand.tmp 121) (Operand.const (Value.int IntKind.i64 1)) i18 (Value.int IntKind.i64 1)) w fun t122 w =>
  K1 (open16, over17, t122) w
def m24_21 (R : VP) (K1 : (Value × Value × Value) → World → Prop) (g3 s4 t6 l13 open16 over17 i18 t131 : Value) (w : World) : Prop :=
  condP t131
  (valP Try.prog (Instr.indexAt 26 l13 i18) w fun t135 w =>
  valP Try.prog (Instr.loadAt 67 t135) w fun t136 w =>
  valP Try.prog (Instr.buildSlice 26 1 #[(0, t136)]) w fun t137 w =>
  builtinP Try.prog Builtin.append #[26, 26] 26 #[false, false] #[over17, t137] w fun t138 w =>
  m24_20 R K1 g3 s4 t6 l13 open16 t138 i18 w)
  (valP Try.prog (Instr.indexAt 26 l13 i18) w fun t142 w =>
  valP Try.prog (Instr.loadAt 67 t142) w fun t143 w =>
  valP Try.prog (Instr.buildSlice 26 1 #[(0, t143)]) w fun t144 w =>
  builtinP Try.prog Builtin.append #[26, 26] 26 #[false, false] #[open16, t144] w fun t145 w =>
  m24_20 R K1 g3 s4 t6 l13 t145 over17 i18 w)
def m24_19 (R : VP) (K1 : (Value × Value × Value) → World → Prop) (g3 s4 t6 l13 open16 over17 i18 : Value) (w : World) : Prop :=
  anyDraw w fun w =>
  valS Try.prog (Instr.loadAt 23 g3) w fun t123 =>
  valS Try.prog (Instr.indexAt 26 l13 i18) w fun t126 =>
  valS Try.prog (Instr.fieldAt 67 t126 1) w fun t127 =>
  valS Try.prog (Instr.loadAt 3 t127) w fun t128 =>
  valS Try.prog (Instr.fieldAt 28 s4 0) w fun t129 =>
  valS Try.prog (Instr.loadAt 3 t129) w fun t130 =>
  callP Try.prog (fnV 29) #[t123, t128, t130] w fun t131 w =>
  m24_21 R K1 g3 s4 t6 l13 open16 over17 i18 t131 w
def m24_16 (R : VP) (t6 t7 t8 : Value) (w : World) : Prop :=
  valS Try.prog (loadC 28 t6) w fun r0 =>
  R (Value.tuple #[r0, t7, t8]) w
def m24_15 (R : VP) (s4 t6 over17 : Value) (w : World) : Prop :=
  valP Try.prog (Instr.loadAt 28 s4) w fun t148 w =>
  unitP Try.prog (Instr.storeAt 28 t6 t148) w fun _ w =>
  m24_16 R t6 over17 (Value.int IntKind.i64 0) w
def m24_14 (R : VP) (s4 t6 open16 over17 : Value) (w : World) : Prop :=
  valP Try.prog (Instr.fieldAt 28 s4 4) w fun t147 w =>
  unitP Try.prog (Instr.storeAt 26 t147 open16) w fun _ w =>
  m24_15 R s4 t6 over17 w
def m24_22 (R : VP) (K1 : (Value × Value × Value) → World → Prop) (g3 s4 t6 l13 open16 over17 i18 t120 : Value) (w : World) : Prop :=
  condP t120
  (m24_19 R K1 g3 s4 t6 l13 open16 over17 i18 w)
  (m24_14 R s4 t6 open16 over17 w)
def m24_18 (R : VP) (K1 : (Value × Value × Value) → World → Prop) (g3 s4 t6 l13 open16 over17 i18 : Value) (w : World) : Prop :=
  builtinP Try.prog Builtin.len #[26] 3 #[false] #[l13] w fun t119 w =>
  valP Try.prog (binS BinOp.lss 3 (Operand.tmp 117) (Operand.tmp 119) i18 t119) w fun t120 w =>
  m24_22 R K1 g3 s4 t6 l13 open16 over17 i18 t120 w
def m24_17 (R : VP) (g3 s4 t6 l13 open16 over17 i18 : Value) (w : World) : Prop :=
  loopP (fun (K1 : (Value × Value × Value) → World → Prop) (s : Value × Value × Value) w => m24_18 R K1 g3 s4 t6 l13 s.1 s.2.1 s.2.2 w) (open16, over17, i18) w
def m24_13 (R : VP) (g3 s4 t6 l13 open16 over17 : Value) (w : World) : Prop :=
  m24_17 R g3 s4 t6 l13 open16 over17 (Value.int IntKind.i64 0) w
def m24_12 (R : VP) (g3 s4 t6 l13 : Value) (w : World) : Prop :=
  m24_13 R g3 s4 t6 l13 (Value.slice none 0 0) (Value.slice none 0 0) w
def m24_23 (R : VP) (g3 s4 r5 t6 l13 t113 : Value) (w : World) : Prop :=
  condP t113
  (valP Try.prog (Instr.fieldAt 46 r5 1) w fun t114 w =>
  valP Try.prog (Instr.loadAt 3 t114) w fun t115 w =>
  valP Try.prog (Instr.fieldAt 28 s4 0) w fun t116 w =>
  unitP Try.prog (Instr.storeAt 3 t116 t115) w fun _ w =>
  m24_12 R g3 s4 t6 l13 w)
  (m24_12 R g3 s4 t6 l13 w)
def m24_11 (R : VP) (g3 s4 r5 t6 l13 : Value) (w : World) : Prop :=
  valP Try.prog (Instr.fieldAt 46 r5 1) w fun t109 w =>
  valP Try.prog (Instr.loadAt 3 t109) w fun t110 w =>
  valP Try.prog (Instr.fieldAt 28 s4 0) w fun t111 w =>
  valP Try.prog (Instr.loadAt 3 t111) w fun t112 w =>
  valP Try.prog (binS BinOp.gtr 3 (Operand.tmp 110) (Operand.tmp 112) t110 t112) w fun t113 w =>
  m24_23 R g3 s4 r5 t6 l13 t113 w
def m24_25 (R : VP) (g3 s4 r5 t6 : Value) (w : World) : Prop :=
  valP Try.prog (Instr.fieldAt 28 s4 4) w fun t107 w =>
  valP Try.prog (Instr.loadAt 26 t107) w fun t108 w =>
  m24_11 R g3 s4 r5 t6 t108 w
def m24_24 (R : VP) (g3 s4 r5 t6 l13 t102 : Value) (w : World) : Prop :=
  condP t102
  (valP Try.prog (Instr.fieldAt 28 s4 1) w fun t103 w =>
  valP Try.prog (Instr.loadAt 3 t103) w fun t104 w =>
  valP Try.prog (binS BinOp.add 3 (Operand.tmp 104) (Operand.const (Value.int IntKind.i64 1)) t104 (Value.int IntKind.i64 1)) w fun t105 w =>
  valP Try.prog (Instr.fieldAt 28 s4 1) w fun t106 w =>
  unitP Try.prog (Instr.storeAt 3 t106 t105) w fun _ w =>
  m24_25 R g3 s4 r5 t6 w)
  (m24_11 R g3 s4 r5 t6 l13 w)
def m24_10 (R : VP) (g3 s4 r5 t6 l13 n14 : Value) (w : World) : Prop :=
  valP Try.prog (binS BinOp.eql 3 (Operand.tmp 96) (Operand.const (Value.int IntKind.i64 0)) n14 (Value.int IntKind.i64 0)) w fun t97 w =>
  condP t97
  (pickP t97 (Value.bool true) undef fun t102 =>
  m24_24 R g3 s4 r5 t6 l13 t102 w)
  (builtinP Try.prog Builtin.len #[26] 3 #[false] #[l13] w fun t100 w =>
  valP Try.prog (binS BinOp.gtr 3 (Operand.tmp 100) (Operand.const (Value.int IntKind.i64 64)) t100 (Value.int IntKind.i64 64)) w fun t101 w =>
  pickP t97 (Value.bool true) t101 fun t102 =>
  m24_24 R g3 s4 r5 t6 l13 t102 w)
def m24_32 (R : VP) (K1 : (Value × Value × Value) → World → Prop) (g3 s4 r5 t6 v9 starts11 l13 n14 i15 t73 : Value) (w : World) : Prop :=
  condP t73
  (m24_28 R K1 g3 s4 r5 t6 v9 starts11 l13 n14 i15 w)
  (m24_10 R g3 s4 r5 t6 l13 n14 w)
def m24_27 (R : VP) (K1 : (Value × Value × Value) → World → Prop) (g3 s4 r5 t6 v9 starts11 l13 n14 i15 : Value) (w : World) : Prop :=
  builtinP Try.prog Builtin.len #[51] 3 #[false] #[starts11] w fun t72 w =>
  valP Try.prog (binS BinOp.lss 3 (Operand.tmp 70) (Operand.tmp 72) i15 t72) w fun t73 w =>
  m24_32 R K1 g3 s4 r5 t6 v9 starts11 l13 n14 i15 t73 w
def m24_26 (R : VP) (g3 s4 r5 t6 v9 starts11 l13 n14 i15 : Value) (w : World) : Prop :=
  loopP (fun (K1 : (Value × Value × Value) → World → Prop) (s : Value × Value × Value) w => m24_27 R K1 g3 s4 r5 t6 v9 starts11 s.1 s.2.1 s.2.2 w) (l13, n14, i15) w
def m24_9 (R : VP) (g3 s4 r5 t6 v9 starts11 l13 n14 : Value) (w : World) : Prop :=
  m24_26 R g3 s4 r5 t6 v9 starts11 l13 n14 (Value.int IntKind.i64 0) w
def m24_8 (R : VP) (g3 s4 r5 t6 v9 starts11 l13 : Value) (w : World) : Prop :=
  m24_9 R g3 s4 r5 t6 v9 starts11 l13 (Value.int IntKind.i64 0) w
def m24_7 (R : VP) (g3 s4 r5 t6 v9 starts11 : Value) (w : World) : Prop :=
  valP Try.prog (Instr.fieldAt 28 s4 4) w fun t68 w =>
  valP Try.prog (Instr.loadAt 26 t68) w fun t69 w =>
  m24_8 R g3 s4 r5 t6 v9 starts11 t69 w
def m24_6 (R : VP) (g3 s4 r5 t6 v9 : Value) (w : World) : Prop :=
  valP Try.prog (Instr.loadAt 23 g3) w fun t62 w =>
  valP Try.prog (Instr.fieldAt 46 r5 1) w fun t63 w =>
  valP Try.prog (Instr.loadAt 3 t63) w fun t64 w =>
  callP Try.prog (fnV 45) #[t62, t64] w fun t65 w =>
  valP Try.prog (Instr.extract t65 0) w fun t66 w =>
  valP Try.prog (Instr.extract t65 1) w fun t67 w =>
  m24_7 R g3 s4 r5 t6 v9 t66 w
def m24_33 (R : VP) (g3 s4 r5 t6 v9 t55 : Value) (w : World) : Prop :=
  condP t55
  (valP Try.prog (Instr.fieldAt 28 s4 2) w fun t56 w =>
  valP Try.prog (Instr.loadAt 3 t56) w fun t57 w =>
  valP Try.prog (binS BinOp.add 3 (Operand.tmp 57) (Operand.const (Value.int IntKind.i64 1)) t57 (Value.int IntKind.i64 1)) w fun t58 w =>
  valP Try.prog (Instr.fieldAt 28 s4 2) w fun t59 w =>
  unitP Try.prog (Instr.storeAt 3 t59 t58) w fun _ w =>
  m24_34 R s4 t6 w)
  (m24_6 R g3 s4 r5 t6 v9 w)
def m24_5 (R : VP) (g3 s4 r5 t6 v9 ok10 : Value) (w : World) : Prop :=
  valP Try.prog (Op.unary UnOp.not ok10) w fun t55 w =>
  m24_33 R g3 s4 r5 t6 v9 t55 w
def m24_4 (R : VP) (g3 s4 r5 t6 : Value) (w : World) : Prop :=
  valP Try.prog (Instr.loadAt 46 r5) w fun t50 w =>
  callP Try.prog (fnV 44) #[t50] w fun t51 w =>
  valP Try.prog (Instr.extract t51 0) w fun t52 w =>
  valP Try.prog (Instr.extract t51 1) w fun t53 w =>
  m24_5 R g3 s4 r5 t6 t52 t53 w
def m24_3 (R : VP) (g3 s4 r5 t6 : Value) (w : World) : Prop :=
  valP Try.prog (Instr.fieldAt 28 s4 3) w fun t45 w =>
  valP Try.prog (Instr.loadAt 3 t45) w fun t46 w =>
  valP Try.prog (binS BinOp.add 3 (Operand.tmp 46) (Operand.const (Value.int IntKind.i64 1)) t46 (Value.int IntKind.i64 1)) w fun t47 w =>
  valP Try.prog (Instr.fieldAt 28 s4 3) w fun t48 w =>
  unitP Try.prog (Instr.storeAt 3 t48 t47) w fun _ w =>
  m24_4 R g3 s4 r5 t6 w
def m24_36 (R : VP) (g3 s4 r5 t6 t43 : Value) (w : World) : Prop :=
  condP t43
  (valP Try.prog (Instr.build 28 #[]) w fun t44 w =>
  unitP Try.prog (Instr.storeAt 28 t6 t44) w fun _ w =>
  m24_37 R t6 (Value.slice none 0 0) (Value.int IntKind.i64 6) w)
  (m24_3 R g3 s4 r5 t6 w)
def m24_2 (R : VP) (g3 s4 r5 t6 : Value) (w : World) : Prop :=
  valP Try.prog (Instr.fieldAt 28 s4 3) w fun t41 w =>
  valP Try.prog (Instr.loadAt 3 t41) w fun t42 w =>
  valP Try.prog (binS BinOp.eql 3 (Operand.tmp 42) (Operand.const (Value.int IntKind.i64 1099511627776)) t42 (Value.int IntKind.i64 1099511627776)) w fun t43 w =>
  m24_36 R g3 s4 r5 t6 t43 w
def m24_38 (R : VP) (g3 s4 r5 t6 t39 : Value) (w : World) : Prop :=
  condP t39
  (valP Try.prog (Instr.build 28 #[]) w fun t40 w =>
  unitP Try.prog (Instr.storeAt 28 t6 t40) w fun _ w =>
  m24_39 R t6 (Value.slice none 0 0) (Value.int IntKind.i64 1) w)
  (m24_2 R g3 s4 r5 t6 w)
def m24_1 (R : VP) (g3 s4 r5 t6 : Value) (w : World) : Prop :=
  valP Try.prog (Instr.loadAt 23 g3) w fun t19 w =>
  valP Try.prog (Instr.loadAt 28 s4) w fun t20 w =>
  callP Try.prog (fnV 15) #[t19, t20] w fun t21 w =>
  valP Try.prog (Op.unary UnOp.not t21) w fun t22 w =>
  condP t22
  (pickP t22 (Value.bool true) undef fun t28 =>
  condP t28
  (pickP t28 (Value.bool true) undef fun t33 =>
  condP t33
  (pickP t33 (Value.bool true) undef fun t39 =>
  m24_38 R g3 s4 r5 t6 t39 w)
  (valP Try.prog (Instr.fieldAt 46 r5 1) w fun t35 w =>
  valP Try.prog (Instr.loadAt 3 t35) w fun t36 w =>
  callP Try.prog (fnV 28) #[t36] w fun t37 w =>
  valP Try.prog (Op.unary UnOp.not t37) w fun t38 w =>
  pickP t33 (Value.bool true) t38 fun t39 =>
  m24_38 R g3 s4 r5 t6 t39 w))
  (valP Try.prog (Instr.fieldAt 46 r5 0) w fun t30 w =>
  valP Try.prog (Instr.loadAt 3 t30) w fun t31 w =>
  valP Try.prog (binS BinOp.gtr 3 (Operand.tmp 31) (Operand.const (Value.int IntKind.i64 1048576)) t31 (Value.int IntKind.i64 1048576)) w fun t32 w =>
  pickP t28 (Value.bool true) t32 fun t33 =>
  condP t33
  (pickP t33 (Value.bool true) undef fun t39 =>
  m24_38 R g3 s4 r5 t6 t39 w)
  (valP Try.prog (Instr.fieldAt 46 r5 1) w fun t35 w =>
  valP Try.prog (Instr.loadAt 3 t35) w fun t36 w =>
  callP Try.prog (fnV 28) #[t36] w fun t37 w =>
  valP Try.prog (Op.unary UnOp.not t37) w fun t38 w =>
  pickP t33 (Value.bool true) t38 fun t39 =>
  m24_38 R g3 s4 r5 t6 t39 w)))
  (valP Try.prog (Instr.fieldAt 46 r5 0) w fun t24 w =>
  valP Try.prog (Instr.loadAt 3 t24) w fun t25 w =>
  callP Try.prog (fnV 28) #[t25] w fun t26 w =>
  valP Try.prog (Op.unary UnOp.not t26) w fun t27 w =>
  pickP t22 (Value.bool true) t27 fun t28 =>
  condP t28
  (pickP t28 (Value.bool true) undef fun t33 =>
  condP t33
  (pickP t33 (Value.bool true) undef fun t39 =>
  m24_38 R g3 s4 r5 t6 t39 w)
  (valP Try.prog (Instr.fieldAt 46 r5 1) w fun t35 w =>
  valP Try.prog (Instr.loadAt 3 t35) w fun t36 w =>
  callP Try.prog (fnV 28) #[t36] w fun t37 w =>
  valP Try.prog (Op.unary UnOp.not t37) w fun t38 w =>
  pickP t33 (Value.bool true) t38 fun t39 =>
  m24_38 R g3 s4 r5 t6 t39 w))
  (valP Try.prog (Instr.fieldAt 46 r5 0) w fun t30 w =>
  valP Try.prog (Instr.loadAt 3 t30) w fun t31 w =>
  valP Try.prog (binS BinOp.gtr 3 (Operand.tmp 31) (Operand.const (Value.int IntKind.i64 1048576)) t31 (Value.int IntKind.i64 1048576)) w fun t32 w =>
  pickP t28 (Value.bool true) t32 fun t33 =>
  condP t33
  (pickP t33 (Value.bool true) undef fun t39 =>
  m24_38 R g3 s4 r5 t6 t39 w)
  (valP Try.prog (Instr.fieldAt 46 r5 1) w fun t35 w =>
  valP Try.prog (Instr.loadAt 3 t35) w fun t36 w =>
  callP Try.prog (fnV 28) #[t36] w fun t37 w =>
  valP Try.prog (Op.unary UnOp.not t37) w fun t38 w =>
  pickP t33 (Value.bool true) t38 fun t39 =>
  m24_38 R g3 s4 r5 t6 t39 w)))
def m24_0 (R : VP) (g0 s1 r2 : Value) (w : World) : Prop :=
  valP Try.prog (Instr.box 23 g0) w fun g3 w =>
  valP Try.prog (Instr.box 28 s1) w fun s4 w =>
  valP Try.prog (Instr.box 46 r2) w fun r5 w =>
  valP Try.prog (Instr.alloc 28 true (.tuple #[])) w fun t6 w =>
  m24_1 R g3 s4 r5 t6 w
abbrev W24 := cwp Try.prog (fun i => cond (Nat.beq i 28) 10 (cond (Nat.beq i 17) 10 (cond (Nat.beq i 16) 9 (0))))
noncomputable def k24_0 : Code := (bodyOf Try.f24)
noncomputable def k24_1 : Code := (c2 k24_0)
noncomputable def k24_2 : Code := (c2 k24_1)
noncomputable def k24_3 : Code := (c2 k24_2)
noncomputable def k24_4 : Code := (c2 k24_3)
noncomputable def k24_5 : Code := (c2 k24_4)
noncomputable def k24_6 : Code := (c2 k24_5)
noncomputable def k24_7 : Code := (c2 k24_6)
noncomputable def k24_8 : Code := (c2 k24_7)
noncomputable def k24_9 : Code := (c2 k24_8)
noncomputable def k24_10 : Code := (c2 k24_9)
noncomputable def k24_11 : Code := (c2 k24_10)
noncomputable def k24_12 : Code := (c2 k24_11)
noncomputable def k24_13 : Code := (c2 k24_12)
noncomputable def k24_14 : Code := (c2 k24_13)
noncomputable def k24_15 : Code := (c2 k24_14)
noncomputable def k24_16 : Code := (c2 k24_15)
noncomputable def k24_17 : Code := (c2 (c1 k24_13))
noncomputable def k24_18 : Code := (c1 (c1 k24_17))
noncomputable def k24_19 : Code := (c2 k24_18)
noncomputable def k24_20 : Code := (c2 k24_19)
noncomputable def k24_21 : Code := (c2 (c1 (c1 k24_19)))
noncomputable def k24_22 : Code := (c2 (c1 k24_18))
noncomputable def k24_23 : Code := (c2 (c1 k24_11))
noncomputable def k24_24 : Code := (c2 (c1 k24_10))
noncomputable def k24_25 : Code := (c2 (c1 k24_24))
noncomputable def k24_26 : Code := (c2 (c1 k24_9))
noncomputable def k24_27 : Code := (c1 (c1 k24_26))
noncomputable def k24_28 : Code := (c2 k24_27)
noncomputable def k24_29 : Code := (c2 k24_28)
noncomputable def k24_30 : Code := (c2 (c1 (c1 k24_28)))
noncomputable def k24_31 : Code := (c2 (c1 k24_30))
noncomputable def k24_32 : Code := (c2 (c1 k24_27))
noncomputable def k24_33 : Code := (c2 (c1 k24_5))
noncomputable def k24_34 : Code := (c2 (c1 k24_33))
noncomputable def k24_35 : Code := (c2 k24_34)
noncomputable def k24_36 : Code := (c2 (c1 k24_2))
noncomputable def k24_37 : Code := (c2 (c1 k24_36))
noncomputable def k24_38 : Code := (c2 (c1 k24_1))
noncomputable def k24_39 : Code := (c2 (c1 k24_38))
theorem s24_39 {R : VP} {Q : EQ} (hR : ∀ e w, (valS Try.prog (loadC 28 (e 6)) w fun r0 =>
R (Value.tuple #[r0, (e 7), (e 8)]) w) → Q .ret e w) (e : Env) (w : World) (h : m24_39 R (e 6) (e 7) (e 8) w) : W24 k24_39 Q e w := by
  unfold m24_39 at h
  exact reA (hR _ _ h)
theorem s24_37 {R : VP} {Q : EQ} (hR : ∀ e w, (valS Try.prog (loadC 28 (e 6)) w fun r0 =>
R (Value.tuple #[r0, (e 7), (e 8)]) w) → Q .ret e w) (e : Env) (w : World) (h : m24_37 R (e 6) (e 7) (e 8) w) : W24 k24_37 Q e w := by
  unfold m24_37 at h
  exact reA (hR _ _ h)
theorem s24_35 {R : VP} {Q : EQ} (hR : ∀ e w, (valS Try.prog (loadC 28 (e 6)) w fun r0 =>
R (Value.tuple #[r0, (e 7), (e 8)]) w) → Q .ret e w) (e : Env) (w : World) (h : m24_35 R (e 6) (e 7) (e 8) w) : W24 k24_35 Q e w := by
  unfold m24_35 at h
  exact reA (hR _ _ h)
theorem s24_34 {R : VP} {Q : EQ} (hR : ∀ e w, (valS Try.prog (loadC 28 (e 6)) w fun r0 =>
R (Value.tuple #[r0, (e 7), (e 8)]) w) → Q .ret e w) (e : Env) (w : World) (h : m24_34 R (e 4) (e 6) w) : W24 k24_34 Q e w := by
  unfold m24_34 at h
  refine seA ?_
  have hN : ∀ e w, (m24_35 R (e 6) (e 7) (e 8) w) → (thenE (W24 k24_35 Q) Q) .normal e w := fun e w h => then_N (s24_35 (R := R) (Q := Q) hR e w h)
  exact rgA 9 (fun e w => m24_35 R (e 6) (e 7) (e 8) w) h hN
theorem s24_29 {R : VP} {K1 : (Value × Value × Value) → World → Prop} {Q : EQ} (hN : ∀ e w, (K1 ((e 13), (e 14), (e 15)) w) → Q .normal e w) (e : Env) (w : World) (h : m24_29 R K1 (e 3) (e 4) (e 5) (e 6) (e 9) (e 11) (e 13) (e 14) (e 15) w) : W24 k24_29 Q e w := by
  unfold m24_29 at h
  exact rgA 15 (fun e w => K1 ((e 13), (e 14), (e 15)) w) h hN
theorem s24_31 {R : VP} {K1 : (Value × Value × Value) → World → Prop} {Q : EQ} (hN : ∀ e w, (m24_29 R K1 (e 3) (e 4) (e 5) (e 6) (e 9) (e 11) (e 13) (e 14) (e 15) w) → Q .normal e w) (e : Env) (w : World) (h : m24_31 R K1 (e 3) (e 4) (e 5) (e 6) (e 9) (e 11) (e 13) (e 14) (e 15) w) : W24 k24_31 Q e w := by
  unfold m24_31 at h
  exact rgA 18 (fun e w => m24_29 R K1 (e 3) (e 4) (e 5) (e 6) (e 9) (e 11) (e 13) (e 14) (e 15) w) h hN
theorem s24_30 {R : VP} {K1 : (Value × Value × Value) → World → Prop} {Q : EQ} (hN : ∀ e w, (m24_29 R K1 (e 3) (e 4) (e 5) (e 6) (e 9) (e 11) (e 13) (e 14) (e 15) w) → Q .normal e w) (e : Env) (w : World) (h : m24_30 R K1 (e 3) (e 4) (e 5) (e 6) (e 9) (e 11) (e 13) (e 14) (e 15) (e 84) w) : W24 k24_30 Q e w := by
  unfold m24_30 at h
  refine coA (Operand.tmp 84) h (fun h1 => ?_) (fun h1 => ?_)
  · refine seA ?_
    have hN : ∀ e w, (m24_31 R K1 (e 3) (e 4) (e 5) (e 6) (e 9) (e 11) (e 13) (e 14) (e 15) w) → (thenE (W24 k24_31 Q) Q) .normal e w := fun e w h => then_N (s24_31 (R := R) (Q := Q) (K1 := K1) hN e w h)
    exact taA 17 8 (fun e w => m24_31 R K1 (e 3) (e 4) (e 5) (e 6) (e 9) (e 11) (e 13) (e 14) (e 15) w) h1 hN
  · exact skA (hN _ _ h1)
theorem s24_28 {R : VP} {K1 : (Value × Value × Value) → World → Prop} {Q : EQ} (hN : ∀ e w, (K1 ((e 13), (e 14), (e 15)) w) → Q .normal e w) (e : Env) (w : World) (h : m24_28 R K1 (e 3) (e 4) (e 5) (e 6) (e 9) (e 11) (e 13) (e 14) (e 15) w) : W24 k24_28 Q e w := by
  unfold m24_28 at h
  refine seA ?_
  have hN : ∀ e w, (m24_29 R K1 (e 3) (e 4) (e 5) (e 6) (e 9) (e 11) (e 13) (e 14) (e 15) w) → (thenE (W24 k24_29 Q) Q) .normal e w := fun e w h => then_N (s24_29 (R := R) (Q := Q) (K1 := K1) hN e w h)
  refine block_ok 1 (by kernel_rfl) ?_
  have hN : ∀ e w, (m24_29 R K1 (e 3) (e 4) (e 5) (e 6) (e 9) (e 11) (e 13) (e 14) (e 15) w) → (inBlockE 1 (thenE (W24 k24_29 Q) Q)) .normal e w := fun e w h => block_N (hN e w h)
  refine seA ?_
  have hN : ∀ e w, (m24_30 R K1 (e 3) (e 4) (e 5) (e 6) (e 9) (e 11) (e 13) (e 14) (e 15) (e 84) w) → (thenE (W24 k24_30 (inBlockE 1 (thenE (W24 k24_29 Q) Q))) (inBlockE 1 (thenE (W24 k24_29 Q) Q))) .normal e w := fun e w h => then_N (s24_30 (R := R) (Q := (inBlockE 1 (thenE (W24 k24_29 Q) Q))) (K1 := K1) hN e w h)
  exact taA 16 7 (fun e w => m24_30 R K1 (e 3) (e 4) (e 5) (e 6) (e 9) (e 11) (e 13) (e 14) (e 15) (e 84) w) h hN
theorem s24_20 {R : VP} {K1 : (Value × Value × Value) → World → Prop} {Q : EQ} (hN : ∀ e w, (K1 ((e 16), (e 17), (e 18)) w) → Q .normal e w) (e : Env) (w : World) (h : m24_20 R K1 (e 3) (e 4) (e 6) (e 13) (e 16) (e 17) (e 18) w) : W24 k24_20 Q e w := by
  unfold m24_20 at h
  exact rgA 27 (fun e w => K1 ((e 16), (e 17), (e 18)) w) h hN
theorem s24_21 {R : VP} {K1 : (Value × Value × Value) → World → Prop} {Q : EQ} (hN : ∀ e w, (m24_20 R K1 (e 3) (e 4) (e 6) (e 13) (e 16) (e 17) (e 18) w) → Q .normal e w) (e : Env) (w : World) (h : m24_21 R K1 (e 3) (e 4) (e 6) (e 13) (e 16) (e 17) (e 18) (e 131) w) : W24 k24_21 Q e w := by
  unfold m24_21 at h
  refine coA (Operand.tmp 131) h (fun h1 => ?_) (fun h1 => ?_)
  · exact rgA 29 (fun e w => m24_20 R K1 (e 3) (e 4) (e 6) (e 13) (e 16) (e 17) (e 18) w) h1 hN
  · exact rgA 30 (fun e w => m24_20 R K1 (e 3) (e 4) (e 6) (e 13) (e 16) (e 17) (e 18) w) h1 hN
theorem s24_19 {R : VP} {K1 : (Value × Value × Value) → World → Prop} {Q : EQ} (hN : ∀ e w, (K1 ((e 16), (e 17), (e 18)) w) → Q .normal e w) (e : Env) (w : World) (h : m24_19 R K1 (e 3) (e 4) (e 6) (e 13) (e 16) (e 17) (e 18) w) : W24 k24_19 Q e w := by
  unfold m24_19 at h
  refine seA ?_
  have hN : ∀ e w, (m24_20 R K1 (e 3) (e 4) (e 6) (e 13) (e 16) (e 17) (e 18) w) → (thenE (W24 k24_20 Q) Q) .normal e w := fun e w h => then_N (s24_20 (R := R) (Q := Q) (K1 := K1) hN e w h)
  refine block_ok 3 (by kernel_rfl) ?_
  have hN : ∀ e w, (m24_20 R K1 (e 3) (e 4) (e 6) (e 13) (e 16) (e 17) (e 18) w) → (inBlockE 3 (thenE (W24 k24_20 Q) Q)) .normal e w := fun e w h => block_N (hN e w h)
  refine seA ?_
  have hN : ∀ e w, (m24_21 R K1 (e 3) (e 4) (e 6) (e 13) (e 16) (e 17) (e 18) (e 131) w) → (thenE (W24 k24_21 (inBlockE 3 (thenE (W24 k24_20 Q) Q))) (inBlockE 3 (thenE (W24 k24_20 Q) Q))) .normal e w := fun e w h => then_N (s24_21 (R := R) (Q := (inBlockE 3 (thenE (W24 k24_20 Q) Q))) (K1 := K1) hN e w h)
  exact taA 28 8 (fun e w => m24_21 R K1 (e 3) (e 4) (e 6) (e 13) (e 16) (e 17) (e 18) (e 131) w) h hN
theorem s24_16 {R : VP} {Q : EQ} (hR : ∀ e w, (valS Try.prog (loadC 28 (e 6)) w fun r0 =>
R (Value.tuple #[r0, (e 7), (e 8)]) w) → Q .ret e w) (e : Env) (w : World) (h : m24_16 R (e 6) (e 7) (e 8) w) : W24 k24_16 Q e w := by
  unfold m24_16 at h
  exact reA (hR _ _ h)
theorem s24_15 {R : VP} {Q : EQ} (hR : ∀ e w, (valS Try.prog (loadC 28 (e 6)) w fun r0 =>
R (Value.tuple #[r0, (e 7), (e 8)]) w) → Q .ret e w) (e : Env) (w : World) (h : m24_15 R (e 4) (e 6) (e 17) w) : W24 k24_15 Q e w := by
  unfold m24_15 at h
  refine seA ?_
  have hN : ∀ e w, (m24_16 R (e 6) (e 7) (e 8) w) → (thenE (W24 k24_16 Q) Q) .normal e w := fun e w h => then_N (s24_16 (R := R) (Q := Q) hR e w h)
  exact rgA 32 (fun e w => m24_16 R (e 6) (e 7) (e 8) w) h hN
theorem s24_14 {R : VP} {Q : EQ} (hR : ∀ e w, (valS Try.prog (loadC 28 (e 6)) w fun r0 =>
R (Value.tuple #[r0, (e 7), (e 8)]) w) → Q .ret e w) (e : Env) (w : World) (h : m24_14 R (e 4) (e 6) (e 16) (e 17) w) : W24 k24_14 Q e w := by
  unfold m24_14 at h
  refine seA ?_
  have hN : ∀ e w, (m24_15 R (e 4) (e 6) (e 17) w) → (thenE (W24 k24_15 Q) Q) .normal e w := fun e w h => then_N (s24_15 (R := R) (Q := Q) hR e w h)
  exact rgA 31 (fun e w => m24_15 R (e 4) (e 6) (e 17) w) h hN
theorem s24_22 {R : VP} {K1 : (Value × Value × Value) → World → Prop} {Q : EQ} (hN : ∀ e w, (m24_19 R K1 (e 3) (e 4) (e 6) (e 13) (e 16) (e 17) (e 18) w) → Q .normal e w) (hX2 : ∀ e w, (m24_14 R (e 4) (e 6) (e 16) (e 17) w) → Q (.exit 2) e w) (e : Env) (w : World) (h : m24_22 R K1 (e 3) (e 4) (e 6) (e 13) (e 16) (e 17) (e 18) (e 120) w) : W24 k24_22 Q e w := by
  unfold m24_22 at h
  refine coA (Operand.tmp 120) h (fun h1 => ?_) (fun h1 => ?_)
  · exact skA (hN _ _ h1)
  · exact exA 2 (hX2 _ _ h1)
theorem s24_18 {R : VP} {K1 : (Value × Value × Value) → World → Prop} {Q : EQ} (hN : ∀ e w, (K1 ((e 16), (e 17), (e 18)) w) → Q .normal e w) (hX2 : ∀ e w, (m24_14 R (e 4) (e 6) (e 16) (e 17) w) → Q (.exit 2) e w) (e : Env) (w : World) (h : m24_18 R K1 (e 3) (e 4) (e 6) (e 13) (e 16) (e 17) (e 18) w) : W24 k24_18 Q e w := by
  unfold m24_18 at h
  refine seA ?_
  have hN : ∀ e w, (m24_19 R K1 (e 3) (e 4) (e 6) (e 13) (e 16) (e 17) (e 18) w) → (thenE (W24 k24_19 Q) Q) .normal e w := fun e w h => then_N (s24_19 (R := R) (Q := Q) (K1 := K1) hN e w h)
  have hX2 : ∀ e w, (m24_14 R (e 4) (e 6) (e 16) (e 17) w) → (thenE (W24 k24_19 Q) Q) (.exit 2) e w := fun e w h => then_X (hX2 e w h)
  refine seA ?_
  have hN : ∀ e w, (m24_22 R K1 (e 3) (e 4) (e 6) (e 13) (e 16) (e 17) (e 18) (e 120) w) → (thenE (W24 k24_22 (thenE (W24 k24_19 Q) Q)) (thenE (W24 k24_19 Q) Q)) .normal e w := fun e w h => then_N (s24_22 (R := R) (Q := (thenE (W24 k24_19 Q) Q)) (K1 := K1) hN hX2 e w h)
  exact rgA 26 (fun e w => m24_22 R K1 (e 3) (e 4) (e 6) (e 13) (e 16) (e 17) (e 18) (e 120) w) h hN
theorem s24_17 {R : VP} {Q : EQ} (hN : ∀ e w, (m24_14 R (e 4) (e 6) (e 16) (e 17) w) → Q .normal e w) (e : Env) (w : World) (h : m24_17 R (e 3) (e 4) (e 6) (e 13) (e 16) (e 17) (e 18) w) : W24 k24_17 Q e w := by
  unfold m24_17 at h
  refine block_ok 2 (by kernel_rfl) ?_
  have hX2 : ∀ e w, (m24_14 R (e 4) (e 6) (e 16) (e 17) w) → (inBlockE 2 Q) (.exit 2) e w := fun e w h => inBlock_same (Q := Q) 2 (hN e w h)
  refine loop_ok' (fun (e : Env) => (e 16, e 17, e 18)) [3, 4, 6, 13] (by kernel_rfl) (by kernel_rfl) h (fun K e' w' hk h' => ?_)
  have r3 : e' 3 = e 3 := hk 3 (by decide)
  have r4 : e' 4 = e 4 := hk 4 (by decide)
  have r6 : e' 6 = e 6 := hk 6 (by decide)
  have r13 : e' 13 = e 13 := hk 13 (by decide)
  have hX2 : ∀ e w, (m24_14 R (e 4) (e 6) (e 16) (e 17) w) → (thenE (fun (e : Env) w => K ((e 16), (e 17), (e 18)) w) (inBlockE 2 Q)) (.exit 2) e w := fun e w h => then_X (hX2 e w h)
  exact s24_18 (R := R) (Q := (thenE (fun (e : Env) w => K ((e 16), (e 17), (e 18)) w) (inBlockE 2 Q))) (K1 := K) (fun _ _ h => then_N h) hX2 e' w' (by rw [r3, r4, r6, r13]; exact h')
theorem s24_13 {R : VP} {Q : EQ} (hR : ∀ e w, (valS Try.prog (loadC 28 (e 6)) w fun r0 =>
R (Value.tuple #[r0, (e 7), (e 8)]) w) → Q .ret e w) (e : Env) (w : World) (h : m24_13 R (e 3) (e 4) (e 6) (e 13) (e 16) (e 17) w) : W24 k24_13 Q e w := by
  unfold m24_13 at h
  refine seA ?_
  have hN : ∀ e w, (m24_14 R (e 4) (e 6) (e 16) (e 17) w) → (thenE (W24 k24_14 Q) Q) .normal e w := fun e w h => then_N (s24_14 (R := R) (Q := Q) hR e w h)
  refine seA ?_
  have hN : ∀ e w, (m24_17 R (e 3) (e 4) (e 6) (e 13) (e 16) (e 17) (e 18) w) → (thenE (W24 k24_17 (thenE (W24 k24_14 Q) Q)) (thenE (W24 k24_14 Q) Q)) .normal e w := fun e w h => then_N (s24_17 (R := R) (Q := (thenE (W24 k24_14 Q) Q)) hN e w h)
  exact rgA 25 (fun e w => m24_17 R (e 3) (e 4) (e 6) (e 13) (e 16) (e 17) (e 18) w) h hN
theorem s24_12 {R : VP} {Q : EQ} (hR : ∀ e w, (valS Try.prog (loadC 28 (e 6)) w fun r0 =>
R (Value.tuple #[r0, (e 7), (e 8)]) w) → Q .ret e w) (e : Env) (w : World) (h : m24_12 R (e 3) (e 4) (e 6) (e 13) w) : W24 k24_12 Q e w := by
  unfold m24_12 at h
  refine seA ?_
  have hN : ∀ e w, (m24_13 R (e 3) (e 4) (e 6) (e 13) (e 16) (e 17) w) → (thenE (W24 k24_13 Q) Q) .normal e w := fun e w h => then_N (s24_13 (R := R) (Q := Q) hR e w h)
  exact rgA 24 (fun e w => m24_13 R (e 3) (e 4) (e 6) (e 13) (e 16) (e 17) w) h hN
theorem s24_23 {R : VP} {Q : EQ} (hN : ∀ e w, (m24_12 R (e 3) (e 4) (e 6) (e 13) w) → Q .normal e w) (e : Env) (w : World) (h : m24_23 R (e 3) (e 4) (e 5) (e 6) (e 13) (e 113) w) : W24 k24_23 Q e w := by
  unfold m24_23 at h
  refine coA (Operand.tmp 113) h (fun h1 => ?_) (fun h1 => ?_)
  · exact rgA 23 (fun e w => m24_12 R (e 3) (e 4) (e 6) (e 13) w) h1 hN
  · exact skA (hN _ _ h1)
theorem s24_11 {R : VP} {Q : EQ} (hR : ∀ e w, (valS Try.prog (loadC 28 (e 6)) w fun r0 =>
R (Value.tuple #[r0, (e 7), (e 8)]) w) → Q .ret e w) (e : Env) (w : World) (h : m24_11 R (e 3) (e 4) (e 5) (e 6) (e 13) w) : W24 k24_11 Q e w := by
  unfold m24_11 at h
  refine seA ?_
  have hN : ∀ e w, (m24_12 R (e 3) (e 4) (e 6) (e 13) w) → (thenE (W24 k24_12 Q) Q) .normal e w := fun e w h => then_N (s24_12 (R := R) (Q := Q) hR e w h)
  refine seA ?_
  have hN : ∀ e w, (m24_23 R (e 3) (e 4) (e 5) (e 6) (e 13) (e 113) w) → (thenE (W24 k24_23 (thenE (W24 k24_12 Q) Q)) (thenE (W24 k24_12 Q) Q)) .normal e w := fun e w h => then_N (s24_23 (R := R) (Q := (thenE (W24 k24_12 Q) Q)) hN e w h)
  exact rgA 22 (fun e w => m24_23 R (e 3) (e 4) (e 5) (e 6) (e 13) (e 113) w) h hN
theorem s24_25 {R : VP} {Q : EQ} (hN : ∀ e w, (m24_11 R (e 3) (e 4) (e 5) (e 6) (e 13) w) → Q .normal e w) (e : Env) (w : World) (h : m24_25 R (e 3) (e 4) (e 5) (e 6) w) : W24 k24_25 Q e w := by
  unfold m24_25 at h
  exact rgA 21 (fun e w => m24_11 R (e 3) (e 4) (e 5) (e 6) (e 13) w) h hN
theorem s24_24 {R : VP} {Q : EQ} (hN : ∀ e w, (m24_11 R (e 3) (e 4) (e 5) (e 6) (e 13) w) → Q .normal e w) (e : Env) (w : World) (h : m24_24 R (e 3) (e 4) (e 5) (e 6) (e 13) (e 102) w) : W24 k24_24 Q e w := by
  unfold m24_24 at h
  refine coA (Operand.tmp 102) h (fun h1 => ?_) (fun h1 => ?_)
  · refine seA ?_
    have hN : ∀ e w, (m24_25 R (e 3) (e 4) (e 5) (e 6) w) → (thenE (W24 k24_25 Q) Q) .normal e w := fun e w h => then_N (s24_25 (R := R) (Q := Q) hN e w h)
    exact rgA 20 (fun e w => m24_25 R (e 3) (e 4) (e 5) (e 6) w) h1 hN
  · exact skA (hN _ _ h1)
theorem s24_10 {R : VP} {Q : EQ} (hR : ∀ e w, (valS Try.prog (loadC 28 (e 6)) w fun r0 =>
R (Value.tuple #[r0, (e 7), (e 8)]) w) → Q .ret e w) (e : Env) (w : World) (h : m24_10 R (e 3) (e 4) (e 5) (e 6) (e 13) (e 14) w) : W24 k24_10 Q e w := by
  unfold m24_10 at h
  refine seA ?_
  have hN : ∀ e w, (m24_11 R (e 3) (e 4) (e 5) (e 6) (e 13) w) → (thenE (W24 k24_11 Q) Q) .normal e w := fun e w h => then_N (s24_11 (R := R) (Q := Q) hR e w h)
  refine seA ?_
  have hN : ∀ e w, (m24_24 R (e 3) (e 4) (e 5) (e 6) (e 13) (e 102) w) → (thenE (W24 k24_24 (thenE (W24 k24_11 Q) Q)) (thenE (W24 k24_11 Q) Q)) .normal e w := fun e w h => then_N (s24_24 (R := R) (Q := (thenE (W24 k24_11 Q) Q)) hN e w h)
  exact rgA 19 (fun e w => m24_24 R (e 3) (e 4) (e 5) (e 6) (e 13) (e 102) w) h hN
theorem s24_32 {R : VP} {K1 : (Value × Value × Value) → World → Prop} {Q : EQ} (hN : ∀ e w, (m24_28 R K1 (e 3) (e 4) (e 5) (e 6) (e 9) (e 11) (e 13) (e 14) (e 15) w) → Q .normal e w) (hX0 : ∀ e w, (m24_10 R (e 3) (e 4) (e 5) (e 6) (e 13) (e 14) w) → Q (.exit 0) e w) (e : Env) (w : World) (h : m24_32 R K1 (e 3) (e 4) (e 5) (e 6) (e 9) (e 11) (e 13) (e 14) (e 15) (e 73) w) : W24 k24_32 Q e w := by
  unfold m24_32 at h
  refine coA (Operand.tmp 73) h (fun h1 => ?_) (fun h1 => ?_)
  · exact skA (hN _ _ h1)
  · exact exA 0 (hX0 _ _ h1)
theorem s24_27 {R : VP} {K1 : (Value × Value × Value) → World → Prop} {Q : EQ} (hN : ∀ e w, (K1 ((e 13), (e 14), (e 15)) w) → Q .normal e w) (hX0 : ∀ e w, (m24_10 R (e 3) (e 4) (e 5) (e 6) (e 13) (e 14) w) → Q (.exit 0) e w) (e : Env) (w : World) (h : m24_27 R K1 (e 3) (e 4) (e 5) (e 6) (e 9) (e 11) (e 13) (e 14) (e 15) w) : W24 k24_27 Q e w := by
  unfold m24_27 at h
  refine seA ?_
  have hN : ∀ e w, (m24_28 R K1 (e 3) (e 4) (e 5) (e 6) (e 9) (e 11) (e 13) (e 14) (e 15) w) → (thenE (W24 k24_28 Q) Q) .normal e w := fun e w h => then_N (s24_28 (R := R) (Q := Q) (K1 := K1) hN e w h)
  have hX0 : ∀ e w, (m24_10 R (e 3) (e 4) (e 5) (e 6) (e 13) (e 14) w) → (thenE (W24 k24_28 Q) Q) (.exit 0) e w := fun e w h => then_X (hX0 e w h)
  refine seA ?_
  have hN : ∀ e w, (m24_32 R K1 (e 3) (e 4) (e 5) (e 6) (e 9) (e 11) (e 13) (e 14) (e 15) (e 73) w) → (thenE (W24 k24_32 (thenE (W24 k24_28 Q) Q)) (thenE (W24 k24_28 Q) Q)) .normal e w := fun e w h => then_N (s24_32 (R := R) (Q := (thenE (W24 k24_28 Q) Q)) (K1 := K1) hN hX0 e w h)
  exact rgA 14 (fun e w => m24_32 R K1 (e 3) (e 4) (e 5) (e 6) (e 9) (e 11) (e 13) (e 14) (e 15) (e 73) w) h hN
theorem s24_26 {R : VP} {Q : EQ} (hN : ∀ e w, (m24_10 R (e 3) (e 4) (e 5) (e 6) (e 13) (e 14) w) → Q .normal e w) (e : Env) (w : World) (h : m24_26 R (e 3) (e 4) (e 5) (e 6) (e 9) (e 11) (e 13) (e 14) (e 15) w) : W24 k24_26 Q e w := by
  unfold m24_26 at h
  refine block_ok 0 (by kernel_rfl) ?_
  have hX0 : ∀ e w, (m24_10 R (e 3) (e 4) (e 5) (e 6) (e 13) (e 14) w) → (inBlockE 0 Q) (.exit 0) e w := fun e w h => inBlock_same (Q := Q) 0 (hN e w h)
  refine loop_ok' (fun (e : Env) => (e 13, e 14, e 15)) [3, 4, 5, 6, 9, 11] (by kernel_rfl) (by kernel_rfl) h (fun K e' w' hk h' => ?_)
  have r3 : e' 3 = e 3 := hk 3 (by decide)
  have r4 : e' 4 = e 4 := hk 4 (by decide)
  have r5 : e' 5 = e 5 := hk 5 (by decide)
  have r6 : e' 6 = e 6 := hk 6 (by decide)
  have r9 : e' 9 = e 9 := hk 9 (by decide)
  have r11 : e' 11 = e 11 := hk 11 (by decide)
  have hX0 : ∀ e w, (m24_10 R (e 3) (e 4) (e 5) (e 6) (e 13) (e 14) w) → (thenE (fun (e : Env) w => K ((e 13), (e 14), (e 15)) w) (inBlockE 0 Q)) (.exit 0) e w := fun e w h => then_X (hX0 e w h)
  exact s24_27 (R := R) (Q := (thenE (fun (e : Env) w => K ((e 13), (e 14), (e 15)) w) (inBlockE 0 Q))) (K1 := K) (fun _ _ h => then_N h) hX0 e' w' (by rw [r3, r4, r5, r6, r9, r11]; exact h')
theorem s24_9 {R : VP} {Q : EQ} (hR : ∀ e w, (valS Try.prog (loadC 28 (e 6)) w fun r0 =>
R (Value.tuple #[r0, (e 7), (e 8)]) w) → Q .ret e w) (e : Env) (w : World) (h : m24_9 R (e 3) (e 4) (e 5) (e 6) (e 9) (e 11) (e 13) (e 14) w) : W24 k24_9 Q e w := by
  unfold m24_9 at h
  refine seA ?_
  have hN : ∀ e w, (m24_10 R (e 3) (e 4) (e 5) (e 6) (e 13) (e 14) w) → (thenE (W24 k24_10 Q) Q) .normal e w := fun e w h => then_N (s24_10 (R := R) (Q := Q) hR e w h)
  refine seA ?_
  have hN : ∀ e w, (m24_26 R (e 3) (e 4) (e 5) (e 6) (e 9) (e 11) (e 13) (e 14) (e 15) w) → (thenE (W24 k24_26 (thenE (W24 k24_10 Q) Q)) (thenE (W24 k24_10 Q) Q)) .normal e w := fun e w h => then_N (s24_26 (R := R) (Q := (thenE (W24 k24_10 Q) Q)) hN e w h)
  exact rgA 13 (fun e w => m24_26 R (e 3) (e 4) (e 5) (e 6) (e 9) (e 11) (e 13) (e 14) (e 15) w) h hN
theorem s24_8 {R : VP} {Q : EQ} (hR : ∀ e w, (valS Try.prog (loadC 28 (e 6)) w fun r0 =>
R (Value.tuple #[r0, (e 7), (e 8)]) w) → Q .ret e w) (e : Env) (w : World) (h : m24_8 R (e 3) (e 4) (e 5) (e 6) (e 9) (e 11) (e 13) w) : W24 k24_8 Q e w := by
  unfold m24_8 at h
  refine seA ?_
  have hN : ∀ e w, (m24_9 R (e 3) (e 4) (e 5) (e 6) (e 9) (e 11) (e 13) (e 14) w) → (thenE (W24 k24_9 Q) Q) .normal e w := fun e w h => then_N (s24_9 (R := R) (Q := Q) hR e w h)
  exact rgA 12 (fun e w => m24_9 R (e 3) (e 4) (e 5) (e 6) (e 9) (e 11) (e 13) (e 14) w) h hN
theorem s24_7 {R : VP} {Q : EQ} (hR : ∀ e w, (valS Try.prog (loadC 28 (e 6)) w fun r0 =>
R (Value.tuple #[r0, (e 7), (e 8)]) w) → Q .ret e w) (e : Env) (w : World) (h : m24_7 R (e 3) (e 4) (e 5) (e 6) (e 9) (e 11) w) : W24 k24_7 Q e w := by
  unfold m24_7 at h
  refine seA ?_
  have hN : ∀ e w, (m24_8 R (e 3) (e 4) (e 5) (e 6) (e 9) (e 11) (e 13) w) → (thenE (W24 k24_8 Q) Q) .normal e w := fun e w h => then_N (s24_8 (R := R) (Q := Q) hR e w h)
  exact rgA 11 (fun e w => m24_8 R (e 3) (e 4) (e 5) (e 6) (e 9) (e 11) (e 13) w) h hN
theorem s24_6 {R : VP} {Q : EQ} (hR : ∀ e w, (valS Try.prog (loadC 28 (e 6)) w fun r0 =>
R (Value.tuple #[r0, (e 7), (e 8)]) w) → Q .ret e w) (e : Env) (w : World) (h : m24_6 R (e 3) (e 4) (e 5) (e 6) (e 9) w) : W24 k24_6 Q e w := by
  unfold m24_6 at h
  refine seA ?_
  have hN : ∀ e w, (m24_7 R (e 3) (e 4) (e 5) (e 6) (e 9) (e 11) w) → (thenE (W24 k24_7 Q) Q) .normal e w := fun e w h => then_N (s24_7 (R := R) (Q := Q) hR e w h)
  exact rgA 10 (fun e w => m24_7 R (e 3) (e 4) (e 5) (e 6) (e 9) (e 11) w) h hN
theorem s24_33 {R : VP} {Q : EQ} (hN : ∀ e w, (m24_6 R (e 3) (e 4) (e 5) (e 6) (e 9) w) → Q .normal e w) (hR : ∀ e w, (valS Try.prog (loadC 28 (e 6)) w fun r0 =>
R (Value.tuple #[r0, (e 7), (e 8)]) w) → Q .ret e w) (e : Env) (w : World) (h : m24_33 R (e 3) (e 4) (e 5) (e 6) (e 9) (e 55) w) : W24 k24_33 Q e w := by
  unfold m24_33 at h
  refine coA (Operand.tmp 55) h (fun h1 => ?_) (fun h1 => ?_)
  · refine seA ?_
    have hN : ∀ e w, (m24_34 R (e 4) (e 6) w) → (thenE (W24 k24_34 Q) Q) .normal e w := fun e w h => then_N (s24_34 (R := R) (Q := Q) hR e w h)
    exact rgA 8 (fun e w => m24_34 R (e 4) (e 6) w) h1 hN
  · exact skA (hN _ _ h1)
theorem s24_5 {R : VP} {Q : EQ} (hR : ∀ e w, (valS Try.prog (loadC 28 (e 6)) w fun r0 =>
R (Value.tuple #[r0, (e 7), (e 8)]) w) → Q .ret e w) (e : Env) (w : World) (h : m24_5 R (e 3) (e 4) (e 5) (e 6) (e 9) (e 10) w) : W24 k24_5 Q e w := by
  unfold m24_5 at h
  refine seA ?_
  have hN : ∀ e w, (m24_6 R (e 3) (e 4) (e 5) (e 6) (e 9) w) → (thenE (W24 k24_6 Q) Q) .normal e w := fun e w h => then_N (s24_6 (R := R) (Q := Q) hR e w h)
  have hR : ∀ e w, (valS Try.prog (loadC 28 (e 6)) w fun r0 =>
  R (Value.tuple #[r0, (e 7), (e 8)]) w) → (thenE (W24 k24_6 Q) Q) .ret e w := fun e w h => then_R (hR e w h)
  refine seA ?_
  have hN : ∀ e w, (m24_33 R (e 3) (e 4) (e 5) (e 6) (e 9) (e 55) w) → (thenE (W24 k24_33 (thenE (W24 k24_6 Q) Q)) (thenE (W24 k24_6 Q) Q)) .normal e w := fun e w h => then_N (s24_33 (R := R) (Q := (thenE (W24 k24_6 Q) Q)) hN hR e w h)
  exact rgA 7 (fun e w => m24_33 R (e 3) (e 4) (e 5) (e 6) (e 9) (e 55) w) h hN
theorem s24_4 {R : VP} {Q : EQ} (hR : ∀ e w, (valS Try.prog (loadC 28 (e 6)) w fun r0 =>
R (Value.tuple #[r0, (e 7), (e 8)]) w) → Q .ret e w) (e : Env) (w : World) (h : m24_4 R (e 3) (e 4) (e 5) (e 6) w) : W24 k24_4 Q e w := by
  unfold m24_4 at h
  refine seA ?_
  have hN : ∀ e w, (m24_5 R (e 3) (e 4) (e 5) (e 6) (e 9) (e 10) w) → (thenE (W24 k24_5 Q) Q) .normal e w := fun e w h => then_N (s24_5 (R := R) (Q := Q) hR e w h)
  exact rgA 6 (fun e w => m24_5 R (e 3) (e 4) (e 5) (e 6) (e 9) (e 10) w) h hN
theorem s24_3 {R : VP} {Q : EQ} (hR : ∀ e w, (valS Try.prog (loadC 28 (e 6)) w fun r0 =>
R (Value.tuple #[r0, (e 7), (e 8)]) w) → Q .ret e w) (e : Env) (w : World) (h : m24_3 R (e 3) (e 4) (e 5) (e 6) w) : W24 k24_3 Q e w := by
  unfold m24_3 at h
  refine seA ?_
  have hN : ∀ e w, (m24_4 R (e 3) (e 4) (e 5) (e 6) w) → (thenE (W24 k24_4 Q) Q) .normal e w := fun e w h => then_N (s24_4 (R := R) (Q := Q) hR e w h)
  exact rgA 5 (fun e w => m24_4 R (e 3) (e 4) (e 5) (e 6) w) h hN
theorem s24_36 {R : VP} {Q : EQ} (hN : ∀ e w, (m24_3 R (e 3) (e 4) (e 5) (e 6) w) → Q .normal e w) (hR : ∀ e w, (valS Try.prog (loadC 28 (e 6)) w fun r0 =>
R (Value.tuple #[r0, (e 7), (e 8)]) w) → Q .ret e w) (e : Env) (w : World) (h : m24_36 R (e 3) (e 4) (e 5) (e 6) (e 43) w) : W24 k24_36 Q e w := by
  unfold m24_36 at h
  refine coA (Operand.tmp 43) h (fun h1 => ?_) (fun h1 => ?_)
  · refine seA ?_
    have hN : ∀ e w, (m24_37 R (e 6) (e 7) (e 8) w) → (thenE (W24 k24_37 Q) Q) .normal e w := fun e w h => then_N (s24_37 (R := R) (Q := Q) hR e w h)
    exact rgA 4 (fun e w => m24_37 R (e 6) (e 7) (e 8) w) h1 hN
  · exact skA (hN _ _ h1)
theorem s24_2 {R : VP} {Q : EQ} (hR : ∀ e w, (valS Try.prog (loadC 28 (e 6)) w fun r0 =>
R (Value.tuple #[r0, (e 7), (e 8)]) w) → Q .ret e w) (e : Env) (w : World) (h : m24_2 R (e 3) (e 4) (e 5) (e 6) w) : W24 k24_2 Q e w := by
  unfold m24_2 at h
  refine seA ?_
  have hN : ∀ e w, (m24_3 R (e 3) (e 4) (e 5) (e 6) w) → (thenE (W24 k24_3 Q) Q) .normal e w := fun e w h => then_N (s24_3 (R := R) (Q := Q) hR e w h)
  have hR : ∀ e w, (valS Try.prog (loadC 28 (e 6)) w fun r0 =>
  R (Value.tuple #[r0, (e 7), (e 8)]) w) → (thenE (W24 k24_3 Q) Q) .ret e w := fun e w h => then_R (hR e w h)
  refine seA ?_
  have hN : ∀ e w, (m24_36 R (e 3) (e 4) (e 5) (e 6) (e 43) w) → (thenE (W24 k24_36 (thenE (W24 k24_3 Q) Q)) (thenE (W24 k24_3 Q) Q)) .normal e w := fun e w h => then_N (s24_36 (R := R) (Q := (thenE (W24 k24_3 Q) Q)) hN hR e w h)
  exact rgA 3 (fun e w => m24_36 R (e 3) (e 4) (e 5) (e 6) (e 43) w) h hN
theorem s24_38 {R : VP} {Q : EQ} (hN : ∀ e w, (m24_2 R (e 3) (e 4) (e 5) (e 6) w) → Q .normal e w) (hR : ∀ e w, (valS Try.prog (loadC 28 (e 6)) w fun r0 =>
R (Value.tuple #[r0, (e 7), (e 8)]) w) → Q .ret e w) (e : Env) (w : World) (h : m24_38 R (e 3) (e 4) (e 5) (e 6) (e 39) w) : W24 k24_38 Q e w := by
  unfold m24_38 at h
  refine coA (Operand.tmp 39) h (fun h1 => ?_) (fun h1 => ?_)
  · refine seA ?_
    have hN : ∀ e w, (m24_39 R (e 6) (e 7) (e 8) w) → (thenE (W24 k24_39 Q) Q) .normal e w := fun e w h => then_N (s24_39 (R := R) (Q := Q) hR e w h)
    exact rgA 2 (fun e w => m24_39 R (e 6) (e 7) (e 8) w) h1 hN
  · exact skA (hN _ _ h1)
theorem s24_1 {R : VP} {Q : EQ} (hR : ∀ e w, (valS Try.prog (loadC 28 (e 6)) w fun r0 =>
R (Value.tuple #[r0, (e 7), (e 8)]) w) → Q .ret e w) (e : Env) (w : World) (h : m24_1 R (e 3) (e 4) (e 5) (e 6) w) : W24 k24_1 Q e w := by
  unfold m24_1 at h
  refine seA ?_
  have hN : ∀ e w, (m24_2 R (e 3) (e 4) (e 5) (e 6) w) → (thenE (W24 k24_2 Q) Q) .normal e w := fun e w h => then_N (s24_2 (R := R) (Q := Q) hR e w h)
  have hR : ∀ e w, (valS Try.prog (loadC 28 (e 6)) w fun r0 =>
  R (Value.tuple #[r0, (e 7), (e 8)]) w) → (thenE (W24 k24_2 Q) Q) .ret e w := fun e w h => then_R (hR e w h)
  refine seA ?_
  have hN : ∀ e w, (m24_38 R (e 3) (e 4) (e 5) (e 6) (e 39) w) → (thenE (W24 k24_38 (thenE (W24 k24_2 Q) Q)) (thenE (W24 k24_2 Q) Q)) .normal e w := fun e w h => then_N (s24_38 (R := R) (Q := (thenE (W24 k24_2 Q) Q)) hN hR e w h)
  exact rgA 1 (fun e w => m24_38 R (e 3) (e 4) (e 5) (e 6) (e 39) w) h hN
theorem s24_0 {R : VP} {Q : EQ} (hR : ∀ e w, (valS Try.prog (loadC 28 (e 6)) w fun r0 =>
R (Value.tuple #[r0, (e 7), (e 8)]) w) → Q .ret e w) (e : Env) (w : World) (h : m24_0 R (e 0) (e 1) (e 2) w) : W24 k24_0 Q e w := by
  unfold m24_0 at h
  refine seA ?_
  have hN : ∀ e w, (m24_1 R (e 3) (e 4) (e 5) (e 6) w) → (thenE (W24 k24_1 Q) Q) .normal e w := fun e w h => then_N (s24_1 (R := R) (Q := Q) hR e w h)
  exact rgA 0 (fun e w => m24_1 R (e 3) (e 4) (e 5) (e 6) w) h hN
abbrev m24 (R : VP) (g0 s1 r2 : Value) (w : World) : Prop := m24_0 R g0 s1 r2 w
theorem s24 (g0 s1 r2 : Value) {R : VP} {w : World} (h : m24 R g0 s1 r2 w) :
    Calls Try.prog 24 #[g0, s1, r2] w fun e w' => ∃ v, e = .returned v ∧ R v w' :=
  calls_of_cwp (st := (fun i => cond (Nat.beq i 28) 10 (cond (Nat.beq i 17) 10 (cond (Nat.beq i 16) 9 (0))))) (c := k24_0) (by kernel_rfl) Try.func24 (by kernel_rfl) (Nat.le_of_ble_eq_true (by kernel_rfl)) (by kernel_rfl)
    (s24_0 (R := R) (Q := endE Try.prog Try.f24 R) (fun e w h => kcast (by kernel_rfl) h) (argsE #[g0, s1, r2]) w (kcast (by kernel_rfl) h))
/-! ### headgate/headgateref16.Run -/
def m13_17 (R : VP) (t6 t7 t8 : Value) (w : World) : Prop :=
  valS Try.prog (loadC 28 t6) w fun r0 =>
  R (Value.tuple #[r0, t7, t8]) w
def m13_14 (R : VP) (K1 : (Value × Value) → World → Prop) (t6 t7 t8 : Value) (w : World) : Prop :=
  valS Try.prog (loadC 28 t6) w fun r0 =>
  R (Value.tuple #[r0, t7, t8]) w
def m13_9 (R : VP) (K1 : (Value × Value) → World → Prop) (l2 g3 s4 t6 all9 i10 : Value) (w : World) : Prop :=
  valP Try.prog (binS BinOp.add 3 (Operand.tmp 23) (Operand.const (Value.int IntKind.i64 1)) i10 (Value.int IntKind.i64 1)) w fun t24 w =>
  K1 (all9, t24) w
def m13_12 (R : VP) (K1 : (Value × Value) → World → Prop) (l2 g3 s4 t6 all9 i10 over12 : Value) (w : World) : Prop :=
  builtinP Try.prog Builtin.append #[26, 26] 26 #[false, false] #[all9, over12] w fun t43 w =>
  m13_9 R K1 l2 g3 s4 t6 t43 i10 w
def m13_11 (R : VP) (K1 : (Value × Value) → World → Prop) (l2 g3 s4 t6 all9 i10 t11 over12 : Value) (w : World) : Prop :=
  valP Try.prog (Instr.loadAt 28 t11) w fun t40 w =>
  unitP Try.prog (Instr.storeAt 28 s4 t40) w fun _ w =>
  m13_12 R K1 l2 g3 s4 t6 all9 i10 over12 w
def m13_13 (R : VP) (K1 : (Value × Value) → World → Prop) (l2 g3 s4 t6 all9 i10 t11 over12 e13 t37 : Value) (w : World) : Prop :=
  condP t37
  (valP Try.prog (Instr.build 28 #[]) w fun t38 w =>
  unitP Try.prog (Instr.storeAt 28 t6 t38) w fun _ w =>
  m13_14 R K1 t6 (Value.slice none 0 0) e13 w)
  (m13_11 R K1 l2 g3 s4 t6 all9 i10 t11 over12 w)
def m13_10 (R : VP) (K1 : (Value × Value) → World → Prop) (l2 g3 s4 t6 all9 i10 t11 over12 e13 : Value) (w : World) : Prop :=
  valP Try.prog (binS BinOp.neq 3 (Operand.tmp 36) (Operand.const (Value.int IntKind.i64 0)) e13 (Value.int IntKind.i64 0)) w fun t37 w =>
  m13_13 R K1 l2 g3 s4 t6 all9 i10 t11 over12 e13 t37 w
def m13_8 (R : VP) (K1 : (Value × Value) → World → Prop) (l2 g3 s4 t6 all9 i10 : Value) (w : World) : Prop :=
  anyDraw w fun w =>
  heldP w fun J =>
  valJ Try.prog J (Instr.loadAt 23 g3) fun t26 =>
  valJ Try.prog J (Instr.loadAt 28 s4) fun t27 =>
  valJ Try.prog J (Instr.indexAt 24 l2 i10) fun t30 =>
  valJ Try.prog J (Instr.loadAt 46 t30) fun t31 =>
  (callP Try.prog (fnV 24) #[t26, t27, t31] w fun t32 w =>
  stayP J w
  (valJ Try.prog J (Instr.extract t32 0) fun t33 =>
  valJ Try.prog J (Instr.extract t32 1) fun t34 =>
  valJ Try.prog J (Instr.extract t32 2) fun t35 =>
  valP Try.prog (Instr.alloc 28 true (.tuple #[])) w fun t11 w =>
  stayP J w
  (unitP Try.prog (Instr.storeAt 28 t11 t33) w fun _ w =>
  stayP J w
  (m13_10 R K1 l2 g3 s4 t6 all9 i10 t11 t34 t35 w)))) ∧ (valP Try.prog (Instr.alloc 28 true (.tuple #[])) w fun t11 w =>
  stayP J w
  (callP Try.prog (fnV 24) #[t26, t27, t31] w fun t32 w =>
  stayP J w
  (valJ Try.prog J (Instr.extract t32 0) fun t33 =>
  valJ Try.prog J (Instr.extract t32 1) fun t34 =>
  valJ Try.prog J (Instr.extract t32 2) fun t35 =>
  unitP Try.prog (Instr.storeAt 28 t11 t33) w fun _ w =>
  stayP J w
  (m13_10 R K1 l2 g3 s4 t6 all9 i10 t11 t34 t35 w))))
def m13_5 (R : VP) (t6 t7 t8 : Value) (w : World) : Prop :=
  valS Try.prog (loadC 28 t6) w fun r0 =>
  R (Value.tuple #[r0, t7, t8]) w
def m13_4 (R : VP) (s4 t6 all9 : Value) (w : World) : Prop :=
  valP Try.prog (Instr.loadAt 28 s4) w fun t44 w =>
  unitP Try.prog (Instr.storeAt 28 t6 t44) w fun _ w =>
  m13_5 R t6 all9 (Value.int IntKind.i64 0) w
def m13_15 (R : VP) (K1 : (Value × Value) → World → Prop) (l2 g3 s4 t6 all9 i10 t22 : Value) (w : World) : Prop :=
  condP t22
  (m13_8 R K1 l2 g3 s4 t6 all9 i10 w)
  (m13_4 R s4 t6 all9 w)
def m13_7 (R : VP) (K1 : (Value × Value) → World → Prop) (l2 g3 s4 t6 all9 i10 : Value) (w : World) : Prop :=
  builtinP Try.prog Builtin.len #[24] 3 #[false] #[l2] w fun t21 w =>
  valP Try.prog (binS BinOp.lss 3 (Operand.tmp 19) (Operand.tmp 21) i10 t21) w fun t22 w =>
  m13_15 R K1 l2 g3 s4 t6 all9 i10 t22 w
def m13_6 (R : VP) (l2 g3 s4 t6 all9 i10 : Value) (w : World) : Prop :=
  loopP (fun (K1 : (Value × Value) → World → Prop) (s : Value × Value) w => m13_7 R K1 l2 g3 s4 t6 s.1 s.2 w) (all9, i10) w
def m13_3 (R : VP) (l2 g3 s4 t6 all9 : Value) (w : World) : Prop :=
  m13_6 R l2 g3 s4 t6 all9 (Value.int IntKind.i64 0) w
def m13_2 (R : VP) (l2 g3 s4 t6 : Value) (w : World) : Prop :=
  m13_3 R l2 g3 s4 t6 (Value.slice none 0 0) w
def m13_16 (R : VP) (l2 g3 s4 t6 t17 : Value) (w : World) : Prop :=
  condP t17
  (valP Try.prog (Instr.build 28 #[]) w fun t18 w =>
  unitP Try.prog (Instr.storeAt 28 t6 t18) w fun _ w =>
  m13_17 R t6 (Value.slice none 0 0) (Value.int IntKind.i64 1) w)
  (m13_2 R l2 g3 s4 t6 w)
def m13_1 (R : VP) (l2 g3 s4 t6 : Value) (w : World) : Prop :=
  valP Try.prog (Instr.loadAt 23 g3) w fun t14 w =>
  valP Try.prog (Instr.loadAt 28 s4) w fun t15 w =>
  callP Try.prog (fnV 15) #[t14, t15] w fun t16 w =>
  valP Try.prog (Op.unary UnOp.not t16) w fun t17 w =>
  m13_16 R l2 g3 s4 t6 t17 w
def m13_0 (R : VP) (g0 s1 l2 : Value) (w : World) : Prop :=
  valP Try.prog (Instr.box 23 g0) w fun g3 w =>
  valP Try.prog (Instr.box 28 s1) w fun s4 w =>
  valP Try.prog (Instr.alloc 28 true (.tuple #[])) w fun t6 w =>
  m13_1 R l2 g3 s4 t6 w
abbrev W13 := cwp Try.prog (fun i => 0)
noncomputable def k13_0 : Code := (bodyOf Try.f13)
noncomputable def k13_1 : Code := (c2 k13_0)
noncomputable def k13_2 : Code := (c2 k13_1)
noncomputable def k13_3 : Code := (c2 k13_2)
noncomputable def k13_4 : Code := (c2 k13_3)
noncomputable def k13_5 : Code := (c2 k13_4)
noncomputable def k13_6 : Code := (c2 (c1 k13_3))
noncomputable def k13_7 : Code := (c1 (c1 k13_6))
noncomputable def k13_8 : Code := (c2 k13_7)
noncomputable def k13_9 : Code := (c2 k13_8)
noncomputable def k13_10 : Code := (c2 (c1 (c1 k13_8)))
noncomputable def k13_11 : Code := (c2 k13_10)
noncomputable def k13_12 : Code := (c2 k13_11)
noncomputable def k13_13 : Code := (c2 (c1 k13_10))
noncomputable def k13_14 : Code := (c2 (c1 k13_13))
noncomputable def k13_15 : Code := (c2 (c1 k13_7))
noncomputable def k13_16 : Code := (c2 (c1 k13_1))
noncomputable def k13_17 : Code := (c2 (c1 k13_16))
theorem s13_17 {R : VP} {Q : EQ} (hR : ∀ e w, (valS Try.prog (loadC 28 (e 6)) w fun r0 =>
R (Value.tuple #[r0, (e 7), (e 8)]) w) → Q .ret e w) (e : Env) (w : World) (h : m13_17 R (e 6) (e 7) (e 8) w) : W13 k13_17 Q e w := by
  unfold m13_17 at h
  exact reA (hR _ _ h)
theorem s13_14 {R : VP} {K1 : (Value × Value) → World → Prop} {Q : EQ} (hR : ∀ e w, (valS Try.prog (loadC 28 (e 6)) w fun r0 =>
R (Value.tuple #[r0, (e 7), (e 8)]) w) → Q .ret e w) (e : Env) (w : World) (h : m13_14 R K1 (e 6) (e 7) (e 8) w) : W13 k13_14 Q e w := by
  unfold m13_14 at h
  exact reA (hR _ _ h)
theorem s13_9 {R : VP} {K1 : (Value × Value) → World → Prop} {Q : EQ} (hN : ∀ e w, (K1 ((e 9), (e 10)) w) → Q .normal e w) (e : Env) (w : World) (h : m13_9 R K1 (e 2) (e 3) (e 4) (e 6) (e 9) (e 10) w) : W13 k13_9 Q e w := by
  unfold m13_9 at h
  exact rgA 6 (fun e w => K1 ((e 9), (e 10)) w) h hN
theorem s13_12 {R : VP} {K1 : (Value × Value) → World → Prop} {Q : EQ} (hN : ∀ e w, (m13_9 R K1 (e 2) (e 3) (e 4) (e 6) (e 9) (e 10) w) → Q .normal e w) (e : Env) (w : World) (h : m13_12 R K1 (e 2) (e 3) (e 4) (e 6) (e 9) (e 10) (e 12) w) : W13 k13_12 Q e w := by
  unfold m13_12 at h
  exact rgA 11 (fun e w => m13_9 R K1 (e 2) (e 3) (e 4) (e 6) (e 9) (e 10) w) h hN
theorem s13_11 {R : VP} {K1 : (Value × Value) → World → Prop} {Q : EQ} (hN : ∀ e w, (m13_9 R K1 (e 2) (e 3) (e 4) (e 6) (e 9) (e 10) w) → Q .normal e w) (e : Env) (w : World) (h : m13_11 R K1 (e 2) (e 3) (e 4) (e 6) (e 9) (e 10) (e 11) (e 12) w) : W13 k13_11 Q e w := by
  unfold m13_11 at h
  refine seA ?_
  have hN : ∀ e w, (m13_12 R K1 (e 2) (e 3) (e 4) (e 6) (e 9) (e 10) (e 12) w) → (thenE (W13 k13_12 Q) Q) .normal e w := fun e w h => then_N (s13_12 (R := R) (Q := Q) (K1 := K1) hN e w h)
  exact rgA 10 (fun e w => m13_12 R K1 (e 2) (e 3) (e 4) (e 6) (e 9) (e 10) (e 12) w) h hN
theorem s13_13 {R : VP} {K1 : (Value × Value) → World → Prop} {Q : EQ} (hN : ∀ e w, (m13_11 R K1 (e 2) (e 3) (e 4) (e 6) (e 9) (e 10) (e 11) (e 12) w) → Q .normal e w) (hR : ∀ e w, (valS Try.prog (loadC 28 (e 6)) w fun r0 =>
R (Value.tuple #[r0, (e 7), (e 8)]) w) → Q .ret e w) (e : Env) (w : World) (h : m13_13 R K1 (e 2) (e 3) (e 4) (e 6) (e 9) (e 10) (e 11) (e 12) (e 13) (e 37) w) : W13 k13_13 Q e w := by
  unfold m13_13 at h
  refine coA (Operand.tmp 37) h (fun h1 => ?_) (fun h1 => ?_)
  · refine seA ?_
    have hN : ∀ e w, (m13_14 R K1 (e 6) (e 7) (e 8) w) → (thenE (W13 k13_14 Q) Q) .normal e w := fun e w h => then_N (s13_14 (R := R) (Q := Q) (K1 := K1) hR e w h)
    exact rgA 9 (fun e w => m13_14 R K1 (e 6) (e 7) (e 8) w) h1 hN
  · exact skA (hN _ _ h1)
theorem s13_10 {R : VP} {K1 : (Value × Value) → World → Prop} {Q : EQ} (hN : ∀ e w, (m13_9 R K1 (e 2) (e 3) (e 4) (e 6) (e 9) (e 10) w) → Q .normal e w) (hR : ∀ e w, (valS Try.prog (loadC 28 (e 6)) w fun r0 =>
R (Value.tuple #[r0, (e 7), (e 8)]) w) → Q .ret e w) (e : Env) (w : World) (h : m13_10 R K1 (e 2) (e 3) (e 4) (e 6) (e 9) (e 10) (e 11) (e 12) (e 13) w) : W13 k13_10 Q e w := by
  unfold m13_10 at h
  refine seA ?_
  have hN : ∀ e w, (m13_11 R K1 (e 2) (e 3) (e 4) (e 6) (e 9) (e 10) (e 11) (e 12) w) → (thenE (W13 k13_11 Q) Q) .normal e w := fun e w h => then_N (s13_11 (R := R) (Q := Q) (K1 := K1) hN e w h)
  have hR : ∀ e w, (valS Try.prog (loadC 28 (e 6)) w fun r0 =>
  R (Value.tuple #[r0, (e 7), (e 8)]) w) → (thenE (W13 k13_11 Q) Q) .ret e w := fun e w h => then_R (hR e w h)
  refine seA ?_
  have hN : ∀ e w, (m13_13 R K1 (e 2) (e 3) (e 4) (e 6) (e 9) (e 10) (e 11) (e 12) (e 13) (e 37) w) → (thenE (W13 k13_13 (thenE (W13 k13_11 Q) Q)) (thenE (W13 k13_11 Q) Q)) .normal e w := fun e w h => then_N (s13_13 (R := R) (Q := (thenE (W13 k13_11 Q) Q)) (K1 := K1) hN hR e w h)
  exact rgA 8 (fun e w => m13_13 R K1 (e 2) (e 3) (e 4) (e 6) (e 9) (e 10) (e 11) (e 12) (e 13) (e 37) w) h hN
theorem s13_8 {R : VP} {K1 : (Value × Value) → World → Prop} {Q : EQ} (hN : ∀ e w, (K1 ((e 9), (e 10)) w) → Q .normal e w) (hR : ∀ e w, (valS Try.prog (loadC 28 (e 6)) w fun r0 =>
R (Value.tuple #[r0, (e 7), (e 8)]) w) → Q .ret e w) (e : Env) (w : World) (h : m13_8 R K1 (e 2) (e 3) (e 4) (e 6) (e 9) (e 10) w) : W13 k13_8 Q e w := by
  unfold m13_8 at h
  refine seA ?_
  have hN : ∀ e w, (m13_9 R K1 (e 2) (e 3) (e 4) (e 6) (e 9) (e 10) w) → (thenE (W13 k13_9 Q) Q) .normal e w := fun e w h => then_N (s13_9 (R := R) (Q := Q) (K1 := K1) hN e w h)
  have hR : ∀ e w, (valS Try.prog (loadC 28 (e 6)) w fun r0 =>
  R (Value.tuple #[r0, (e 7), (e 8)]) w) → (thenE (W13 k13_9 Q) Q) .ret e w := fun e w h => then_R (hR e w h)
  refine block_ok 1 (by kernel_rfl) ?_
  have hN : ∀ e w, (m13_9 R K1 (e 2) (e 3) (e 4) (e 6) (e 9) (e 10) w) → (inBlockE 1 (thenE (W13 k13_9 Q) Q)) .normal e w := fun e w h => block_N (hN e w h)
  have hR : ∀ e w, (valS Try.prog (loadC 28 (e 6)) w fun r0 =>
  R (Value.tuple #[r0, (e 7), (e 8)]) w) → (inBlockE 1 (thenE (W13 k13_9 Q) Q)) .ret e w := fun e w h => block_R (hR e w h)
  refine seA ?_
  have hN : ∀ e w, (m13_10 R K1 (e 2) (e 3) (e 4) (e 6) (e 9) (e 10) (e 11) (e 12) (e 13) w) → (thenE (W13 k13_10 (inBlockE 1 (thenE (W13 k13_9 Q) Q))) (inBlockE 1 (thenE (W13 k13_9 Q) Q))) .normal e w := fun e w h => then_N (s13_10 (R := R) (Q := (inBlockE 1 (thenE (W13 k13_9 Q) Q))) (K1 := K1) hN hR e w h)
  exact treeJ_ok 7 15 [false, false, false, false, false, false, false, false, false, false, false, false, false, false, false] (.take 0 [true, false, false, false, false, false, false, false, false, false, false, false, false, false, false] (.take 1 [true, true, false, false, false, false, false, false, false, false, false, false, false, false, false] (.take 2 [true, true, true, false, false, false, false, false, false, false, false, false, false, false, false] (.take 3 [true, true, true, true, false, false, false, false, false, false, false, false, false, false, false] (.take 4 [true, true, true, true, true, false, false, false, false, false, false, false, false, false, false] (.take 5 [true, true, true, true, true, true, false, false, false, false, false, false, false, false, false] (.alt 6 [true, true, true, true, true, true, true, false, false, false, false, false, false, false, false] (.take 7 [true, true, true, true, true, true, true, true, false, false, false, false, false, false, false] (.take 8 [true, true, true, true, true, true, true, true, true, false, false, false, false, false, false] (.take 9 [true, true, true, true, true, true, true, true, true, true, false, false, false, false, false] (.take 10 [true, true, true, true, true, true, true, true, true, true, true, false, false, false, false] (.alt 11 [true, true, true, true, true, true, true, true, true, true, true, true, false, false, false] (.alt 12 [true, true, true, true, true, true, true, true, true, true, true, true, true, false, false] (.take 13 [true, true, true, true, true, true, true, true, true, true, true, true, true, true, false] (.take 14 [true, true, true, true, true, true, true, true, true, true, true, true, true, true, true] .done)) .stop) .stop))))) (.alt 11 [true, true, true, true, true, true, false, false, false, false, false, true, false, false, false] (.alt 6 [true, true, true, true, true, true, true, false, false, false, false, true, false, false, false] (.take 7 [true, true, true, true, true, true, true, true, false, false, false, true, false, false, false] (.take 8 [true, true, true, true, true, true, true, true, true, false, false, true, false, false, false] (.take 9 [true, true, true, true, true, true, true, true, true, true, false, true, false, false, false] (.take 10 [true, true, true, true, true, true, true, true, true, true, true, true, false, false, false] (.alt 12 [true, true, true, true, true, true, true, true, true, true, true, true, true, false, false] (.take 13 [true, true, true, true, true, true, true, true, true, true, true, true, true, true, false] (.take 14 [true, true, true, true, true, true, true, true, true, true, true, true, true, true, true] .done)) .stop))))) .stop) .stop)))))))) (fun e w => m13_10 R K1 (e 2) (e 3) (e 4) (e 6) (e 9) (e 10) (e 11) (e 12) (e 13) w) (by kernel_rfl) (by kernel_rfl) (by kernel_rfl) (by kernel_rfl) (by kernel_rfl) (by kernel_rfl) (kcast (by kernel_rfl) h) hN (by kernel_rfl)
theorem s13_5 {R : VP} {Q : EQ} (hR : ∀ e w, (valS Try.prog (loadC 28 (e 6)) w fun r0 =>
R (Value.tuple #[r0, (e 7), (e 8)]) w) → Q .ret e w) (e : Env) (w : World) (h : m13_5 R (e 6) (e 7) (e 8) w) : W13 k13_5 Q e w := by
  unfold m13_5 at h
  exact reA (hR _ _ h)
theorem s13_4 {R : VP} {Q : EQ} (hR : ∀ e w, (valS Try.prog (loadC 28 (e 6)) w fun r0 =>
R (Value.tuple #[r0, (e 7), (e 8)]) w) → Q .ret e w) (e : Env) (w : World) (h : m13_4 R (e 4) (e 6) (e 9) w) : W13 k13_4 Q e w := by
  unfold m13_4 at h
  refine seA ?_
  have hN : ∀ e w, (m13_5 R (e 6) (e 7) (e 8) w) → (thenE (W13 k13_5 Q) Q) .normal e w := fun e w h => then_N (s13_5 (R := R) (Q := Q) hR e w h)
  exact rgA 12 (fun e w => m13_5 R (e 6) (e 7) (e 8) w) h hN
theorem s13_15 {R : VP} {K1 : (Value × Value) → World → Prop} {Q : EQ} (hN : ∀ e w, (m13_8 R K1 (e 2) (e 3) (e 4) (e 6) (e 9) (e 10) w) → Q .normal e w) (hX0 : ∀ e w, (m13_4 R (e 4) (e 6) (e 9) w) → Q (.exit 0) e w) (e : Env) (w : World) (h : m13_15 R K1 (e 2) (e 3) (e 4) (e 6) (e 9) (e 10) (e 22) w) : W13 k13_15 Q e w := by
  unfold m13_15 at h
  refine coA (Operand.tmp 22) h (fun h1 => ?_) (fun h1 => ?_)
  · exact skA (hN _ _ h1)
  · exact exA 0 (hX0 _ _ h1)
theorem s13_7 {R : VP} {K1 : (Value × Value) → World → Prop} {Q : EQ} (hN : ∀ e w, (K1 ((e 9), (e 10)) w) → Q .normal e w) (hR : ∀ e w, (valS Try.prog (loadC 28 (e 6)) w fun r0 =>
R (Value.tuple #[r0, (e 7), (e 8)]) w) → Q .ret e w) (hX0 : ∀ e w, (m13_4 R (e 4) (e 6) (e 9) w) → Q (.exit 0) e w) (e : Env) (w : World) (h : m13_7 R K1 (e 2) (e 3) (e 4) (e 6) (e 9) (e 10) w) : W13 k13_7 Q e w := by
  unfold m13_7 at h
  refine seA ?_
  have hN : ∀ e w, (m13_8 R K1 (e 2) (e 3) (e 4) (e 6) (e 9) (e 10) w) → (thenE (W13 k13_8 Q) Q) .normal e w := fun e w h => then_N (s13_8 (R := R) (Q := Q) (K1 := K1) hN hR e w h)
  have hX0 : ∀ e w, (m13_4 R (e 4) (e 6) (e 9) w) → (thenE (W13 k13_8 Q) Q) (.exit 0) e w := fun e w h => then_X (hX0 e w h)
  refine seA ?_
  have hN : ∀ e w, (m13_15 R K1 (e 2) (e 3) (e 4) (e 6) (e 9) (e 10) (e 22) w) → (thenE (W13 k13_15 (thenE (W13 k13_8 Q) Q)) (thenE (W13 k13_8 Q) Q)) .normal e w := fun e w h => then_N (s13_15 (R := R) (Q := (thenE (W13 k13_8 Q) Q)) (K1 := K1) hN hX0 e w h)
  exact rgA 5 (fun e w => m13_15 R K1 (e 2) (e 3) (e 4) (e 6) (e 9) (e 10) (e 22) w) h hN
theorem s13_6 {R : VP} {Q : EQ} (hN : ∀ e w, (m13_4 R (e 4) (e 6) (e 9) w) → Q .normal e w) (hR : ∀ e w, (valS Try.prog (loadC 28 (e 6)) w fun r0 =>
R (Value.tuple #[r0, (e 7), (e 8)]) w) → Q .ret e w) (e : Env) (w : World) (h : m13_6 R (e 2) (e 3) (e 4) (e 6) (e 9) (e 10) w) : W13 k13_6 Q e w := by
  unfold m13_6 at h
  refine block_ok 0 (by kernel_rfl) ?_
  have hX0 : ∀ e w, (m13_4 R (e 4) (e 6) (e 9) w) → (inBlockE 0 Q) (.exit 0) e w := fun e w h => inBlock_same (Q := Q) 0 (hN e w h)
  have hR : ∀ e w, (valS Try.prog (loadC 28 (e 6)) w fun r0 =>
  R (Value.tuple #[r0, (e 7), (e 8)]) w) → (inBlockE 0 Q) .ret e w := fun e w h => block_R (hR e w h)
  refine loop_ok' (fun (e : Env) => (e 9, e 10)) [2, 3, 4, 6] (by kernel_rfl) (by kernel_rfl) h (fun K e' w' hk h' => ?_)
  have r2 : e' 2 = e 2 := hk 2 (by decide)
  have r3 : e' 3 = e 3 := hk 3 (by decide)
  have r4 : e' 4 = e 4 := hk 4 (by decide)
  have r6 : e' 6 = e 6 := hk 6 (by decide)
  have hR : ∀ e w, (valS Try.prog (loadC 28 (e 6)) w fun r0 =>
  R (Value.tuple #[r0, (e 7), (e 8)]) w) → (thenE (fun (e : Env) w => K ((e 9), (e 10)) w) (inBlockE 0 Q)) .ret e w := fun e w h => then_R (hR e w h)
  have hX0 : ∀ e w, (m13_4 R (e 4) (e 6) (e 9) w) → (thenE (fun (e : Env) w => K ((e 9), (e 10)) w) (inBlockE 0 Q)) (.exit 0) e w := fun e w h => then_X (hX0 e w h)
  exact s13_7 (R := R) (Q := (thenE (fun (e : Env) w => K ((e 9), (e 10)) w) (inBlockE 0 Q))) (K1 := K) (fun _ _ h => then_N h) hR hX0 e' w' (by rw [r2, r3, r4, r6]; exact h')
theorem s13_3 {R : VP} {Q : EQ} (hR : ∀ e w, (valS Try.prog (loadC 28 (e 6)) w fun r0 =>
R (Value.tuple #[r0, (e 7), (e 8)]) w) → Q .ret e w) (e : Env) (w : World) (h : m13_3 R (e 2) (e 3) (e 4) (e 6) (e 9) w) : W13 k13_3 Q e w := by
  unfold m13_3 at h
  refine seA ?_
  have hN : ∀ e w, (m13_4 R (e 4) (e 6) (e 9) w) → (thenE (W13 k13_4 Q) Q) .normal e w := fun e w h => then_N (s13_4 (R := R) (Q := Q) hR e w h)
  have hR : ∀ e w, (valS Try.prog (loadC 28 (e 6)) w fun r0 =>
  R (Value.tuple #[r0, (e 7), (e 8)]) w) → (thenE (W13 k13_4 Q) Q) .ret e w := fun e w h => then_R (hR e w h)
  refine seA ?_
  have hN : ∀ e w, (m13_6 R (e 2) (e 3) (e 4) (e 6) (e 9) (e 10) w) → (thenE (W13 k13_6 (thenE (W13 k13_4 Q) Q)) (thenE (W13 k13_4 Q) Q)) .normal e w := fun e w h => then_N (s13_6 (R := R) (Q := (thenE (W13 k13_4 Q) Q)) hN hR e w h)
  exact rgA 4 (fun e w => m13_6 R (e 2) (e 3) (e 4) (e 6) (e 9) (e 10) w) h hN
theorem s13_2 {R : VP} {Q : EQ} (hR : ∀ e w, (valS Try.prog (loadC 28 (e 6)) w fun r0 =>
R (Value.tuple #[r0, (e 7), (e 8)]) w) → Q .ret e w) (e : Env) (w : World) (h : m13_2 R (e 2) (e 3) (e 4) (e 6) w) : W13 k13_2 Q e w := by
  unfold m13_2 at h
  refine seA ?_
  have hN : ∀ e w, (m13_3 R (e 2) (e 3) (e 4) (e 6) (e 9) w) → (thenE (W13 k13_3 Q) Q) .normal e w := fun e w h => then_N (s13_3 (R := R) (Q := Q) hR e w h)
  exact rgA 3 (fun e w => m13_3 R (e 2) (e 3) (e 4) (e 6) (e 9) w) h hN
theorem s13_16 {R : VP} {Q : EQ} (hN : ∀ e w, (m13_2 R (e 2) (e 3) (e 4) (e 6) w) → Q .normal e w) (hR : ∀ e w, (valS Try.prog (loadC 28 (e 6)) w fun r0 =>
R (Value.tuple #[r0, (e 7), (e 8)]) w) → Q .ret e w) (e : Env) (w : World) (h : m13_16 R (e 2) (e 3) (e 4) (e 6) (e 17) w) : W13 k13_16 Q e w := by
  unfold m13_16 at h
  refine coA (Operand.tmp 17) h (fun h1 => ?_) (fun h1 => ?_)
  · refine seA ?_
    have hN : ∀ e w, (m13_17 R (e 6) (e 7) (e 8) w) → (thenE (W13 k13_17 Q) Q) .normal e w := fun e w h => then_N (s13_17 (R := R) (Q := Q) hR e w h)
    exact rgA 2 (fun e w => m13_17 R (e 6) (e 7) (e 8) w) h1 hN
  · exact skA (hN _ _ h1)
theorem s13_1 {R : VP} {Q : EQ} (hR : ∀ e w, (valS Try.prog (loadC 28 (e 6)) w fun r0 =>
R (Value.tuple #[r0, (e 7), (e 8)]) w) → Q .ret e w) (e : Env) (w : World) (h : m13_1 R (e 2) (e 3) (e 4) (e 6) w) : W13 k13_1 Q e w := by
  unfold m13_1 at h
  refine seA ?_
  have hN : ∀ e w, (m13_2 R (e 2) (e 3) (e 4) (e 6) w) → (thenE (W13 k13_2 Q) Q) .normal e w := fun e w h => then_N (s13_2 (R := R) (Q := Q) hR e w h)
  have hR : ∀ e w, (valS Try.prog (loadC 28 (e 6)) w fun r0 =>
  R (Value.tuple #[r0, (e 7), (e 8)]) w) → (thenE (W13 k13_2 Q) Q) .ret e w := fun e w h => then_R (hR e w h)
  refine seA ?_
  have hN : ∀ e w, (m13_16 R (e 2) (e 3) (e 4) (e 6) (e 17) w) → (thenE (W13 k13_16 (thenE (W13 k13_2 Q) Q)) (thenE (W13 k13_2 Q) Q)) .normal e w := fun e w h => then_N (s13_16 (R := R) (Q := (thenE (W13 k13_2 Q) Q)) hN hR e w h)
  exact rgA 1 (fun e w => m13_16 R (e 2) (e 3) (e 4) (e 6) (e 17) w) h hN
theorem s13_0 {R : VP} {Q : EQ} (hR : ∀ e w, (valS Try.prog (loadC 28 (e 6)) w fun r0 =>
R (Value.tuple #[r0, (e 7), (e 8)]) w) → Q .ret e w) (e : Env) (w : World) (h : m13_0 R (e 0) (e 1) (e 2) w) : W13 k13_0 Q e w := by
  unfold m13_0 at h
  refine seA ?_
  have hN : ∀ e w, (m13_1 R (e 2) (e 3) (e 4) (e 6) w) → (thenE (W13 k13_1 Q) Q) .normal e w := fun e w h => then_N (s13_1 (R := R) (Q := Q) hR e w h)
  exact rgA 0 (fun e w => m13_1 R (e 2) (e 3) (e 4) (e 6) w) h hN
abbrev m13 (R : VP) (g0 s1 l2 : Value) (w : World) : Prop := m13_0 R g0 s1 l2 w
theorem s13 (g0 s1 l2 : Value) {R : VP} {w : World} (h : m13 R g0 s1 l2 w) :
    Calls Try.prog 13 #[g0, s1, l2] w fun e w' => ∃ v, e = .returned v ∧ R v w' :=
  calls_of_cwp (st := (fun i => 0)) (c := k13_0) (by kernel_rfl) Try.func13 (by kernel_rfl) (Nat.le_of_ble_eq_true (by kernel_rfl)) (by kernel_rfl)
    (s13_0 (R := R) (Q := endE Try.prog Try.f13 R) (fun e w h => kcast (by kernel_rfl) h) (argsE #[g0, s1, l2]) w (kcast (by kernel_rfl) h))
end Go.Proofs.Ytnhgdngbdoifnaa.M
