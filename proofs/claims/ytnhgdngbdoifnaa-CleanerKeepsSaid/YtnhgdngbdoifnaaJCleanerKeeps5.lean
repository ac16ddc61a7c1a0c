/- Parts of a proof, in one text: what it needs of Meng0, K4, K5, K6. -/
import Derived.Test.YtnhgdngbdoifnaaJCleanerKeeps4
import Derived.Test.YtnhgdngbdoifnaaProg
namespace Go.Proofs.Ytnhgdngbdoifnaa.M
open Go.Proofs.Ytnhgdngbdoifnaa.F
set_option linter.unusedVariables false
set_option maxRecDepth 100000
variable {R : VP} {Q : EQ}
def m28_2 (R : VP) (t2 : Value) (w : World) : Prop :=
  R t2 w
def m28_1 (R : VP) (n0 : Value) (w : World) : Prop :=
  valP Try.prog (binS BinOp.geq 3 (tm 3) (ci 0) n0 (vi 0)) w fun t4 w =>
  condP t4
  (valP Try.prog (binS BinOp.leq 3 (tm 6) (ci 1099511627776) n0 (vi 1099511627776)) w fun t7 w =>
  pickP t4 t7 (Value.bool false) fun t8 =>
  m28_2 R t8 w)
  (pickP t4 undef (Value.bool false) fun t8 =>
  m28_2 R t8 w)
def m28_0 (R : VP) (n0 : Value) (w : World) : Prop :=
  m28_1 R n0 w
abbrev W28 := cwp Try.prog (fun i => 0)
noncomputable def k28_0 := bodyOf Try.f28
noncomputable def k28_1 := c2 k28_0
noncomputable def k28_2 := c2 k28_1
abbrev hR28 (R : VP) (Q : EQ) : Prop := ∀ e w, (R (e 2) w) → Q .ret e w
theorem s28_2 (hR : hR28 R Q) (e : Env) (w : World) (h : m28_2 R (e 2) w) : W28 k28_2 Q e w := by
  exact reA (hR _ _ h)
theorem s28_1 (hR : hR28 R Q) (e : Env) (w : World) (h : m28_1 R (e 0) w) : W28 k28_1 Q e w := by
  refine seA ?_
  exact rgA 1 (fun e w => m28_2 R (e 2) w) h fun e w h => then_N (s28_2 hR e w h)
theorem s28_0 (hR : hR28 R Q) (e : Env) (w : World) (h : m28_0 R (e 0) w) : W28 k28_0 Q e w := by
  refine seA ?_
  exact rgA 0 (fun e w => m28_1 R (e 0) w) h fun e w h => then_N (s28_1 hR e w h)
abbrev m28 (R : VP) (n0 : Value) (w : World) : Prop := m28_0 R n0 w
theorem s28 (n0 : Value) {R : VP} {w : World} (h : m28 R n0 w) :
    Calls Try.prog 28 #[n0] w fun e w' => ∃ v, e = .returned v ∧ R v w' :=
  calls_of_cwp (st := (fun i => 0)) (c := k28_0) (by kernel_rfl) Try.func28 (by kernel_rfl) (Nat.le_of_ble_eq_true (by kernel_rfl)) (by kernel_rfl)
    (s28_0 (R := R) (Q := endE Try.prog Try.f28 R) (fun e w h => kcast (by kernel_rfl) h) (argsE #[n0]) w (kcast (by kernel_rfl) h))
def m25_2 (R : VP) (t4 : Value) (w : World) : Prop :=
  R t4 w
def m25_1 (R : VP) (a2 b3 : Value) (w : World) : Prop :=
  valP Try.prog (Instr.fieldAt 67 a2 1) w fun t5 w =>
  valP Try.prog (Instr.loadAt 3 t5) w fun t6 w =>
  valP Try.prog (Instr.fieldAt 67 b3 1) w fun t7 w =>
  valP Try.prog (Instr.loadAt 3 t7) w fun t8 w =>
  valP Try.prog (binS BinOp.lss 3 (tm 6) (tm 8) t6 t8) w fun t9 w =>
  condP t9
  (pickP t9 (Value.bool true) undef fun t23 =>
  m25_2 R t23 w)
  (valP Try.prog (Instr.fieldAt 67 a2 1) w fun t11 w =>
  valP Try.prog (Instr.loadAt 3 t11) w fun t12 w =>
  valP Try.prog (Instr.fieldAt 67 b3 1) w fun t13 w =>
  valP Try.prog (Instr.loadAt 3 t13) w fun t14 w =>
  valP Try.prog (binS BinOp.eql 3 (tm 12) (tm 14) t12 t14) w fun t15 w =>
  condP t15
  (valP Try.prog (Instr.fieldAt 67 a2 0) w fun t17 w =>
  valP Try.prog (Instr.loadAt 3 t17) w fun t18 w =>
  valP Try.prog (Instr.fieldAt 67 b3 0) w fun t19 w =>
  valP Try.prog (Instr.loadAt 3 t19) w fun t20 w =>
  valP Try.prog (binS BinOp.lss 3 (tm 18) (tm 20) t18 t20) w fun t21 w =>
  pickP t15 t21 (Value.bool false) fun t22 =>
  pickP t9 (Value.bool true) t22 fun t23 =>
  m25_2 R t23 w)
  (pickP t15 undef (Value.bool false) fun t22 =>
  pickP t9 (Value.bool true) t22 fun t23 =>
  m25_2 R t23 w))
def m25_0 (R : VP) (a0 b1 : Value) (w : World) : Prop :=
  valP Try.prog (Instr.box 67 a0) w fun a2 w =>
  valP Try.prog (Instr.box 67 b1) w fun b3 w =>
  m25_1 R a2 b3 w
abbrev W25 := cwp Try.prog (fun i => 0)
noncomputable def k25_0 := bodyOf Try.f25
noncomputable def k25_1 := c2 k25_0
noncomputable def k25_2 := c2 k25_1
abbrev hR25 (R : VP) (Q : EQ) : Prop := ∀ e w, (R (e 4) w) → Q .ret e w
theorem s25_2 (hR : hR25 R Q) (e : Env) (w : World) (h : m25_2 R (e 4) w) : W25 k25_2 Q e w := by
  exact reA (hR _ _ h)
theorem s25_1 (hR : hR25 R Q) (e : Env) (w : World) (h : m25_1 R (e 2) (e 3) w) : W25 k25_1 Q e w := by
  refine seA ?_
  exact rgA 1 (fun e w => m25_2 R (e 4) w) h fun e w h => then_N (s25_2 hR e w h)
theorem s25_0 (hR : hR25 R Q) (e : Env) (w : World) (h : m25_0 R (e 0) (e 1) w) : W25 k25_0 Q e w := by
  refine seA ?_
  exact rgA 0 (fun e w => m25_1 R (e 2) (e 3) w) h fun e w h => then_N (s25_1 hR e w h)
abbrev m25 (R : VP) (a0 b1 : Value) (w : World) : Prop := m25_0 R a0 b1 w
theorem s25 (a0 b1 : Value) {R : VP} {w : World} (h : m25 R a0 b1 w) :
    Calls Try.prog 25 #[a0, b1] w fun e w' => ∃ v, e = .returned v ∧ R v w' :=
  calls_of_cwp (st := (fun i => 0)) (c := k25_0) (by kernel_rfl) Try.func25 (by kernel_rfl) (Nat.le_of_ble_eq_true (by kernel_rfl)) (by kernel_rfl)
    (s25_0 (R := R) (Q := endE Try.prog Try.f25 R) (fun e w h => kcast (by kernel_rfl) h) (argsE #[a0, b1]) w (kcast (by kernel_rfl) h))
def m15_17 (R : VP) (t4 : Value) (w : World) : Prop :=
  R t4 w
def m15_14 (R : VP) (K1 : VP) (t4 : Value) (w : World) : Prop :=
  R t4 w
def m15_12 (R : VP) (K1 : VP) (t4 : Value) (w : World) : Prop :=
  R t4 w
def m15_8 (R : VP) (K1 : VP) (g2 s3 i5 : Value) (w : World) : Prop :=
  valP Try.prog (binS BinOp.add 3 (tm 60) (ci 1) i5 (vi 1)) w fun t61 w =>
  K1 t61 w
def m15_11 (R : VP) (K1 : VP) (g2 s3 i5 t123 : Value) (w : World) : Prop :=
  condP t123
  (m15_12 R K1 (Value.bool false) w)
  (m15_8 R K1 g2 s3 i5 w)
def m15_10 (R : VP) (K1 : VP) (g2 s3 i5 c6 : Value) (w : World) : Prop :=
  anyDraw w fun w =>
  valS Try.prog (binS BinOp.gtr 3 (tm 111) (ci 0) i5 (vi 0)) w fun t112 =>
  condP t112
  (valS Try.prog (Instr.fieldAt 28 s3 4) w fun t114 =>
  valS Try.prog (Instr.loadAt 26 t114) w fun t115 =>
  valS Try.prog (binS BinOp.sub 3 (tm 116) (ci 1) i5 (vi 1)) w fun t117 =>
  valS Try.prog (Instr.indexAt 26 t115 t117) w fun t118 =>
  valS Try.prog (Instr.loadAt 67 t118) w fun t119 =>
  valS Try.prog (Instr.loadAt 67 c6) w fun t120 =>
  callP Try.prog (fnV 25) #[t119, t120] w fun t121 w =>
  valP Try.prog (Op.unary UnOp.not t121) w fun t122 w =>
  pickP t112 t122 (Value.bool false) fun t123 =>
  m15_11 R K1 g2 s3 i5 t123 w)
  (pickP t112 undef (Value.bool false) fun t123 =>
  m15_11 R K1 g2 s3 i5 t123 w)
def m15_13 (R : VP) (K1 : VP) (g2 s3 i5 c6 t110 : Value) (w : World) : Prop :=
  condP t110
  (m15_14 R K1 (Value.bool false) w)
  (m15_10 R K1 g2 s3 i5 c6 w)
def m15_9 (R : VP) (K1 : VP) (g2 s3 i5 c6 : Value) (w : World) : Prop :=
  valP Try.prog (Instr.fieldAt 67 c6 0) w fun t67 w =>
  valP Try.prog (Instr.loadAt 3 t67) w fun t68 w =>
  callP Try.prog (fnV 28) #[t68] w fun t69 w =>
  valP Try.prog (Op.unary UnOp.not t69) w fun t70 w =>
  condP t70
  (pickP t70 (Value.bool true) undef fun t75 =>
  pickP t75 (Value.bool true) undef fun t81 =>
  pickP t81 (Value.bool true) undef fun t89 =>
  pickP t89 (Value.bool true) undef fun t96 =>
  pickP t96 (Value.bool true) undef fun t104 =>
  pickP t104 (Value.bool true) undef fun t110 =>
  m15_13 R K1 g2 s3 i5 c6 t110 w)
  (valP Try.prog (Instr.fieldAt 67 c6 0) w fun t72 w =>
  valP Try.prog (Instr.loadAt 3 t72) w fun t73 w =>
  valP Try.prog (binS BinOp.gtr 3 (tm 73) (ci 1048576) t73 (vi 1048576)) w fun t74 w =>
  pickP t70 (Value.bool true) t74 fun t75 =>
  condP t75
  (pickP t75 (Value.bool true) undef fun t81 =>
  pickP t81 (Value.bool true) undef fun t89 =>
  pickP t89 (Value.bool true) undef fun t96 =>
  pickP t96 (Value.bool true) undef fun t104 =>
  pickP t104 (Value.bool true) undef fun t110 =>
  m15_13 R K1 g2 s3 i5 c6 t110 w)
  (valP Try.prog (Instr.fieldAt 67 c6 1) w fun t77 w =>
  valP Try.prog (Instr.loadAt 3 t77) w fun t78 w =>
  callP Try.prog (fnV 28) #[t78] w fun t79 w =>
  valP Try.prog (Op.unary UnOp.not t79) w fun t80 w =>
  pickP t75 (Value.bool true) t80 fun t81 =>
  condP t81
  (pickP t81 (Value.bool true) undef fun t89 =>
  pickP t89 (Value.bool true) undef fun t96 =>
  pickP t96 (Value.bool true) undef fun t104 =>
  pickP t104 (Value.bool true) undef fun t110 =>
  m15_13 R K1 g2 s3 i5 c6 t110 w)
  (valP Try.prog (Instr.fieldAt 67 c6 1) w fun t83 w =>
  valP Try.prog (Instr.loadAt 3 t83) w fun t84 w =>
  valP Try.prog (Instr.fieldAt 23 g2 1) w fun t85 w =>
  valP Try.prog (Instr.loadAt 3 t85) w fun t86 w =>
  valP Try.prog (binS BinOp.rem 3 (tm 84) (tm 86) t84 t86) w fun t87 w =>
  valP Try.prog (binS BinOp.neq 3 (tm 87) (ci 0) t87 (vi 0)) w fun t88 w =>
  pickP t81 (Value.bool true) t88 fun t89 =>
  condP t89
  (pickP t89 (Value.bool true) undef fun t96 =>
  pickP t96 (Value.bool true) undef fun t104 =>
  pickP t104 (Value.bool true) undef fun t110 =>
  m15_13 R K1 g2 s3 i5 c6 t110 w)
  (valP Try.prog (Instr.fieldAt 67 c6 1) w fun t91 w =>
  valP Try.prog (Instr.loadAt 3 t91) w fun t92 w =>
  valP Try.prog (Instr.fieldAt 28 s3 0) w fun t93 w =>
  valP Try.prog (Instr.loadAt 3 t93) w fun t94 w =>
  valP Try.prog (binS BinOp.gtr 3 (tm 92) (tm 94) t92 t94) w fun t95 w =>
  pickP t89 (Value.bool true) t95 fun t96 =>
  condP t96
  (pickP t96 (Value.bool true) undef fun t104 =>
  pickP t104 (Value.bool true) undef fun t110 =>
  m15_13 R K1 g2 s3 i5 c6 t110 w)
  (valP Try.prog (Instr.loadAt 23 g2) w fun t98 w =>
  valP Try.prog (Instr.fieldAt 67 c6 1) w fun t99 w =>
  valP Try.prog (Instr.loadAt 3 t99) w fun t100 w =>
  valP Try.prog (Instr.fieldAt 28 s3 0) w fun t101 w =>
  valP Try.prog (Instr.loadAt 3 t101) w fun t102 w =>
  callP Try.prog (fnV 29) #[t98, t100, t102] w fun t103 w =>
  pickP t96 (Value.bool true) t103 fun t104 =>
  condP t104
  (pickP t104 (Value.bool true) undef fun t110 =>
  m15_13 R K1 g2 s3 i5 c6 t110 w)
  (valP Try.prog (Instr.fieldAt 67 c6 2) w fun t106 w =>
  valP Try.prog (Instr.loadAt 65 t106) w fun t107 w =>
  callP Try.prog (fnV 30) #[t107] w fun t108 w =>
  valP Try.prog (Op.unary UnOp.not t108) w fun t109 w =>
  pickP t104 (Value.bool true) t109 fun t110 =>
  m15_13 R K1 g2 s3 i5 c6 t110 w))))))
def m15_7 (R : VP) (K1 : VP) (g2 s3 i5 : Value) (w : World) : Prop :=
  valP Try.prog (Instr.fieldAt 28 s3 4) w fun t62 w =>
  valP Try.prog (Instr.loadAt 26 t62) w fun t63 w =>
  valP Try.prog (Instr.indexAt 26 t63 i5) w fun t65 w =>
  valP Try.prog (Instr.loadAt 67 t65) w fun t66 w =>
  valP Try.prog (Instr.alloc 67 true (.tuple #[])) w fun c6 w =>
  unitP Try.prog (Instr.storeAt 67 c6 t66) w fun _ w =>
  m15_9 R K1 g2 s3 i5 c6 w
def m15_4 (R : VP) (t4 : Value) (w : World) : Prop :=
  R t4 w
def m15_3 (R : VP) (w : World) : Prop :=
  m15_4 R (Value.bool true) w
def m15_15 (R : VP) (K1 : VP) (g2 s3 i5 t59 : Value) (w : World) : Prop :=
  condP t59
  (m15_7 R K1 g2 s3 i5 w)
  (m15_3 R w)
def m15_6 (R : VP) (K1 : VP) (g2 s3 i5 : Value) (w : World) : Prop :=
  valP Try.prog (Instr.fieldAt 28 s3 4) w fun t56 w =>
  valP Try.prog (Instr.loadAt 26 t56) w fun t57 w =>
  builtinP Try.prog Builtin.len #[26] 3 #[false] #[t57] w fun t58 w =>
  valP Try.prog (binS BinOp.lss 3 (tm 55) (tm 58) i5 t58) w fun t59 w =>
  m15_15 R K1 g2 s3 i5 t59 w
def m15_5 (R : VP) (g2 s3 i5 : Value) (w : World) : Prop :=
  loopP (fun (K1 : VP) (s : Value) w => m15_6 R K1 g2 s3 s w) i5 w
def m15_2 (R : VP) (g2 s3 : Value) (w : World) : Prop :=
  m15_5 R g2 s3 (vi 0) w
def m15_16 (R : VP) (g2 s3 t54 : Value) (w : World) : Prop :=
  condP t54
  (m15_17 R (Value.bool false) w)
  (m15_2 R g2 s3 w)
def m15_1 (R : VP) (g2 s3 : Value) (w : World) : Prop :=
  valP Try.prog (Instr.loadAt 23 g2) w fun t7 w =>
  callP Try.prog (fnV 27) #[t7] w fun t8 w =>
  valP Try.prog (Op.unary UnOp.not t8) w fun t9 w =>
  condP t9
  (pickP t9 (Value.bool true) undef fun t20 =>
  pickP t20 (Value.bool true) undef fun t26 =>
  pickP t26 (Value.bool true) undef fun t32 =>
  pickP t32 (Value.bool true) undef fun t38 =>
  pickP t38 (Value.bool true) undef fun t48 =>
  pickP t48 (Value.bool true) undef fun t54 =>
  m15_16 R g2 s3 t54 w)
  (valP Try.prog (Instr.fieldAt 28 s3 0) w fun t11 w =>
  valP Try.prog (Instr.loadAt 3 t11) w fun t12 w =>
  valP Try.prog (binS BinOp.neq 3 (tm 12) (ci (-1)) t12 (vi (-1))) w fun t13 w =>
  condP t13
  (valP Try.prog (Instr.fieldAt 28 s3 0) w fun t15 w =>
  valP Try.prog (Instr.loadAt 3 t15) w fun t16 w =>
  callP Try.prog (fnV 28) #[t16] w fun t17 w =>
  valP Try.prog (Op.unary UnOp.not t17) w fun t18 w =>
  pickP t13 t18 (Value.bool false) fun t19 =>
  pickP t9 (Value.bool true) t19 fun t20 =>
  condP t20
  (pickP t20 (Value.bool true) undef fun t26 =>
  pickP t26 (Value.bool true) undef fun t32 =>
  pickP t32 (Value.bool true) undef fun t38 =>
  pickP t38 (Value.bool true) undef fun t48 =>
  pickP t48 (Value.bool true) undef fun t54 =>
  m15_16 R g2 s3 t54 w)
  (valP Try.prog (Instr.fieldAt 28 s3 1) w fun t22 w =>
  valP Try.prog (Instr.loadAt 3 t22) w fun t23 w =>
  callP Try.prog (fnV 28) #[t23] w fun t24 w =>
  valP Try.prog (Op.unary UnOp.not t24) w fun t25 w =>
  pickP t20 (Value.bool true) t25 fun t26 =>
  condP t26
  (pickP t26 (Value.bool true) undef fun t32 =>
  pickP t32 (Value.bool true) undef fun t38 =>
  pickP t38 (Value.bool true) undef fun t48 =>
  pickP t48 (Value.bool true) undef fun t54 =>
  m15_16 R g2 s3 t54 w)
  (valP Try.prog (Instr.fieldAt 28 s3 2) w fun t28 w =>
  valP Try.prog (Instr.loadAt 3 t28) w fun t29 w =>
  callP Try.prog (fnV 28) #[t29] w fun t30 w =>
  valP Try.prog (Op.unary UnOp.not t30) w fun t31 w =>
  pickP t26 (Value.bool true) t31 fun t32 =>
  condP t32
  (pickP t32 (Value.bool true) undef fun t38 =>
  pickP t38 (Value.bool true) undef fun t48 =>
  pickP t48 (Value.bool true) undef fun t54 =>
  m15_16 R g2 s3 t54 w)
  (valP Try.prog (Instr.fieldAt 28 s3 3) w fun t34 w =>
  valP Try.prog (Instr.loadAt 3 t34) w fun t35 w =>
  callP Try.prog (fnV 28) #[t35] w fun t36 w =>
  valP Try.prog (Op.unary UnOp.not t36) w fun t37 w =>
  pickP t32 (Value.bool true) t37 fun t38 =>
  condP t38
  (pickP t38 (Value.bool true) undef fun t48 =>
  pickP t48 (Value.bool true) undef fun t54 =>
  m15_16 R g2 s3 t54 w)
  (valP Try.prog (Instr.fieldAt 28 s3 1) w fun t40 w =>
  valP Try.prog (Instr.loadAt 3 t40) w fun t41 w =>
  valP Try.prog (Instr.fieldAt 28 s3 2) w fun t42 w =>
  valP Try.prog (Instr.loadAt 3 t42) w fun t43 w =>
  valP Try.prog (binS BinOp.add 3 (tm 41) (tm 43) t41 t43) w fun t44 w =>
  valP Try.prog (Instr.fieldAt 28 s3 3) w fun t45 w =>
  valP Try.prog (Instr.loadAt 3 t45) w fun t46 w =>
  valP Try.prog (binS BinOp.gtr 3 (tm 44) (tm 46) t44 t46) w fun t47 w =>
  pickP t38 (Value.bool true) t47 fun t48 =>
  condP t48
  (pickP t48 (Value.bool true) undef fun t54 =>
  m15_16 R g2 s3 t54 w)
  (valP Try.prog (Instr.fieldAt 28 s3 4) w fun t50 w =>
  valP Try.prog (Instr.loadAt 26 t50) w fun t51 w =>
  builtinP Try.prog Builtin.len #[26] 3 #[false] #[t51] w fun t52 w =>
  valP Try.prog (binS BinOp.gtr 3 (tm 52) (ci 64) t52 (vi 64)) w fun t53 w =>
  pickP t48 (Value.bool true) t53 fun t54 =>
  m15_16 R g2 s3 t54 w))))))
  (pickP t13 undef (Value.bool false) fun t19 =>
  pickP t9 (Value.bool true) t19 fun t20 =>
  valP Try.prog (Instr.fieldAt 28 s3 1) w fun t22 w =>
  valP Try.prog (Instr.loadAt 3 t22) w fun t23 w =>
  callP Try.prog (fnV 28) #[t23] w fun t24 w =>
  valP Try.prog (Op.unary UnOp.not t24) w fun t25 w =>
  pickP t20 (Value.bool true) t25 fun t26 =>
  condP t26
  (pickP t26 (Value.bool true) undef fun t32 =>
  pickP t32 (Value.bool true) undef fun t38 =>
  pickP t38 (Value.bool true) undef fun t48 =>
  pickP t48 (Value.bool true) undef fun t54 =>
  m15_16 R g2 s3 t54 w)
  (valP Try.prog (Instr.fieldAt 28 s3 2) w fun t28 w =>
  valP Try.prog (Instr.loadAt 3 t28) w fun t29 w =>
  callP Try.prog (fnV 28) #[t29] w fun t30 w =>
  valP Try.prog (Op.unary UnOp.not t30) w fun t31 w =>
  pickP t26 (Value.bool true) t31 fun t32 =>
  condP t32
  (pickP t32 (Value.bool true) undef fun t38 =>
  pickP t38 (Value.bool true) undef fun t48 =>
  pickP t48 (Value.bool true) undef fun t54 =>
  m15_16 R g2 s3 t54 w)
  (valP Try.prog (Instr.fieldAt 28 s3 3) w fun t34 w =>
  valP Try.prog (Instr.loadAt 3 t34) w fun t35 w =>
  callP Try.prog (fnV 28) #[t35] w fun t36 w =>
  valP Try.prog (Op.unary UnOp.not t36) w fun t37 w =>
  pickP t32 (Value.bool true) t37 fun t38 =>
  condP t38
  (pickP t38 (Value.bool true) undef fun t48 =>
  pickP t48 (Value.bool true) undef fun t54 =>
  m15_16 R g2 s3 t54 w)
  (valP Try.prog (Instr.fieldAt 28 s3 1) w fun t40 w =>
  valP Try.prog (Instr.loadAt 3 t40) w fun t41 w =>
  valP Try.prog (Instr.fieldAt 28 s3 2) w fun t42 w =>
  valP Try.prog (Instr.loadAt 3 t42) w fun t43 w =>
  valP Try.prog (binS BinOp.add 3 (tm 41) (tm 43) t41 t43) w fun t44 w =>
  valP Try.prog (Instr.fieldAt 28 s3 3) w fun t45 w =>
  valP Try.prog (Instr.loadAt 3 t45) w fun t46 w =>
  valP Try.prog (binS BinOp.gtr 3 (tm 44) (tm 46) t44 t46) w fun t47 w =>
  pickP t38 (Value.bool true) t47 fun t48 =>
  condP t48
  (pickP t48 (Value.bool true) undef fun t54 =>
  m15_16 R g2 s3 t54 w)
  (valP Try.prog (Instr.fieldAt 28 s3 4) w fun t50 w =>
  valP Try.prog (Instr.loadAt 26 t50) w fun t51 w =>
  builtinP Try.prog Builtin.len #[26] 3 #[false] #[t51] w fun t52 w =>
  valP Try.prog (binS BinOp.gtr 3 (tm 52) (ci 64) t52 (vi 64)) w fun t53 w =>
  pickP t48 (Value.bool true) t53 fun t54 =>
  m15_16 R g2 s3 t54 w))))))
def m15_0 (R : VP) (g0 s1 : Value) (w : World) : Prop :=
  valP Try.prog (Instr.box 23 g0) w fun g2 w =>
  valP Try.prog (Instr.box 28 s1) w fun s3 w =>
  m15_1 R g2 s3 w
abbrev W15 := cwp Try.prog (fun i => cond (Nat.beq i 9) 12 (0))
noncomputable def k15_0 := bodyOf Try.f15
noncomputable def k15_1 := c2 k15_0
noncomputable def k15_2 := c2 k15_1
noncomputable def k15_3 := c2 k15_2
noncomputable def k15_4 := c2 k15_3
noncomputable def k15_5 := c2 (c1 k15_2)
noncomputable def k15_6 := c1 (c1 k15_5)
noncomputable def k15_7 := c2 k15_6
noncomputable def k15_8 := c2 k15_7
noncomputable def k15_9 := c2 (c1 (c1 k15_7))
noncomputable def k15_10 := c2 k15_9
noncomputable def k15_11 := c2 k15_10
noncomputable def k15_12 := c2 (c1 k15_11)
noncomputable def k15_13 := c2 (c1 k15_9)
noncomputable def k15_14 := c2 (c1 k15_13)
noncomputable def k15_15 := c2 (c1 k15_6)
noncomputable def k15_16 := c2 (c1 k15_1)
noncomputable def k15_17 := c2 (c1 k15_16)
abbrev hR15 (R : VP) (Q : EQ) : Prop := ∀ e w, (R (e 4) w) → Q .ret e w
theorem s15_17 (hR : hR15 R Q) (e : Env) (w : World) (h : m15_17 R (e 4) w) : W15 k15_17 Q e w := by
  exact reA (hR _ _ h)
theorem s15_14 {K1 : VP} (hR : hR15 R Q) (e : Env) (w : World) (h : m15_14 R K1 (e 4) w) : W15 k15_14 Q e w := by
  exact reA (hR _ _ h)
theorem s15_12 {K1 : VP} (hR : hR15 R Q) (e : Env) (w : World) (h : m15_12 R K1 (e 4) w) : W15 k15_12 Q e w := by
  exact reA (hR _ _ h)
theorem s15_8 {K1 : VP} (hN : ∀ e w, (K1 (e 5) w) → Q .normal e w) (e : Env) (w : World) (h : m15_8 R K1 (e 2) (e 3) (e 5) w) : W15 k15_8 Q e w := by
  exact rgA 5 (fun e w => K1 (e 5) w) h hN
theorem s15_11 {K1 : VP} (hN : ∀ e w, (m15_8 R K1 (e 2) (e 3) (e 5) w) → Q .normal e w) (hR : hR15 R Q) (e : Env) (w : World) (h : m15_11 R K1 (e 2) (e 3) (e 5) (e 123) w) : W15 k15_11 Q e w := by
  refine coA (Operand.tmp 123) h (fun h1 => ?_) (fun h1 => ?_)
  · refine seA ?_
    exact rgA 10 (fun e w => m15_12 R K1 (e 4) w) h1 fun e w h => then_N (s15_12 hR e w h)
  · exact skA (hN _ _ h1)
theorem s15_10 {K1 : VP} (hN : ∀ e w, (m15_8 R K1 (e 2) (e 3) (e 5) w) → Q .normal e w) (hR : hR15 R Q) (e : Env) (w : World) (h : m15_10 R K1 (e 2) (e 3) (e 5) (e 6) w) : W15 k15_10 Q e w := by
  refine seA ?_
  have hN : ∀ e w, (m15_11 R K1 (e 2) (e 3) (e 5) (e 123) w) → (thenE (W15 k15_11 Q) Q) .normal e w := fun e w h => then_N (s15_11 hN hR e w h)
  exact taA 9 10 (fun e w => m15_11 R K1 (e 2) (e 3) (e 5) (e 123) w) h hN
theorem s15_13 {K1 : VP} (hN : ∀ e w, (m15_10 R K1 (e 2) (e 3) (e 5) (e 6) w) → Q .normal e w) (hR : hR15 R Q) (e : Env) (w : World) (h : m15_13 R K1 (e 2) (e 3) (e 5) (e 6) (e 110) w) : W15 k15_13 Q e w := by
  refine coA (Operand.tmp 110) h (fun h1 => ?_) (fun h1 => ?_)
  · refine seA ?_
    exact rgA 8 (fun e w => m15_14 R K1 (e 4) w) h1 fun e w h => then_N (s15_14 hR e w h)
  · exact skA (hN _ _ h1)
theorem s15_9 {K1 : VP} (hN : ∀ e w, (m15_8 R K1 (e 2) (e 3) (e 5) w) → Q .normal e w) (hR : hR15 R Q) (e : Env) (w : World) (h : m15_9 R K1 (e 2) (e 3) (e 5) (e 6) w) : W15 k15_9 Q e w := by
  refine seA ?_
  have hN : ∀ e w, (m15_10 R K1 (e 2) (e 3) (e 5) (e 6) w) → (thenE (W15 k15_10 Q) Q) .normal e w := fun e w h => then_N (s15_10 hN hR e w h)
  have hR : hR15 R (thenE (W15 k15_10 Q) Q) := fun e w h => then_R (hR e w h)
  refine seA ?_
  have hN : ∀ e w, (m15_13 R K1 (e 2) (e 3) (e 5) (e 6) (e 110) w) → (thenE (W15 k15_13 (thenE (W15 k15_10 Q) Q)) (thenE (W15 k15_10 Q) Q)) .normal e w := fun e w h => then_N (s15_13 hN hR e w h)
  exact rgK 7 (fun e w => m15_13 R K1 (e 2) (e 3) (e 5) (e 6) (e 110) w) h hN
theorem s15_7 {K1 : VP} (hN : ∀ e w, (K1 (e 5) w) → Q .normal e w) (hR : hR15 R Q) (e : Env) (w : World) (h : m15_7 R K1 (e 2) (e 3) (e 5) w) : W15 k15_7 Q e w := by
  refine seA ?_
  have hN : ∀ e w, (m15_8 R K1 (e 2) (e 3) (e 5) w) → (thenE (W15 k15_8 Q) Q) .normal e w := fun e w h => then_N (s15_8 hN e w h)
  have hR : hR15 R (thenE (W15 k15_8 Q) Q) := fun e w h => then_R (hR e w h)
  refine block_ok 1 (by kernel_rfl) ?_
  have hN : ∀ e w, (m15_8 R K1 (e 2) (e 3) (e 5) w) → (inBlockE 1 (thenE (W15 k15_8 Q) Q)) .normal e w := fun e w h => block_N (hN e w h)
  have hR : hR15 R (inBlockE 1 (thenE (W15 k15_8 Q) Q)) := fun e w h => block_R (hR e w h)
  refine seA ?_
  exact rgA 6 (fun e w => m15_9 R K1 (e 2) (e 3) (e 5) (e 6) w) h fun e w h => then_N (s15_9 (R := R) (Q := (inBlockE 1 (thenE (W15 k15_8 Q) Q))) hN hR e w h)
theorem s15_4 (hR : hR15 R Q) (e : Env) (w : World) (h : m15_4 R (e 4) w) : W15 k15_4 Q e w := by
  exact reA (hR _ _ h)
theorem s15_3 (hR : hR15 R Q) (e : Env) (w : World) (h : m15_3 R w) : W15 k15_3 Q e w := by
  refine seA ?_
  exact rgA 11 (fun e w => m15_4 R (e 4) w) h fun e w h => then_N (s15_4 hR e w h)
theorem s15_15 {K1 : VP} (hN : ∀ e w, (m15_7 R K1 (e 2) (e 3) (e 5) w) → Q .normal e w) (hX0 : ∀ e w, (m15_3 R w) → Q (.exit 0) e w) (e : Env) (w : World) (h : m15_15 R K1 (e 2) (e 3) (e 5) (e 59) w) : W15 k15_15 Q e w := by
  refine coA (Operand.tmp 59) h (fun h1 => ?_) (fun h1 => ?_)
  · exact skA (hN _ _ h1)
  · exact exA 0 (hX0 _ _ h1)
theorem s15_6 {K1 : VP} (hN : ∀ e w, (K1 (e 5) w) → Q .normal e w) (hR : hR15 R Q) (hX0 : ∀ e w, (m15_3 R w) → Q (.exit 0) e w) (e : Env) (w : World) (h : m15_6 R K1 (e 2) (e 3) (e 5) w) : W15 k15_6 Q e w := by
  refine seA ?_
  have hN : ∀ e w, (m15_7 R K1 (e 2) (e 3) (e 5) w) → (thenE (W15 k15_7 Q) Q) .normal e w := fun e w h => then_N (s15_7 hN hR e w h)
  have hX0 : ∀ e w, (m15_3 R w) → (thenE (W15 k15_7 Q) Q) (.exit 0) e w := fun e w h => then_X (hX0 e w h)
  refine seA ?_
  exact rgA 4 (fun e w => m15_15 R K1 (e 2) (e 3) (e 5) (e 59) w) h fun e w h => then_N (s15_15 hN hX0 e w h)
theorem s15_5 (hN : ∀ e w, (m15_3 R w) → Q .normal e w) (hR : hR15 R Q) (e : Env) (w : World) (h : m15_5 R (e 2) (e 3) (e 5) w) : W15 k15_5 Q e w := by
  refine block_ok 0 (by kernel_rfl) ?_
  have hX0 : ∀ e w, (m15_3 R w) → (inBlockE 0 Q) (.exit 0) e w := fun e w h => inBlock_same (Q := Q) 0 (hN e w h)
  have hR : hR15 R (inBlockE 0 Q) := fun e w h => block_R (hR e w h)
  refine loop_ok' (fun (e : Env) => e 5) [2, 3] (by kernel_rfl) (by kernel_rfl) h (fun K e' w' hk h' => ?_)
  have r2 : e' 2 = e 2 := hk 2 (by decide)
  have r3 : e' 3 = e 3 := hk 3 (by decide)
  have hR : hR15 R (thenE (fun (e : Env) w => K (e 5) w) (inBlockE 0 Q)) := fun e w h => then_R (hR e w h)
  have hX0 : ∀ e w, (m15_3 R w) → (thenE (fun (e : Env) w => K (e 5) w) (inBlockE 0 Q)) (.exit 0) e w := fun e w h => then_X (hX0 e w h)
  exact s15_6 (K1 := K) (fun _ _ h => then_N h) hR hX0 e' w' (by rw [r2, r3]; exact h')
theorem s15_2 (hR : hR15 R Q) (e : Env) (w : World) (h : m15_2 R (e 2) (e 3) w) : W15 k15_2 Q e w := by
  refine seA ?_
  have hN : ∀ e w, (m15_3 R w) → (thenE (W15 k15_3 Q) Q) .normal e w := fun e w h => then_N (s15_3 hR e w h)
  have hR : hR15 R (thenE (W15 k15_3 Q) Q) := fun e w h => then_R (hR e w h)
  refine seA ?_
  exact rgA 3 (fun e w => m15_5 R (e 2) (e 3) (e 5) w) h fun e w h => then_N (s15_5 hN hR e w h)
theorem s15_16 (hN : ∀ e w, (m15_2 R (e 2) (e 3) w) → Q .normal e w) (hR : hR15 R Q) (e : Env) (w : World) (h : m15_16 R (e 2) (e 3) (e 54) w) : W15 k15_16 Q e w := by
  refine coA (Operand.tmp 54) h (fun h1 => ?_) (fun h1 => ?_)
  · refine seA ?_
    exact rgA 2 (fun e w => m15_17 R (e 4) w) h1 fun e w h => then_N (s15_17 hR e w h)
  · exact skA (hN _ _ h1)
theorem s15_1 (hR : hR15 R Q) (e : Env) (w : World) (h : m15_1 R (e 2) (e 3) w) : W15 k15_1 Q e w := by
  refine seA ?_
  have hN : ∀ e w, (m15_2 R (e 2) (e 3) w) → (thenE (W15 k15_2 Q) Q) .normal e w := fun e w h => then_N (s15_2 hR e w h)
  have hR : hR15 R (thenE (W15 k15_2 Q) Q) := fun e w h => then_R (hR e w h)
  refine seA ?_
  have hN : ∀ e w, (m15_16 R (e 2) (e 3) (e 54) w) → (thenE (W15 k15_16 (thenE (W15 k15_2 Q) Q)) (thenE (W15 k15_2 Q) Q)) .normal e w := fun e w h => then_N (s15_16 hN hR e w h)
  exact rgK 1 (fun e w => m15_16 R (e 2) (e 3) (e 54) w) h hN
theorem s15_0 (hR : hR15 R Q) (e : Env) (w : World) (h : m15_0 R (e 0) (e 1) w) : W15 k15_0 Q e w := by
  refine seA ?_
  exact rgA 0 (fun e w => m15_1 R (e 2) (e 3) w) h fun e w h => then_N (s15_1 hR e w h)
abbrev m15 (R : VP) (g0 s1 : Value) (w : World) : Prop := m15_0 R g0 s1 w
theorem s15 (g0 s1 : Value) {R : VP} {w : World} (h : m15 R g0 s1 w) :
    Calls Try.prog 15 #[g0, s1] w fun e w' => ∃ v, e = .returned v ∧ R v w' :=
  calls_of_cwp (st := (fun i => cond (Nat.beq i 9) 12 (0))) (c := k15_0) (by kernel_rfl) Try.func15 (by kernel_rfl) (Nat.le_of_ble_eq_true (by kernel_rfl)) (by kernel_rfl)
    (s15_0 (R := R) (Q := endE Try.prog Try.f15 R) (fun e w h => kcast (by kernel_rfl) h) (argsE #[g0, s1]) w (kcast (by kernel_rfl) h))
def m44_3 (R : VP) (t2 t3 : Value) (w : World) : Prop :=
  R (Value.tuple #[t2, t3]) w
def m44_2 (R : VP) (v4 rest5 e6 : Value) (w : World) : Prop :=
  valP Try.prog (binS BinOp.eql 3 (tm 15) (ci 0) e6 (vi 0)) w fun t16 w =>
  condP t16
  (valP Try.prog (binS BinOp.eql 9 (tm 18) (Operand.const (Value.string ⟨#[]⟩)) rest5 (Value.string ⟨#[]⟩)) w fun t19 w =>
  pickP t16 t19 (Value.bool false) fun t20 =>
  m44_3 R v4 t20 w)
  (pickP t16 undef (Value.bool false) fun t20 =>
  m44_3 R v4 t20 w)
def m44_1 (R : VP) (r1 : Value) (w : World) : Prop :=
  valP Try.prog (Instr.fieldAt 46 r1 2) w fun t8 w =>
  valP Try.prog (Instr.loadAt 9 t8) w fun t9 w =>
  callP Try.prog (fnV 55) #[t9] w fun t10 w =>
  valP Try.prog (Instr.extract t10 0) w fun t11 w =>
  valP Try.prog (Instr.extract t10 1) w fun t12 w =>
  valP Try.prog (Instr.extract t10 2) w fun t13 w =>
  m44_2 R t11 t12 t13 w
def m44_0 (R : VP) (r0 : Value) (w : World) : Prop :=
  valP Try.prog (Instr.box 46 r0) w fun r1 w =>
  m44_1 R r1 w
abbrev W44 := cwp Try.prog (fun i => 0)
noncomputable def k44_0 := bodyOf Try.f44
noncomputable def k44_1 := c2 k44_0
noncomputable def k44_2 := c2 k44_1
noncomputable def k44_3 := c2 k44_2
abbrev hR44 (R : VP) (Q : EQ) : Prop := ∀ e w, (R (Value.tuple #[(e 2), (e 3)]) w) → Q .ret e w
theorem s44_3 (hR : hR44 R Q) (e : Env) (w : World) (h : m44_3 R (e 2) (e 3) w) : W44 k44_3 Q e w := by
  exact reA (hR _ _ h)
theorem s44_2 (hR : hR44 R Q) (e : Env) (w : World) (h : m44_2 R (e 4) (e 5) (e 6) w) : W44 k44_2 Q e w := by
  refine seA ?_
  exact rgA 2 (fun e w => m44_3 R (e 2) (e 3) w) h fun e w h => then_N (s44_3 hR e w h)
theorem s44_1 (hR : hR44 R Q) (e : Env) (w : World) (h : m44_1 R (e 1) w) : W44 k44_1 Q e w := by
  refine seA ?_
  exact rgA 1 (fun e w => m44_2 R (e 4) (e 5) (e 6) w) h fun e w h => then_N (s44_2 hR e w h)
theorem s44_0 (hR : hR44 R Q) (e : Env) (w : World) (h : m44_0 R (e 0) w) : W44 k44_0 Q e w := by
  refine seA ?_
  exact rgA 0 (fun e w => m44_1 R (e 1) w) h fun e w h => then_N (s44_1 hR e w h)
abbrev m44 (R : VP) (r0 : Value) (w : World) : Prop := m44_0 R r0 w
theorem s44 (r0 : Value) {R : VP} {w : World} (h : m44 R r0 w) :
    Calls Try.prog 44 #[r0] w fun e w' => ∃ v, e = .returned v ∧ R v w' :=
  calls_of_cwp (st := (fun i => 0)) (c := k44_0) (by kernel_rfl) Try.func44 (by kernel_rfl) (Nat.le_of_ble_eq_true (by kernel_rfl)) (by kernel_rfl)
    (s44_0 (R := R) (Q := endE Try.prog Try.f44 R) (fun e w h => kcast (by kernel_rfl) h) (argsE #[r0]) w (kcast (by kernel_rfl) h))
def m46_15 (R : VP) (K1 : (Value × Value) → World → Prop) (l0 v3 x9 out10 i11 : Value) (w : World) : Prop :=
  valP Try.prog (binS BinOp.add 3 (tm 34) (ci 1) i11 (vi 1)) w fun t35 w =>
  K1 (out10, t35) w
def m46_14 (R : VP) (K1 : (Value × Value) → World → Prop) (l0 v3 x9 out10 i11 : Value) (w : World) : Prop :=
  valP Try.prog (Instr.indexAt 26 l0 i11) w fun t30 w =>
  valP Try.prog (Instr.loadAt 67 t30) w fun t31 w =>
  valP Try.prog (Instr.buildSlice 26 1 #[(0, t31)]) w fun t32 w =>
  builtinP Try.prog Builtin.append #[26, 26] 26 #[false, false] #[out10, t32] w fun t33 w =>
  m46_15 R K1 l0 v3 x9 t33 i11 w
def m46_10 (R : VP) (t8 : Value) (w : World) : Prop :=
  R t8 w
def m46_9 (R : VP) (out10 : Value) (w : World) : Prop :=
  m46_10 R out10 w
def m46_8 (R : VP) (l0 out10 i11 : Value) (w : World) : Prop :=
  valP Try.prog (Instr.sliceAt 26 l0 (some i11) none none) w fun t67 w =>
  builtinP Try.prog Builtin.append #[26, 26] 26 #[false, false] #[out10, t67] w fun t68 w =>
  m46_9 R t68 w
def m46_7 (R : VP) (l0 x9 out10 i11 : Value) (w : World) : Prop :=
  valP Try.prog (Instr.loadAt 67 x9) w fun t61 w =>
  valP Try.prog (Instr.buildSlice 26 1 #[(0, t61)]) w fun t62 w =>
  builtinP Try.prog Builtin.append #[26, 26] 26 #[false, false] #[out10, t62] w fun t63 w =>
  m46_8 R l0 t63 i11 w
def m46_6 (R : VP) (l0 v3 x9 out10 i11 : Value) (w : World) : Prop :=
  valP Try.prog (Instr.fieldAt 67 x9 2) w fun t55 w =>
  valP Try.prog (Instr.loadAt 65 t55) w fun t56 w =>
  callP Try.prog (fnV 56) #[t56, v3] w fun t58 w =>
  valP Try.prog (Instr.fieldAt 67 x9 2) w fun t59 w =>
  unitP Try.prog (Instr.storeAt 65 t59 t58) w fun _ w =>
  m46_7 R l0 x9 out10 i11 w
def m46_12 (R : VP) (l0 v3 x9 out10 i11 : Value) (w : World) : Prop :=
  valP Try.prog (binS BinOp.add 3 (tm 53) (ci 1) i11 (vi 1)) w fun t54 w =>
  m46_6 R l0 v3 x9 out10 t54 w
def m46_11 (R : VP) (l0 v3 x9 out10 i11 t48 : Value) (w : World) : Prop :=
  condP t48
  (valP Try.prog (Instr.indexAt 26 l0 i11) w fun t51 w =>
  valP Try.prog (Instr.loadAt 67 t51) w fun t52 w =>
  unitP Try.prog (Instr.storeAt 67 x9 t52) w fun _ w =>
  m46_12 R l0 v3 x9 out10 i11 w)
  (m46_6 R l0 v3 x9 out10 i11 w)
def m46_5 (R : VP) (l0 v3 x9 out10 i11 : Value) (w : World) : Prop :=
  anyDraw w fun w =>
  builtinS Try.prog Builtin.len #[26] 3 #[false] #[l0] w fun t38 =>
  valS Try.prog (binS BinOp.lss 3 (tm 36) (tm 38) i11 t38) w fun t39 =>
  condP t39
  (valS Try.prog (Instr.loadAt 67 x9) w fun t41 =>
  valS Try.prog (Instr.indexAt 26 l0 i11) w fun t44 =>
  valS Try.prog (Instr.loadAt 67 t44) w fun t45 =>
  callP Try.prog (fnV 25) #[t41, t45] w fun t46 w =>
  valP Try.prog (Op.unary UnOp.not t46) w fun t47 w =>
  pickP t39 t47 (Value.bool false) fun t48 =>
  m46_11 R l0 v3 x9 out10 i11 t48 w)
  (pickP t39 undef (Value.bool false) fun t48 =>
  m46_11 R l0 v3 x9 out10 i11 t48 w)
def m46_16 (R : VP) (K1 : (Value × Value) → World → Prop) (l0 v3 x9 out10 i11 t26 : Value) (w : World) : Prop :=
  condP t26
  (m46_14 R K1 l0 v3 x9 out10 i11 w)
  (m46_5 R l0 v3 x9 out10 i11 w)
def m46_13 (R : VP) (K1 : (Value × Value) → World → Prop) (l0 v3 x9 out10 i11 : Value) (w : World) : Prop :=
  anyDraw w fun w =>
  builtinS Try.prog Builtin.len #[26] 3 #[false] #[l0] w fun t17 =>
  valS Try.prog (binS BinOp.lss 3 (tm 15) (tm 17) i11 t17) w fun t18 =>
  condP t18
  (valS Try.prog (Instr.indexAt 26 l0 i11) w fun t22 =>
  valS Try.prog (Instr.loadAt 67 t22) w fun t23 =>
  valS Try.prog (Instr.loadAt 67 x9) w fun t24 =>
  callP Try.prog (fnV 25) #[t23, t24] w fun t25 w =>
  pickP t18 t25 (Value.bool false) fun t26 =>
  m46_16 R K1 l0 v3 x9 out10 i11 t26 w)
  (pickP t18 undef (Value.bool false) fun t26 =>
  m46_16 R K1 l0 v3 x9 out10 i11 t26 w)
def m46_4 (R : VP) (l0 v3 x9 out10 i11 : Value) (w : World) : Prop :=
  loopP (fun (K1 : (Value × Value) → World → Prop) (s : Value × Value) w => m46_13 R K1 l0 v3 x9 s.1 s.2 w) (out10, i11) w
def m46_3 (R : VP) (l0 v3 x9 out10 : Value) (w : World) : Prop :=
  m46_4 R l0 v3 x9 out10 (vi 0) w
def m46_2 (R : VP) (l0 v3 x9 : Value) (w : World) : Prop :=
  m46_3 R l0 v3 x9 (Value.slice none 0 0) w
def m46_1 (R : VP) (l0 key1 start2 v3 : Value) (w : World) : Prop :=
  valP Try.prog (Instr.build 67 #[(0, key1), (1, start2)]) w fun t14 w =>
  valP Try.prog (Instr.alloc 67 true (.tuple #[])) w fun x9 w =>
  unitP Try.prog (Instr.storeAt 67 x9 t14) w fun _ w =>
  m46_2 R l0 v3 x9 w
def m46_0 (R : VP) (l0 key1 start2 v3 : Value) (w : World) : Prop :=
  m46_1 R l0 key1 start2 v3 w
abbrev W46 := cwp Try.prog (fun i => cond (Nat.beq i 7) 12 (cond (Nat.beq i 4) 12 (0)))
noncomputable def k46_0 := bodyOf Try.f46
noncomputable def k46_1 := c2 k46_0
noncomputable def k46_2 := c2 k46_1
noncomputable def k46_3 := c2 k46_2
noncomputable def k46_4 := c2 k46_3
noncomputable def k46_5 := c2 k46_4
noncomputable def k46_6 := c2 k46_5
noncomputable def k46_7 := c2 k46_6
noncomputable def k46_8 := c2 k46_7
noncomputable def k46_9 := c2 k46_8
noncomputable def k46_10 := c2 k46_9
noncomputable def k46_11 := c2 (c1 k46_5)
noncomputable def k46_12 := c2 (c1 k46_11)
noncomputable def k46_13 := c1 (c1 (c1 k46_4))
noncomputable def k46_14 := c2 k46_13
noncomputable def k46_15 := c2 (c1 k46_14)
noncomputable def k46_16 := c2 (c1 k46_13)
theorem s46_15 {K1 : (Value × Value) → World → Prop} (hN : ∀ e w, (K1 ((e 10), (e 11)) w) → Q .normal e w) (e : Env) (w : World) (h : m46_15 R K1 (e 0) (e 3) (e 9) (e 10) (e 11) w) : W46 k46_15 Q e w := by
  exact rgA 6 (fun e w => K1 ((e 10), (e 11)) w) h hN
theorem s46_14 {K1 : (Value × Value) → World → Prop} (hN : ∀ e w, (K1 ((e 10), (e 11)) w) → Q .normal e w) (e : Env) (w : World) (h : m46_14 R K1 (e 0) (e 3) (e 9) (e 10) (e 11) w) : W46 k46_14 Q e w := by
  refine block_ok 1 (by kernel_rfl) ?_
  have hN : ∀ e w, (K1 ((e 10), (e 11)) w) → (inBlockE 1 Q) .normal e w := fun e w h => block_N (hN e w h)
  refine seA ?_
  exact rgA 5 (fun e w => m46_15 R K1 (e 0) (e 3) (e 9) (e 10) (e 11) w) h fun e w h => then_N (s46_15 (R := R) (Q := (inBlockE 1 Q)) hN e w h)
abbrev hR46 (R : VP) (Q : EQ) : Prop := ∀ e w, (R (e 8) w) → Q .ret e w
theorem s46_10 (hR : hR46 R Q) (e : Env) (w : World) (h : m46_10 R (e 8) w) : W46 k46_10 Q e w := by
  exact reA (hR _ _ h)
theorem s46_9 (hR : hR46 R Q) (e : Env) (w : World) (h : m46_9 R (e 10) w) : W46 k46_9 Q e w := by
  refine seA ?_
  exact rgA 13 (fun e w => m46_10 R (e 8) w) h fun e w h => then_N (s46_10 hR e w h)
theorem s46_8 (hR : hR46 R Q) (e : Env) (w : World) (h : m46_8 R (e 0) (e 10) (e 11) w) : W46 k46_8 Q e w := by
  refine seA ?_
  exact rgA 12 (fun e w => m46_9 R (e 10) w) h fun e w h => then_N (s46_9 hR e w h)
theorem s46_7 (hR : hR46 R Q) (e : Env) (w : World) (h : m46_7 R (e 0) (e 9) (e 10) (e 11) w) : W46 k46_7 Q e w := by
  refine seA ?_
  exact rgA 11 (fun e w => m46_8 R (e 0) (e 10) (e 11) w) h fun e w h => then_N (s46_8 hR e w h)
theorem s46_6 (hR : hR46 R Q) (e : Env) (w : World) (h : m46_6 R (e 0) (e 3) (e 9) (e 10) (e 11) w) : W46 k46_6 Q e w := by
  refine seA ?_
  exact rgA 10 (fun e w => m46_7 R (e 0) (e 9) (e 10) (e 11) w) h fun e w h => then_N (s46_7 hR e w h)
theorem s46_12 (hN : ∀ e w, (m46_6 R (e 0) (e 3) (e 9) (e 10) (e 11) w) → Q .normal e w) (e : Env) (w : World) (h : m46_12 R (e 0) (e 3) (e 9) (e 10) (e 11) w) : W46 k46_12 Q e w := by
  exact rgA 9 (fun e w => m46_6 R (e 0) (e 3) (e 9) (e 10) (e 11) w) h hN
theorem s46_11 (hN : ∀ e w, (m46_6 R (e 0) (e 3) (e 9) (e 10) (e 11) w) → Q .normal e w) (e : Env) (w : World) (h : m46_11 R (e 0) (e 3) (e 9) (e 10) (e 11) (e 48) w) : W46 k46_11 Q e w := by
  refine coA (Operand.tmp 48) h (fun h1 => ?_) (fun h1 => ?_)
  · refine seA ?_
    exact rgA 8 (fun e w => m46_12 R (e 0) (e 3) (e 9) (e 10) (e 11) w) h1 fun e w h => then_N (s46_12 hN e w h)
  · exact skA (hN _ _ h1)
theorem s46_5 (hR : hR46 R Q) (e : Env) (w : World) (h : m46_5 R (e 0) (e 3) (e 9) (e 10) (e 11) w) : W46 k46_5 Q e w := by
  refine seA ?_
  have hN : ∀ e w, (m46_6 R (e 0) (e 3) (e 9) (e 10) (e 11) w) → (thenE (W46 k46_6 Q) Q) .normal e w := fun e w h => then_N (s46_6 hR e w h)
  refine seA ?_
  have hN : ∀ e w, (m46_11 R (e 0) (e 3) (e 9) (e 10) (e 11) (e 48) w) → (thenE (W46 k46_11 (thenE (W46 k46_6 Q) Q)) (thenE (W46 k46_6 Q) Q)) .normal e w := fun e w h => then_N (s46_11 hN e w h)
  exact taA 7 10 (fun e w => m46_11 R (e 0) (e 3) (e 9) (e 10) (e 11) (e 48) w) h hN
theorem s46_16 {K1 : (Value × Value) → World → Prop} (hN : ∀ e w, (m46_14 R K1 (e 0) (e 3) (e 9) (e 10) (e 11) w) → Q .normal e w) (hX0 : ∀ e w, (m46_5 R (e 0) (e 3) (e 9) (e 10) (e 11) w) → Q (.exit 0) e w) (e : Env) (w : World) (h : m46_16 R K1 (e 0) (e 3) (e 9) (e 10) (e 11) (e 26) w) : W46 k46_16 Q e w := by
  refine coA (Operand.tmp 26) h (fun h1 => ?_) (fun h1 => ?_)
  · exact skA (hN _ _ h1)
  · exact exA 0 (hX0 _ _ h1)
theorem s46_13 {K1 : (Value × Value) → World → Prop} (hN : ∀ e w, (K1 ((e 10), (e 11)) w) → Q .normal e w) (hX0 : ∀ e w, (m46_5 R (e 0) (e 3) (e 9) (e 10) (e 11) w) → Q (.exit 0) e w) (e : Env) (w : World) (h : m46_13 R K1 (e 0) (e 3) (e 9) (e 10) (e 11) w) : W46 k46_13 Q e w := by
  refine seA ?_
  have hN : ∀ e w, (m46_14 R K1 (e 0) (e 3) (e 9) (e 10) (e 11) w) → (thenE (W46 k46_14 Q) Q) .normal e w := fun e w h => then_N (s46_14 hN e w h)
  have hX0 : ∀ e w, (m46_5 R (e 0) (e 3) (e 9) (e 10) (e 11) w) → (thenE (W46 k46_14 Q) Q) (.exit 0) e w := fun e w h => then_X (hX0 e w h)
  refine seA ?_
  have hN : ∀ e w, (m46_16 R K1 (e 0) (e 3) (e 9) (e 10) (e 11) (e 26) w) → (thenE (W46 k46_16 (thenE (W46 k46_14 Q) Q)) (thenE (W46 k46_14 Q) Q)) .normal e w := fun e w h => then_N (s46_16 hN hX0 e w h)
  exact taA 4 10 (fun e w => m46_16 R K1 (e 0) (e 3) (e 9) (e 10) (e 11) (e 26) w) h hN
theorem s46_4 (hR : hR46 R Q) (e : Env) (w : World) (h : m46_4 R (e 0) (e 3) (e 9) (e 10) (e 11) w) : W46 k46_4 Q e w := by
  refine seA ?_
  have hN : ∀ e w, (m46_5 R (e 0) (e 3) (e 9) (e 10) (e 11) w) → (thenE (W46 k46_5 Q) Q) .normal e w := fun e w h => then_N (s46_5 hR e w h)
  refine block_ok 0 (by kernel_rfl) ?_
  have hX0 : ∀ e w, (m46_5 R (e 0) (e 3) (e 9) (e 10) (e 11) w) → (inBlockE 0 (thenE (W46 k46_5 Q) Q)) (.exit 0) e w := fun e w h => inBlock_same (Q := (thenE (W46 k46_5 Q) Q)) 0 (hN e w h)
  refine loop_ok' (fun (e : Env) => (e 10, e 11)) [0, 3, 9] (by kernel_rfl) (by kernel_rfl) h (fun K e' w' hk h' => ?_)
  have r0 : e' 0 = e 0 := hk 0 (by decide)
  have r3 : e' 3 = e 3 := hk 3 (by decide)
  have r9 : e' 9 = e 9 := hk 9 (by decide)
  have hX0 : ∀ e w, (m46_5 R (e 0) (e 3) (e 9) (e 10) (e 11) w) → (thenE (fun (e : Env) w => K ((e 10), (e 11)) w) (inBlockE 0 (thenE (W46 k46_5 Q) Q))) (.exit 0) e w := fun e w h => then_X (hX0 e w h)
  exact s46_13 (K1 := K) (fun _ _ h => then_N h) hX0 e' w' (by rw [r0, r3, r9]; exact h')
theorem s46_3 (hR : hR46 R Q) (e : Env) (w : World) (h : m46_3 R (e 0) (e 3) (e 9) (e 10) w) : W46 k46_3 Q e w := by
  refine seA ?_
  exact rgA 3 (fun e w => m46_4 R (e 0) (e 3) (e 9) (e 10) (e 11) w) h fun e w h => then_N (s46_4 hR e w h)
theorem s46_2 (hR : hR46 R Q) (e : Env) (w : World) (h : m46_2 R (e 0) (e 3) (e 9) w) : W46 k46_2 Q e w := by
  refine seA ?_
  exact rgA 2 (fun e w => m46_3 R (e 0) (e 3) (e 9) (e 10) w) h fun e w h => then_N (s46_3 hR e w h)
theorem s46_1 (hR : hR46 R Q) (e : Env) (w : World) (h : m46_1 R (e 0) (e 1) (e 2) (e 3) w) : W46 k46_1 Q e w := by
  refine seA ?_
  exact rgA 1 (fun e w => m46_2 R (e 0) (e 3) (e 9) w) h fun e w h => then_N (s46_2 hR e w h)
theorem s46_0 (hR : hR46 R Q) (e : Env) (w : World) (h : m46_0 R (e 0) (e 1) (e 2) (e 3) w) : W46 k46_0 Q e w := by
  refine seA ?_
  exact rgA 0 (fun e w => m46_1 R (e 0) (e 1) (e 2) (e 3) w) h fun e w h => then_N (s46_1 hR e w h)
abbrev m46 (R : VP) (l0 key1 start2 v3 : Value) (w : World) : Prop := m46_0 R l0 key1 start2 v3 w
theorem s46 (l0 key1 start2 v3 : Value) {R : VP} {w : World} (h : m46 R l0 key1 start2 v3 w) :
    Calls Try.prog 46 #[l0, key1, start2, v3] w fun e w' => ∃ v, e = .returned v ∧ R v w' :=
  calls_of_cwp (st := (fun i => cond (Nat.beq i 7) 12 (cond (Nat.beq i 4) 12 (0)))) (c := k46_0) (by kernel_rfl) Try.func46 (by kernel_rfl) (Nat.le_of_ble_eq_true (by kernel_rfl)) (by kernel_rfl)
    (s46_0 (R := R) (Q := endE Try.prog Try.f46 R) (fun e w h => kcast (by kernel_rfl) h) (argsE #[l0, key1, start2, v3]) w (kcast (by kernel_rfl) h))
def m24_39 (R : VP) (t6 t7 t8 : Value) (w : World) : Prop :=
  valS Try.prog (loadC 28 t6) w fun r0 =>
  R (Value.tuple #[r0, t7, t8]) w
def m24_37 (R : VP) (t6 t7 t8 : Value) (w : World) : Prop :=
  valS Try.prog (loadC 28 t6) w fun r0 =>
  R (Value.tuple #[r0, t7, t8]) w
def m24_35 (R : VP) (t6 t7 t8 : Value) (w : World) : Prop :=
  valS Try.prog (loadC 28 t6) w fun r0 =>
  R (Value.tuple #[r0, t7, t8]) w
def m24_34 (R : VP) (s4 t6 : Value) (w : World) : Prop :=
  valP Try.prog (Instr.loadAt 28 s4) w fun t60 w =>
  unitP Try.prog (Instr.storeAt 28 t6 t60) w fun _ w =>
  m24_35 R t6 (Value.slice none 0 0) (vi 0) w
def m24_29 (R : VP) (K1 : (Value × Value × Value) → World → Prop) (g3 s4 r5 t6 v9 starts11 l13 n14 i15 : Value) (w : World) : Prop :=
  valP Try.prog (binS BinOp.add 3 (tm 74) (ci 1) i15 (vi 1)) w fun t75 w =>
  K1 (l13, n14, t75) w
def m24_31 (R : VP) (K1 : (Value × Value × Value) → World → Prop) (g3 s4 r5 t6 v9 starts11 l13 n14 i15 : Value) (w : World) : Prop :=
  valP Try.prog (binS BinOp.add 3 (tm 94) (ci 1) n14 (vi 1)) w fun t95 w =>
  m24_29 R K1 g3 s4 r5 t6 v9 starts11 l13 t95 i15 w
def m24_30 (R : VP) (K1 : (Value × Value × Value) → World → Prop) (g3 s4 r5 t6 v9 starts11 l13 n14 i15 t84 : Value) (w : World) : Prop :=
  condP t84
  (anyDraw w fun w =>
  valS Try.prog (Instr.fieldAt 46 r5 0) w fun t86 =>
  valS Try.prog (Instr.loadAt 3 t86) w fun t87 =>
  valS Try.prog (Instr.indexAt 51 starts11 i15) w fun t90 =>
  valS Try.prog (Instr.loadAt 3 t90) w fun t91 =>
  callP Try.prog (fnV 46) #[l13, t87, t91, v9] w fun t93 w =>
  m24_31 R K1 g3 s4 r5 t6 v9 starts11 t93 n14 i15 w)
  (m24_29 R K1 g3 s4 r5 t6 v9 starts11 l13 n14 i15 w)
def m24_28 (R : VP) (K1 : (Value × Value × Value) → World → Prop) (g3 s4 r5 t6 v9 starts11 l13 n14 i15 : Value) (w : World) : Prop :=
  anyDraw w fun w =>
  valS Try.prog (Instr.loadAt 23 g3) w fun t76 =>
  valS Try.prog (Instr.indexAt 51 starts11 i15) w fun t79 =>
  valS Try.prog (Instr.loadAt 3 t79) w fun t80 =>
  valS Try.prog (Instr.fieldAt 28 s4 0) w fun t81 =>
  valS Try.prog (Instr.loadAt 3 t81) w fun t82 =>
  callP Try.prog (fnV 29) #[t76, t80, t82] w fun t83 w =>
  valP Try.prog (Op.unary UnOp.not t83) w fun t84 w =>
  m24_30 R K1 g3 s4 r5 t6 v9 starts11 l13 n14 i15 t84 w
def m24_20 (R : VP) (K1 : (Value × Value × Value) → World → Prop) (g3 s4 t6 l13 open16 over17 i18 : Value) (w : World) : Prop :=
  valP Try.prog (binS BinOp.add 3 (tm 121) (ci 1) i18 (vi 1)) w fun t122 w =>
  K1 (open16, over17, t122) w
def m24_21 (R : VP) (K1 : (Value × Value × Value) → World → Prop) (g3 s4 t6 l13 open16 over17 i18 t131 : Value) (w : World) : Prop :=
  condP t131
  (valP Try.prog (Instr.indexAt 26 l13 i18) w fun t135 w =>
  valP Try.prog (Instr.loadAt 67 t135) w fun t136 w =>
  valP Try.prog (Instr.buildSlice 26 1 #[(0, t136)]) w fun t137 w =>
  builtinP Try.prog Builtin.append #[26, 26] 26 #[false, false] #[over17, t137] w fun t138 w =>
  m24_20 R K1 g3 s4 t6 l13 open16 t138 i18 w)
  (valP Try.prog (Instr.indexAt 26 l13 i18) w fun t142 w =>
  valP Try.prog (Instr.loadAt 67 t142) w fun t143 w =>
  valP Try.prog (Instr.buildSlice 26 1 #[(0, t143)]) w fun t144 w =>
  builtinP Try.prog Builtin.append #[26, 26] 26 #[false, false] #[open16, t144] w fun t145 w =>
  m24_20 R K1 g3 s4 t6 l13 t145 over17 i18 w)
def m24_19 (R : VP) (K1 : (Value × Value × Value) → World → Prop) (g3 s4 t6 l13 open16 over17 i18 : Value) (w : World) : Prop :=
  anyDraw w fun w =>
  valS Try.prog (Instr.loadAt 23 g3) w fun t123 =>
  valS Try.prog (Instr.indexAt 26 l13 i18) w fun t126 =>
  valS Try.prog (Instr.fieldAt 67 t126 1) w fun t127 =>
  valS Try.prog (Instr.loadAt 3 t127) w fun t128 =>
  valS Try.prog (Instr.fieldAt 28 s4 0) w fun t129 =>
  valS Try.prog (Instr.loadAt 3 t129) w fun t130 =>
  callP Try.prog (fnV 29) #[t123, t128, t130] w fun t131 w =>
  m24_21 R K1 g3 s4 t6 l13 open16 over17 i18 t131 w
def m24_16 (R : VP) (t6 t7 t8 : Value) (w : World) : Prop :=
  valS Try.prog (loadC 28 t6) w fun r0 =>
  R (Value.tuple #[r0, t7, t8]) w
def m24_15 (R : VP) (s4 t6 over17 : Value) (w : World) : Prop :=
  valP Try.prog (Instr.loadAt 28 s4) w fun t148 w =>
  unitP Try.prog (Instr.storeAt 28 t6 t148) w fun _ w =>
  m24_16 R t6 over17 (vi 0) w
def m24_14 (R : VP) (s4 t6 open16 over17 : Value) (w : World) : Prop :=
  valP Try.prog (Instr.fieldAt 28 s4 4) w fun t147 w =>
  unitP Try.prog (Instr.storeAt 26 t147 open16) w fun _ w =>
  m24_15 R s4 t6 over17 w
def m24_22 (R : VP) (K1 : (Value × Value × Value) → World → Prop) (g3 s4 t6 l13 open16 over17 i18 t120 : Value) (w : World) : Prop :=
  condP t120
  (m24_19 R K1 g3 s4 t6 l13 open16 over17 i18 w)
  (m24_14 R s4 t6 open16 over17 w)
def m24_18 (R : VP) (K1 : (Value × Value × Value) → World → Prop) (g3 s4 t6 l13 open16 over17 i18 : Value) (w : World) : Prop :=
  builtinP Try.prog Builtin.len #[26] 3 #[false] #[l13] w fun t119 w =>
  valP Try.prog (binS BinOp.lss 3 (tm 117) (tm 119) i18 t119) w fun t120 w =>
  m24_22 R K1 g3 s4 t6 l13 open16 over17 i18 t120 w
def m24_17 (R : VP) (g3 s4 t6 l13 open16 over17 i18 : Value) (w : World) : Prop :=
  loopP (fun (K1 : (Value × Value × Value) → World → Prop) (s : Value × Value × Value) w => m24_18 R K1 g3 s4 t6 l13 s.1 s.2.1 s.2.2 w) (open16, over17, i18) w
def m24_13 (R : VP) (g3 s4 t6 l13 open16 over17 : Value) (w : World) : Prop :=
  m24_17 R g3 s4 t6 l13 open16 over17 (vi 0) w
def m24_12 (R : VP) (g3 s4 t6 l13 : Value) (w : World) : Prop :=
  m24_13 R g3 s4 t6 l13 (Value.slice none 0 0) (Value.slice none 0 0) w
def m24_23 (R : VP) (g3 s4 r5 t6 l13 t113 : Value) (w : World) : Prop :=
  condP t113
  (valP Try.prog (Instr.fieldAt 46 r5 1) w fun t114 w =>
  valP Try.prog (Instr.loadAt 3 t114) w fun t115 w =>
  valP Try.prog (Instr.fieldAt 28 s4 0) w fun t116 w =>
  unitP Try.prog (Instr.storeAt 3 t116 t115) w fun _ w =>
  m24_12 R g3 s4 t6 l13 w)
  (m24_12 R g3 s4 t6 l13 w)
def m24_11 (R : VP) (g3 s4 r5 t6 l13 : Value) (w : World) : Prop :=
  valP Try.prog (Instr.fieldAt 46 r5 1) w fun t109 w =>
  valP Try.prog (Instr.loadAt 3 t109) w fun t110 w =>
  valP Try.prog (Instr.fieldAt 28 s4 0) w fun t111 w =>
  valP Try.prog (Instr.loadAt 3 t111) w fun t112 w =>
  valP Try.prog (binS BinOp.gtr 3 (tm 110) (tm 112) t110 t112) w fun t113 w =>
  m24_23 R g3 s4 r5 t6 l13 t113 w
def m24_25 (R : VP) (g3 s4 r5 t6 : Value) (w : World) : Prop :=
  valP Try.prog (Instr.fieldAt 28 s4 4) w fun t107 w =>
  valP Try.prog (Instr.loadAt 26 t107) w fun t108 w =>
  m24_11 R g3 s4 r5 t6 t108 w
def m24_24 (R : VP) (g3 s4 r5 t6 l13 t102 : Value) (w : World) : Prop :=
  condP t102
  (valP Try.prog (Instr.fieldAt 28 s4 1) w fun t103 w =>
  valP Try.prog (Instr.loadAt 3 t103) w fun t104 w =>
  valP Try.prog (binS BinOp.add 3 (tm 104) (ci 1) t104 (vi 1)) w fun t105 w =>
  valP Try.prog (Instr.fieldAt 28 s4 1) w fun t106 w =>
  unitP Try.prog (Instr.storeAt 3 t106 t105) w fun _ w =>
  m24_25 R g3 s4 r5 t6 w)
  (m24_11 R g3 s4 r5 t6 l13 w)
def m24_10 (R : VP) (g3 s4 r5 t6 l13 n14 : Value) (w : World) : Prop :=
  valP Try.prog (binS BinOp.eql 3 (tm 96) (ci 0) n14 (vi 0)) w fun t97 w =>
  condP t97
  (pickP t97 (Value.bool true) undef fun t102 =>
  m24_24 R g3 s4 r5 t6 l13 t102 w)
  (builtinP Try.prog Builtin.len #[26] 3 #[false] #[l13] w fun t100 w =>
  valP Try.prog (binS BinOp.gtr 3 (tm 100) (ci 64) t100 (vi 64)) w fun t101 w =>
  pickP t97 (Value.bool true) t101 fun t102 =>
  m24_24 R g3 s4 r5 t6 l13 t102 w)
def m24_32 (R : VP) (K1 : (Value × Value × Value) → World → Prop) (g3 s4 r5 t6 v9 starts11 l13 n14 i15 t73 : Value) (w : World) : Prop :=
  condP t73
  (m24_28 R K1 g3 s4 r5 t6 v9 starts11 l13 n14 i15 w)
  (m24_10 R g3 s4 r5 t6 l13 n14 w)
def m24_27 (R : VP) (K1 : (Value × Value × Value) → World → Prop) (g3 s4 r5 t6 v9 starts11 l13 n14 i15 : Value) (w : World) : Prop :=
  builtinP Try.prog Builtin.len #[51] 3 #[false] #[starts11] w fun t72 w =>
  valP Try.prog (binS BinOp.lss 3 (tm 70) (tm 72) i15 t72) w fun t73 w =>
  m24_32 R K1 g3 s4 r5 t6 v9 starts11 l13 n14 i15 t73 w
def m24_26 (R : VP) (g3 s4 r5 t6 v9 starts11 l13 n14 i15 : Value) (w : World) : Prop :=
  loopP (fun (K1 : (Value × Value × Value) → World → Prop) (s : Value × Value × Value) w => m24_27 R K1 g3 s4 r5 t6 v9 starts11 s.1 s.2.1 s.2.2 w) (l13, n14, i15) w
def m24_9 (R : VP) (g3 s4 r5 t6 v9 starts11 l13 n14 : Value) (w : World) : Prop :=
  m24_26 R g3 s4 r5 t6 v9 starts11 l13 n14 (vi 0) w
def m24_8 (R : VP) (g3 s4 r5 t6 v9 starts11 l13 : Value) (w : World) : Prop :=
  m24_9 R g3 s4 r5 t6 v9 starts11 l13 (vi 0) w
def m24_7 (R : VP) (g3 s4 r5 t6 v9 starts11 : Value) (w : World) : Prop :=
  valP Try.prog (Instr.fieldAt 28 s4 4) w fun t68 w =>
  valP Try.prog (Instr.loadAt 26 t68) w fun t69 w =>
  m24_8 R g3 s4 r5 t6 v9 starts11 t69 w
def m24_6 (R : VP) (g3 s4 r5 t6 v9 : Value) (w : World) : Prop :=
  valP Try.prog (Instr.loadAt 23 g3) w fun t62 w =>
  valP Try.prog (Instr.fieldAt 46 r5 1) w fun t63 w =>
  valP Try.prog (Instr.loadAt 3 t63) w fun t64 w =>
  callP Try.prog (fnV 45) #[t62, t64] w fun t65 w =>
  valP Try.prog (Instr.extract t65 0) w fun t66 w =>
  valP Try.prog (Instr.extract t65 1) w fun t67 w =>
  m24_7 R g3 s4 r5 t6 v9 t66 w
def m24_33 (R : VP) (g3 s4 r5 t6 v9 t55 : Value) (w : World) : Prop :=
  condP t55
  (valP Try.prog (Instr.fieldAt 28 s4 2) w fun t56 w =>
  valP Try.prog (Instr.loadAt 3 t56) w fun t57 w =>
  valP Try.prog (binS BinOp.add 3 (tm 57) (ci 1) t57 (vi 1)) w fun t58 w =>
  valP Try.prog (Instr.fieldAt 28 s4 2) w fun t59 w =>
  unitP Try.prog (Instr.storeAt 3 t59 t58) w fun _ w =>
  m24_34 R s4 t6 w)
  (m24_6 R g3 s4 r5 t6 v9 w)
def m24_5 (R : VP) (g3 s4 r5 t6 v9 ok10 : Value) (w : World) : Prop :=
  valP Try.prog (Op.unary UnOp.not ok10) w fun t55 w =>
  m24_33 R g3 s4 r5 t6 v9 t55 w
def m24_4 (R : VP) (g3 s4 r5 t6 : Value) (w : World) : Prop :=
  valP Try.prog (Instr.loadAt 46 r5) w fun t50 w =>
  callP Try.prog (fnV 44) #[t50] w fun t51 w =>
  valP Try.prog (Instr.extract t51 0) w fun t52 w =>
  valP Try.prog (Instr.extract t51 1) w fun t53 w =>
  m24_5 R g3 s4 r5 t6 t52 t53 w
def m24_3 (R : VP) (g3 s4 r5 t6 : Value) (w : World) : Prop :=
  valP Try.prog (Instr.fieldAt 28 s4 3) w fun t45 w =>
  valP Try.prog (Instr.loadAt 3 t45) w fun t46 w =>
  valP Try.prog (binS BinOp.add 3 (tm 46) (ci 1) t46 (vi 1)) w fun t47 w =>
  valP Try.prog (Instr.fieldAt 28 s4 3) w fun t48 w =>
  unitP Try.prog (Instr.storeAt 3 t48 t47) w fun _ w =>
  m24_4 R g3 s4 r5 t6 w
def m24_36 (R : VP) (g3 s4 r5 t6 t43 : Value) (w : World) : Prop :=
  condP t43
  (valP Try.prog (Instr.build 28 #[]) w fun t44 w =>
  unitP Try.prog (Instr.storeAt 28 t6 t44) w fun _ w =>
  m24_37 R t6 (Value.slice none 0 0) (vi 6) w)
  (m24_3 R g3 s4 r5 t6 w)
def m24_2 (R : VP) (g3 s4 r5 t6 : Value) (w : World) : Prop :=
  valP Try.prog (Instr.fieldAt 28 s4 3) w fun t41 w =>
  valP Try.prog (Instr.loadAt 3 t41) w fun t42 w =>
  valP Try.prog (binS BinOp.eql 3 (tm 42) (ci 1099511627776) t42 (vi 1099511627776)) w fun t43 w =>
  m24_36 R g3 s4 r5 t6 t43 w
def m24_38 (R : VP) (g3 s4 r5 t6 t39 : Value) (w : World) : Prop :=
  condP t39
  (valP Try.prog (Instr.build 28 #[]) w fun t40 w =>
  unitP Try.prog (Instr.storeAt 28 t6 t40) w fun _ w =>
  m24_39 R t6 (Value.slice none 0 0) (vi 1) w)
  (m24_2 R g3 s4 r5 t6 w)
def m24_1 (R : VP) (g3 s4 r5 t6 : Value) (w : World) : Prop :=
  valP Try.prog (Instr.loadAt 23 g3) w fun t19 w =>
  valP Try.prog (Instr.loadAt 28 s4) w fun t20 w =>
  callP Try.prog (fnV 15) #[t19, t20] w fun t21 w =>
  valP Try.prog (Op.unary UnOp.not t21) w fun t22 w =>
  condP t22
  (pickP t22 (Value.bool true) undef fun t28 =>
  condP t28
  (pickP t28 (Value.bool true) undef fun t33 =>
  condP t33
  (pickP t33 (Value.bool true) undef fun t39 =>
  m24_38 R g3 s4 r5 t6 t39 w)
  (valP Try.prog (Instr.fieldAt 46 r5 1) w fun t35 w =>
  valP Try.prog (Instr.loadAt 3 t35) w fun t36 w =>
  callP Try.prog (fnV 28) #[t36] w fun t37 w =>
  valP Try.prog (Op.unary UnOp.not t37) w fun t38 w =>
  pickP t33 (Value.bool true) t38 fun t39 =>
  m24_38 R g3 s4 r5 t6 t39 w))
  (valP Try.prog (Instr.fieldAt 46 r5 0) w fun t30 w =>
  valP Try.prog (Instr.loadAt 3 t30) w fun t31 w =>
  valP Try.prog (binS BinOp.gtr 3 (tm 31) (ci 1048576) t31 (vi 1048576)) w fun t32 w =>
  pickP t28 (Value.bool true) t32 fun t33 =>
  condP t33
  (pickP t33 (Value.bool true) undef fun t39 =>
  m24_38 R g3 s4 r5 t6 t39 w)
  (valP Try.prog (Instr.fieldAt 46 r5 1) w fun t35 w =>
  valP Try.prog (Instr.loadAt 3 t35) w fun t36 w =>
  callP Try.prog (fnV 28) #[t36] w fun t37 w =>
  valP Try.prog (Op.unary UnOp.not t37) w fun t38 w =>
  pickP t33 (Value.bool true) t38 fun t39 =>
  m24_38 R g3 s4 r5 t6 t39 w)))
  (valP Try.prog (Instr.fieldAt 46 r5 0) w fun t24 w =>
  valP Try.prog (Instr.loadAt 3 t24) w fun t25 w =>
  callP Try.prog (fnV 28) #[t25] w fun t26 w =>
  valP Try.prog (Op.unary UnOp.not t26) w fun t27 w =>
  pickP t22 (Value.bool true) t27 fun t28 =>
  condP t28
  (pickP t28 (Value.bool true) undef fun t33 =>
  condP t33
  (pickP t33 (Value.bool true) undef fun t39 =>
  m24_38 R g3 s4 r5 t6 t39 w)
  (valP Try.prog (Instr.fieldAt 46 r5 1) w fun t35 w =>
  valP Try.prog (Instr.loadAt 3 t35) w fun t36 w =>
  callP Try.prog (fnV 28) #[t36] w fun t37 w =>
  valP Try.prog (Op.unary UnOp.not t37) w fun t38 w =>
  pickP t33 (Value.bool true) t38 fun t39 =>
  m24_38 R g3 s4 r5 t6 t39 w))
  (valP Try.prog (Instr.fieldAt 46 r5 0) w fun t30 w =>
  valP Try.prog (Instr.loadAt 3 t30) w fun t31 w =>
  valP Try.prog (binS BinOp.gtr 3 (tm 31) (ci 1048576) t31 (vi 1048576)) w fun t32 w =>
  pickP t28 (Value.bool true) t32 fun t33 =>
  condP t33
  (pickP t33 (Value.bool true) undef fun t39 =>
  m24_38 R g3 s4 r5 t6 t39 w)
  (valP Try.prog (Instr.fieldAt 46 r5 1) w fun t35 w =>
  valP Try.prog (Instr.loadAt 3 t35) w fun t36 w =>
  callP Try.prog (fnV 28) #[t36] w fun t37 w =>
  valP Try.prog (Op.unary UnOp.not t37) w fun t38 w =>
  pickP t33 (Value.bool true) t38 fun t39 =>
  m24_38 R g3 s4 r5 t6 t39 w)))
def m24_0 (R : VP) (g0 s1 r2 : Value) (w : World) : Prop :=
  valP Try.prog (Instr.box 23 g0) w fun g3 w =>
  valP Try.prog (Instr.box 28 s1) w fun s4 w =>
  valP Try.prog (Instr.box 46 r2) w fun r5 w =>
  valP Try.prog (Instr.alloc 28 true (.tuple #[])) w fun t6 w =>
  m24_1 R g3 s4 r5 t6 w
abbrev W24 := cwp Try.prog (fun i => cond (Nat.beq i 28) 10 (cond (Nat.beq i 17) 10 (cond (Nat.beq i 16) 9 (0))))
noncomputable def k24_0 := bodyOf Try.f24
noncomputable def k24_1 := c2 k24_0
noncomputable def k24_2 := c2 k24_1
noncomputable def k24_3 := c2 k24_2
noncomputable def k24_4 := c2 k24_3
noncomputable def k24_5 := c2 k24_4
noncomputable def k24_6 := c2 k24_5
noncomputable def k24_7 := c2 k24_6
noncomputable def k24_8 := c2 k24_7
noncomputable def k24_9 := c2 k24_8
noncomputable def k24_10 := c2 k24_9
noncomputable def k24_11 := c2 k24_10
noncomputable def k24_12 := c2 k24_11
noncomputable def k24_13 := c2 k24_12
noncomputable def k24_14 := c2 k24_13
noncomputable def k24_15 := c2 k24_14
noncomputable def k24_16 := c2 k24_15
noncomputable def k24_17 := c2 (c1 k24_13)
noncomputable def k24_18 := c1 (c1 k24_17)
noncomputable def k24_19 := c2 k24_18
noncomputable def k24_20 := c2 k24_19
noncomputable def k24_21 := c2 (c1 (c1 k24_19))
noncomputable def k24_22 := c2 (c1 k24_18)
noncomputable def k24_23 := c2 (c1 k24_11)
noncomputable def k24_24 := c2 (c1 k24_10)
noncomputable def k24_25 := c2 (c1 k24_24)
noncomputable def k24_26 := c2 (c1 k24_9)
noncomputable def k24_27 := c1 (c1 k24_26)
noncomputable def k24_28 := c2 k24_27
noncomputable def k24_29 := c2 k24_28
noncomputable def k24_30 := c2 (c1 (c1 k24_28))
noncomputable def k24_31 := c2 (c1 k24_30)
noncomputable def k24_32 := c2 (c1 k24_27)
noncomputable def k24_33 := c2 (c1 k24_5)
noncomputable def k24_34 := c2 (c1 k24_33)
noncomputable def k24_35 := c2 k24_34
noncomputable def k24_36 := c2 (c1 k24_2)
noncomputable def k24_37 := c2 (c1 k24_36)
noncomputable def k24_38 := c2 (c1 k24_1)
noncomputable def k24_39 := c2 (c1 k24_38)
abbrev hR24 (R : VP) (Q : EQ) : Prop := ∀ e w, (valS Try.prog (loadC 28 (e 6)) w fun r0 =>
R (Value.tuple #[r0, (e 7), (e 8)]) w) → Q .ret e w
theorem s24_39 (hR : hR24 R Q) (e : Env) (w : World) (h : m24_39 R (e 6) (e 7) (e 8) w) : W24 k24_39 Q e w := by
  exact reA (hR _ _ h)
theorem s24_37 (hR : hR24 R Q) (e : Env) (w : World) (h : m24_37 R (e 6) (e 7) (e 8) w) : W24 k24_37 Q e w := by
  exact reA (hR _ _ h)
theorem s24_35 (hR : hR24 R Q) (e : Env) (w : World) (h : m24_35 R (e 6) (e 7) (e 8) w) : W24 k24_35 Q e w := by
  exact reA (hR _ _ h)
theorem s24_34 (hR : hR24 R Q) (e : Env) (w : World) (h : m24_34 R (e 4) (e 6) w) : W24 k24_34 Q e w := by
  refine seA ?_
  exact rgA 9 (fun e w => m24_35 R (e 6) (e 7) (e 8) w) h fun e w h => then_N (s24_35 hR e w h)
theorem s24_29 {K1 : (Value × Value × Value) → World → Prop} (hN : ∀ e w, (K1 ((e 13), (e 14), (e 15)) w) → Q .normal e w) (e : Env) (w : World) (h : m24_29 R K1 (e 3) (e 4) (e 5) (e 6) (e 9) (e 11) (e 13) (e 14) (e 15) w) : W24 k24_29 Q e w := by
  exact rgA 15 (fun e w => K1 ((e 13), (e 14), (e 15)) w) h hN
theorem s24_31 {K1 : (Value × Value × Value) → World → Prop} (hN : ∀ e w, (m24_29 R K1 (e 3) (e 4) (e 5) (e 6) (e 9) (e 11) (e 13) (e 14) (e 15) w) → Q .normal e w) (e : Env) (w : World) (h : m24_31 R K1 (e 3) (e 4) (e 5) (e 6) (e 9) (e 11) (e 13) (e 14) (e 15) w) : W24 k24_31 Q e w := by
  exact rgA 18 (fun e w => m24_29 R K1 (e 3) (e 4) (e 5) (e 6) (e 9) (e 11) (e 13) (e 14) (e 15) w) h hN
theorem s24_30 {K1 : (Value × Value × Value) → World → Prop} (hN : ∀ e w, (m24_29 R K1 (e 3) (e 4) (e 5) (e 6) (e 9) (e 11) (e 13) (e 14) (e 15) w) → Q .normal e w) (e : Env) (w : World) (h : m24_30 R K1 (e 3) (e 4) (e 5) (e 6) (e 9) (e 11) (e 13) (e 14) (e 15) (e 84) w) : W24 k24_30 Q e w := by
  refine coA (Operand.tmp 84) h (fun h1 => ?_) (fun h1 => ?_)
  · refine seA ?_
    have hN : ∀ e w, (m24_31 R K1 (e 3) (e 4) (e 5) (e 6) (e 9) (e 11) (e 13) (e 14) (e 15) w) → (thenE (W24 k24_31 Q) Q) .normal e w := fun e w h => then_N (s24_31 hN e w h)
    exact taA 17 8 (fun e w => m24_31 R K1 (e 3) (e 4) (e 5) (e 6) (e 9) (e 11) (e 13) (e 14) (e 15) w) h1 hN
  · exact skA (hN _ _ h1)
theorem s24_28 {K1 : (Value × Value × Value) → World → Prop} (hN : ∀ e w, (K1 ((e 13), (e 14), (e 15)) w) → Q .normal e w) (e : Env) (w : World) (h : m24_28 R K1 (e 3) (e 4) (e 5) (e 6) (e 9) (e 11) (e 13) (e 14) (e 15) w) : W24 k24_28 Q e w := by
  refine seA ?_
  have hN : ∀ e w, (m24_29 R K1 (e 3) (e 4) (e 5) (e 6) (e 9) (e 11) (e 13) (e 14) (e 15) w) → (thenE (W24 k24_29 Q) Q) .normal e w := fun e w h => then_N (s24_29 hN e w h)
  refine block_ok 1 (by kernel_rfl) ?_
  have hN : ∀ e w, (m24_29 R K1 (e 3) (e 4) (e 5) (e 6) (e 9) (e 11) (e 13) (e 14) (e 15) w) → (inBlockE 1 (thenE (W24 k24_29 Q) Q)) .normal e w := fun e w h => block_N (hN e w h)
  refine seA ?_
  have hN : ∀ e w, (m24_30 R K1 (e 3) (e 4) (e 5) (e 6) (e 9) (e 11) (e 13) (e 14) (e 15) (e 84) w) → (thenE (W24 k24_30 (inBlockE 1 (thenE (W24 k24_29 Q) Q))) (inBlockE 1 (thenE (W24 k24_29 Q) Q))) .normal e w := fun e w h => then_N (s24_30 (R := R) (Q := (inBlockE 1 (thenE (W24 k24_29 Q) Q))) hN e w h)
  exact taA 16 7 (fun e w => m24_30 R K1 (e 3) (e 4) (e 5) (e 6) (e 9) (e 11) (e 13) (e 14) (e 15) (e 84) w) h hN
theorem s24_20 {K1 : (Value × Value × Value) → World → Prop} (hN : ∀ e w, (K1 ((e 16), (e 17), (e 18)) w) → Q .normal e w) (e : Env) (w : World) (h : m24_20 R K1 (e 3) (e 4) (e 6) (e 13) (e 16) (e 17) (e 18) w) : W24 k24_20 Q e w := by
  exact rgA 27 (fun e w => K1 ((e 16), (e 17), (e 18)) w) h hN
theorem s24_21 {K1 : (Value × Value × Value) → World → Prop} (hN : ∀ e w, (m24_20 R K1 (e 3) (e 4) (e 6) (e 13) (e 16) (e 17) (e 18) w) → Q .normal e w) (e : Env) (w : World) (h : m24_21 R K1 (e 3) (e 4) (e 6) (e 13) (e 16) (e 17) (e 18) (e 131) w) : W24 k24_21 Q e w := by
  refine coA (Operand.tmp 131) h (fun h1 => ?_) (fun h1 => ?_)
  · exact rgA 29 (fun e w => m24_20 R K1 (e 3) (e 4) (e 6) (e 13) (e 16) (e 17) (e 18) w) h1 hN
  · exact rgA 30 (fun e w => m24_20 R K1 (e 3) (e 4) (e 6) (e 13) (e 16) (e 17) (e 18) w) h1 hN
theorem s24_19 {K1 : (Value × Value × Value) → World → Prop} (hN : ∀ e w, (K1 ((e 16), (e 17), (e 18)) w) → Q .normal e w) (e : Env) (w : World) (h : m24_19 R K1 (e 3) (e 4) (e 6) (e 13) (e 16) (e 17) (e 18) w) : W24 k24_19 Q e w := by
  refine seA ?_
  have hN : ∀ e w, (m24_20 R K1 (e 3) (e 4) (e 6) (e 13) (e 16) (e 17) (e 18) w) → (thenE (W24 k24_20 Q) Q) .normal e w := fun e w h => then_N (s24_20 hN e w h)
  refine block_ok 3 (by kernel_rfl) ?_
  have hN : ∀ e w, (m24_20 R K1 (e 3) (e 4) (e 6) (e 13) (e 16) (e 17) (e 18) w) → (inBlockE 3 (thenE (W24 k24_20 Q) Q)) .normal e w := fun e w h => block_N (hN e w h)
  refine seA ?_
  have hN : ∀ e w, (m24_21 R K1 (e 3) (e 4) (e 6) (e 13) (e 16) (e 17) (e 18) (e 131) w) → (thenE (W24 k24_21 (inBlockE 3 (thenE (W24 k24_20 Q) Q))) (inBlockE 3 (thenE (W24 k24_20 Q) Q))) .normal e w := fun e w h => then_N (s24_21 (R := R) (Q := (inBlockE 3 (thenE (W24 k24_20 Q) Q))) hN e w h)
  exact taA 28 8 (fun e w => m24_21 R K1 (e 3) (e 4) (e 6) (e 13) (e 16) (e 17) (e 18) (e 131) w) h hN
theorem s24_16 (hR : hR24 R Q) (e : Env) (w : World) (h : m24_16 R (e 6) (e 7) (e 8) w) : W24 k24_16 Q e w := by
  exact reA (hR _ _ h)
theorem s24_15 (hR : hR24 R Q) (e : Env) (w : World) (h : m24_15 R (e 4) (e 6) (e 17) w) : W24 k24_15 Q e w := by
  refine seA ?_
  exact rgA 32 (fun e w => m24_16 R (e 6) (e 7) (e 8) w) h fun e w h => then_N (s24_16 hR e w h)
theorem s24_14 (hR : hR24 R Q) (e : Env) (w : World) (h : m24_14 R (e 4) (e 6) (e 16) (e 17) w) : W24 k24_14 Q e w := by
  refine seA ?_
  exact rgA 31 (fun e w => m24_15 R (e 4) (e 6) (e 17) w) h fun e w h => then_N (s24_15 hR e w h)
theorem s24_22 {K1 : (Value × Value × Value) → World → Prop} (hN : ∀ e w, (m24_19 R K1 (e 3) (e 4) (e 6) (e 13) (e 16) (e 17) (e 18) w) → Q .normal e w) (hX2 : ∀ e w, (m24_14 R (e 4) (e 6) (e 16) (e 17) w) → Q (.exit 2) e w) (e : Env) (w : World) (h : m24_22 R K1 (e 3) (e 4) (e 6) (e 13) (e 16) (e 17) (e 18) (e 120) w) : W24 k24_22 Q e w := by
  refine coA (Operand.tmp 120) h (fun h1 => ?_) (fun h1 => ?_)
  · exact skA (hN _ _ h1)
  · exact exA 2 (hX2 _ _ h1)
theorem s24_18 {K1 : (Value × Value × Value) → World → Prop} (hN : ∀ e w, (K1 ((e 16), (e 17), (e 18)) w) → Q .normal e w) (hX2 : ∀ e w, (m24_14 R (e 4) (e 6) (e 16) (e 17) w) → Q (.exit 2) e w) (e : Env) (w : World) (h : m24_18 R K1 (e 3) (e 4) (e 6) (e 13) (e 16) (e 17) (e 18) w) : W24 k24_18 Q e w := by
  refine seA ?_
  have hN : ∀ e w, (m24_19 R K1 (e 3) (e 4) (e 6) (e 13) (e 16) (e 17) (e 18) w) → (thenE (W24 k24_19 Q) Q) .normal e w := fun e w h => then_N (s24_19 hN e w h)
  have hX2 : ∀ e w, (m24_14 R (e 4) (e 6) (e 16) (e 17) w) → (thenE (W24 k24_19 Q) Q) (.exit 2) e w := fun e w h => then_X (hX2 e w h)
  refine seA ?_
  exact rgA 26 (fun e w => m24_22 R K1 (e 3) (e 4) (e 6) (e 13) (e 16) (e 17) (e 18) (e 120) w) h fun e w h => then_N (s24_22 hN hX2 e w h)
theorem s24_17 (hN : ∀ e w, (m24_14 R (e 4) (e 6) (e 16) (e 17) w) → Q .normal e w) (e : Env) (w : World) (h : m24_17 R (e 3) (e 4) (e 6) (e 13) (e 16) (e 17) (e 18) w) : W24 k24_17 Q e w := by
  refine block_ok 2 (by kernel_rfl) ?_
  have hX2 : ∀ e w, (m24_14 R (e 4) (e 6) (e 16) (e 17) w) → (inBlockE 2 Q) (.exit 2) e w := fun e w h => inBlock_same (Q := Q) 2 (hN e w h)
  refine loop_ok' (fun (e : Env) => (e 16, e 17, e 18)) [3, 4, 6, 13] (by kernel_rfl) (by kernel_rfl) h (fun K e' w' hk h' => ?_)
  have r3 : e' 3 = e 3 := hk 3 (by decide)
  have r4 : e' 4 = e 4 := hk 4 (by decide)
  have r6 : e' 6 = e 6 := hk 6 (by decide)
  have r13 : e' 13 = e 13 := hk 13 (by decide)
  have hX2 : ∀ e w, (m24_14 R (e 4) (e 6) (e 16) (e 17) w) → (thenE (fun (e : Env) w => K ((e 16), (e 17), (e 18)) w) (inBlockE 2 Q)) (.exit 2) e w := fun e w h => then_X (hX2 e w h)
  exact s24_18 (K1 := K) (fun _ _ h => then_N h) hX2 e' w' (by rw [r3, r4, r6, r13]; exact h')
theorem s24_13 (hR : hR24 R Q) (e : Env) (w : World) (h : m24_13 R (e 3) (e 4) (e 6) (e 13) (e 16) (e 17) w) : W24 k24_13 Q e w := by
  refine seA ?_
  have hN : ∀ e w, (m24_14 R (e 4) (e 6) (e 16) (e 17) w) → (thenE (W24 k24_14 Q) Q) .normal e w := fun e w h => then_N (s24_14 hR e w h)
  refine seA ?_
  exact rgA 25 (fun e w => m24_17 R (e 3) (e 4) (e 6) (e 13) (e 16) (e 17) (e 18) w) h fun e w h => then_N (s24_17 hN e w h)
theorem s24_12 (hR : hR24 R Q) (e : Env) (w : World) (h : m24_12 R (e 3) (e 4) (e 6) (e 13) w) : W24 k24_12 Q e w := by
  refine seA ?_
  exact rgA 24 (fun e w => m24_13 R (e 3) (e 4) (e 6) (e 13) (e 16) (e 17) w) h fun e w h => then_N (s24_13 hR e w h)
theorem s24_23 (hN : ∀ e w, (m24_12 R (e 3) (e 4) (e 6) (e 13) w) → Q .normal e w) (e : Env) (w : World) (h : m24_23 R (e 3) (e 4) (e 5) (e 6) (e 13) (e 113) w) : W24 k24_23 Q e w := by
  refine coA (Operand.tmp 113) h (fun h1 => ?_) (fun h1 => ?_)
  · exact rgA 23 (fun e w => m24_12 R (e 3) (e 4) (e 6) (e 13) w) h1 hN
  · exact skA (hN _ _ h1)
theorem s24_11 (hR : hR24 R Q) (e : Env) (w : World) (h : m24_11 R (e 3) (e 4) (e 5) (e 6) (e 13) w) : W24 k24_11 Q e w := by
  refine seA ?_
  have hN : ∀ e w, (m24_12 R (e 3) (e 4) (e 6) (e 13) w) → (thenE (W24 k24_12 Q) Q) .normal e w := fun e w h => then_N (s24_12 hR e w h)
  refine seA ?_
  exact rgA 22 (fun e w => m24_23 R (e 3) (e 4) (e 5) (e 6) (e 13) (e 113) w) h fun e w h => then_N (s24_23 hN e w h)
theorem s24_25 (hN : ∀ e w, (m24_11 R (e 3) (e 4) (e 5) (e 6) (e 13) w) → Q .normal e w) (e : Env) (w : World) (h : m24_25 R (e 3) (e 4) (e 5) (e 6) w) : W24 k24_25 Q e w := by
  exact rgA 21 (fun e w => m24_11 R (e 3) (e 4) (e 5) (e 6) (e 13) w) h hN
theorem s24_24 (hN : ∀ e w, (m24_11 R (e 3) (e 4) (e 5) (e 6) (e 13) w) → Q .normal e w) (e : Env) (w : World) (h : m24_24 R (e 3) (e 4) (e 5) (e 6) (e 13) (e 102) w) : W24 k24_24 Q e w := by
  refine coA (Operand.tmp 102) h (fun h1 => ?_) (fun h1 => ?_)
  · refine seA ?_
    exact rgA 20 (fun e w => m24_25 R (e 3) (e 4) (e 5) (e 6) w) h1 fun e w h => then_N (s24_25 hN e w h)
  · exact skA (hN _ _ h1)
theorem s24_10 (hR : hR24 R Q) (e : Env) (w : World) (h : m24_10 R (e 3) (e 4) (e 5) (e 6) (e 13) (e 14) w) : W24 k24_10 Q e w := by
  refine seA ?_
  have hN : ∀ e w, (m24_11 R (e 3) (e 4) (e 5) (e 6) (e 13) w) → (thenE (W24 k24_11 Q) Q) .normal e w := fun e w h => then_N (s24_11 hR e w h)
  refine seA ?_
  exact rgA 19 (fun e w => m24_24 R (e 3) (e 4) (e 5) (e 6) (e 13) (e 102) w) h fun e w h => then_N (s24_24 hN e w h)
theorem s24_32 {K1 : (Value × Value × Value) → World → Prop} (hN : ∀ e w, (m24_28 R K1 (e 3) (e 4) (e 5) (e 6) (e 9) (e 11) (e 13) (e 14) (e 15) w) → Q .normal e w) (hX0 : ∀ e w, (m24_10 R (e 3) (e 4) (e 5) (e 6) (e 13) (e 14) w) → Q (.exit 0) e w) (e : Env) (w : World) (h : m24_32 R K1 (e 3) (e 4) (e 5) (e 6) (e 9) (e 11) (e 13) (e 14) (e 15) (e 73) w) : W24 k24_32 Q e w := by
  refine coA (Operand.tmp 73) h (fun h1 => ?_) (fun h1 => ?_)
  · exact skA (hN _ _ h1)
  · exact exA 0 (hX0 _ _ h1)
theorem s24_27 {K1 : (Value × Value × Value) → World → Prop} (hN : ∀ e w, (K1 ((e 13), (e 14), (e 15)) w) → Q .normal e w) (hX0 : ∀ e w, (m24_10 R (e 3) (e 4) (e 5) (e 6) (e 13) (e 14) w) → Q (.exit 0) e w) (e : Env) (w : World) (h : m24_27 R K1 (e 3) (e 4) (e 5) (e 6) (e 9) (e 11) (e 13) (e 14) (e 15) w) : W24 k24_27 Q e w := by
  refine seA ?_
  have hN : ∀ e w, (m24_28 R K1 (e 3) (e 4) (e 5) (e 6) (e 9) (e 11) (e 13) (e 14) (e 15) w) → (thenE (W24 k24_28 Q) Q) .normal e w := fun e w h => then_N (s24_28 hN e w h)
  have hX0 : ∀ e w, (m24_10 R (e 3) (e 4) (e 5) (e 6) (e 13) (e 14) w) → (thenE (W24 k24_28 Q) Q) (.exit 0) e w := fun e w h => then_X (hX0 e w h)
  refine seA ?_
  exact rgA 14 (fun e w => m24_32 R K1 (e 3) (e 4) (e 5) (e 6) (e 9) (e 11) (e 13) (e 14) (e 15) (e 73) w) h fun e w h => then_N (s24_32 hN hX0 e w h)
theorem s24_26 (hN : ∀ e w, (m24_10 R (e 3) (e 4) (e 5) (e 6) (e 13) (e 14) w) → Q .normal e w) (e : Env) (w : World) (h : m24_26 R (e 3) (e 4) (e 5) (e 6) (e 9) (e 11) (e 13) (e 14) (e 15) w) : W24 k24_26 Q e w := by
  refine block_ok 0 (by kernel_rfl) ?_
  have hX0 : ∀ e w, (m24_10 R (e 3) (e 4) (e 5) (e 6) (e 13) (e 14) w) → (inBlockE 0 Q) (.exit 0) e w := fun e w h => inBlock_same (Q := Q) 0 (hN e w h)
  refine loop_ok' (fun (e : Env) => (e 13, e 14, e 15)) [3, 4, 5, 6, 9, 11] (by kernel_rfl) (by kernel_rfl) h (fun K e' w' hk h' => ?_)
  have r3 : e' 3 = e 3 := hk 3 (by decide)
  have r4 : e' 4 = e 4 := hk 4 (by decide)
  have r5 : e' 5 = e 5 := hk 5 (by decide)
  have r6 : e' 6 = e 6 := hk 6 (by decide)
  have r9 : e' 9 = e 9 := hk 9 (by decide)
  have r11 : e' 11 = e 11 := hk 11 (by decide)
  have hX0 : ∀ e w, (m24_10 R (e 3) (e 4) (e 5) (e 6) (e 13) (e 14) w) → (thenE (fun (e : Env) w => K ((e 13), (e 14), (e 15)) w) (inBlockE 0 Q)) (.exit 0) e w := fun e w h => then_X (hX0 e w h)
  exact s24_27 (K1 := K) (fun _ _ h => then_N h) hX0 e' w' (by rw [r3, r4, r5, r6, r9, r11]; exact h')
theorem s24_9 (hR : hR24 R Q) (e : Env) (w : World) (h : m24_9 R (e 3) (e 4) (e 5) (e 6) (e 9) (e 11) (e 13) (e 14) w) : W24 k24_9 Q e w := by
  refine seA ?_
  have hN : ∀ e w, (m24_10 R (e 3) (e 4) (e 5) (e 6) (e 13) (e 14) w) → (thenE (W24 k24_10 Q) Q) .normal e w := fun e w h => then_N (s24_10 hR e w h)
  refine seA ?_
  exact rgA 13 (fun e w => m24_26 R (e 3) (e 4) (e 5) (e 6) (e 9) (e 11) (e 13) (e 14) (e 15) w) h fun e w h => then_N (s24_26 hN e w h)
theorem s24_8 (hR : hR24 R Q) (e : Env) (w : World) (h : m24_8 R (e 3) (e 4) (e 5) (e 6) (e 9) (e 11) (e 13) w) : W24 k24_8 Q e w := by
  refine seA ?_
  exact rgA 12 (fun e w => m24_9 R (e 3) (e 4) (e 5) (e 6) (e 9) (e 11) (e 13) (e 14) w) h fun e w h => then_N (s24_9 hR e w h)
theorem s24_7 (hR : hR24 R Q) (e : Env) (w : World) (h : m24_7 R (e 3) (e 4) (e 5) (e 6) (e 9) (e 11) w) : W24 k24_7 Q e w := by
  refine seA ?_
  exact rgA 11 (fun e w => m24_8 R (e 3) (e 4) (e 5) (e 6) (e 9) (e 11) (e 13) w) h fun e w h => then_N (s24_8 hR e w h)
theorem s24_6 (hR : hR24 R Q) (e : Env) (w : World) (h : m24_6 R (e 3) (e 4) (e 5) (e 6) (e 9) w) : W24 k24_6 Q e w := by
  refine seA ?_
  exact rgA 10 (fun e w => m24_7 R (e 3) (e 4) (e 5) (e 6) (e 9) (e 11) w) h fun e w h => then_N (s24_7 hR e w h)
theorem s24_33 (hN : ∀ e w, (m24_6 R (e 3) (e 4) (e 5) (e 6) (e 9) w) → Q .normal e w) (hR : hR24 R Q) (e : Env) (w : World) (h : m24_33 R (e 3) (e 4) (e 5) (e 6) (e 9) (e 55) w) : W24 k24_33 Q e w := by
  refine coA (Operand.tmp 55) h (fun h1 => ?_) (fun h1 => ?_)
  · refine seA ?_
    exact rgA 8 (fun e w => m24_34 R (e 4) (e 6) w) h1 fun e w h => then_N (s24_34 hR e w h)
  · exact skA (hN _ _ h1)
theorem s24_5 (hR : hR24 R Q) (e : Env) (w : World) (h : m24_5 R (e 3) (e 4) (e 5) (e 6) (e 9) (e 10) w) : W24 k24_5 Q e w := by
  refine seA ?_
  have hN : ∀ e w, (m24_6 R (e 3) (e 4) (e 5) (e 6) (e 9) w) → (thenE (W24 k24_6 Q) Q) .normal e w := fun e w h => then_N (s24_6 hR e w h)
  have hR : ∀ e w, (valS Try.prog (loadC 28 (e 6)) w fun r0 =>
  R (Value.tuple #[r0, (e 7), (e 8)]) w) → (thenE (W24 k24_6 Q) Q) .ret e w := fun e w h => then_R (hR e w h)
  refine seA ?_
  exact rgA 7 (fun e w => m24_33 R (e 3) (e 4) (e 5) (e 6) (e 9) (e 55) w) h fun e w h => then_N (s24_33 hN hR e w h)
theorem s24_4 (hR : hR24 R Q) (e : Env) (w : World) (h : m24_4 R (e 3) (e 4) (e 5) (e 6) w) : W24 k24_4 Q e w := by
  refine seA ?_
  exact rgA 6 (fun e w => m24_5 R (e 3) (e 4) (e 5) (e 6) (e 9) (e 10) w) h fun e w h => then_N (s24_5 hR e w h)
theorem s24_3 (hR : hR24 R Q) (e : Env) (w : World) (h : m24_3 R (e 3) (e 4) (e 5) (e 6) w) : W24 k24_3 Q e w := by
  refine seA ?_
  exact rgA 5 (fun e w => m24_4 R (e 3) (e 4) (e 5) (e 6) w) h fun e w h => then_N (s24_4 hR e w h)
theorem s24_36 (hN : ∀ e w, (m24_3 R (e 3) (e 4) (e 5) (e 6) w) → Q .normal e w) (hR : hR24 R Q) (e : Env) (w : World) (h : m24_36 R (e 3) (e 4) (e 5) (e 6) (e 43) w) : W24 k24_36 Q e w := by
  refine coA (Operand.tmp 43) h (fun h1 => ?_) (fun h1 => ?_)
  · refine seA ?_
    exact rgA 4 (fun e w => m24_37 R (e 6) (e 7) (e 8) w) h1 fun e w h => then_N (s24_37 hR e w h)
  · exact skA (hN _ _ h1)
theorem s24_2 (hR : hR24 R Q) (e : Env) (w : World) (h : m24_2 R (e 3) (e 4) (e 5) (e 6) w) : W24 k24_2 Q e w := by
  refine seA ?_
  have hN : ∀ e w, (m24_3 R (e 3) (e 4) (e 5) (e 6) w) → (thenE (W24 k24_3 Q) Q) .normal e w := fun e w h => then_N (s24_3 hR e w h)
  have hR : ∀ e w, (valS Try.prog (loadC 28 (e 6)) w fun r0 =>
  R (Value.tuple #[r0, (e 7), (e 8)]) w) → (thenE (W24 k24_3 Q) Q) .ret e w := fun e w h => then_R (hR e w h)
  refine seA ?_
  exact rgA 3 (fun e w => m24_36 R (e 3) (e 4) (e 5) (e 6) (e 43) w) h fun e w h => then_N (s24_36 hN hR e w h)
theorem s24_38 (hN : ∀ e w, (m24_2 R (e 3) (e 4) (e 5) (e 6) w) → Q .normal e w) (hR : hR24 R Q) (e : Env) (w : World) (h : m24_38 R (e 3) (e 4) (e 5) (e 6) (e 39) w) : W24 k24_38 Q e w := by
  refine coA (Operand.tmp 39) h (fun h1 => ?_) (fun h1 => ?_)
  · refine seA ?_
    exact rgA 2 (fun e w => m24_39 R (e 6) (e 7) (e 8) w) h1 fun e w h => then_N (s24_39 hR e w h)
  · exact skA (hN _ _ h1)
theorem s24_1 (hR : hR24 R Q) (e : Env) (w : World) (h : m24_1 R (e 3) (e 4) (e 5) (e 6) w) : W24 k24_1 Q e w := by
  refine seA ?_
  have hN : ∀ e w, (m24_2 R (e 3) (e 4) (e 5) (e 6) w) → (thenE (W24 k24_2 Q) Q) .normal e w := fun e w h => then_N (s24_2 hR e w h)
  have hR : ∀ e w, (valS Try.prog (loadC 28 (e 6)) w fun r0 =>
  R (Value.tuple #[r0, (e 7), (e 8)]) w) → (thenE (W24 k24_2 Q) Q) .ret e w := fun e w h => then_R (hR e w h)
  refine seA ?_
  exact rgA 1 (fun e w => m24_38 R (e 3) (e 4) (e 5) (e 6) (e 39) w) h fun e w h => then_N (s24_38 hN hR e w h)
theorem s24_0 (hR : hR24 R Q) (e : Env) (w : World) (h : m24_0 R (e 0) (e 1) (e 2) w) : W24 k24_0 Q e w := by
  refine seA ?_
  exact rgA 0 (fun e w => m24_1 R (e 3) (e 4) (e 5) (e 6) w) h fun e w h => then_N (s24_1 hR e w h)
abbrev m24 (R : VP) (g0 s1 r2 : Value) (w : World) : Prop := m24_0 R g0 s1 r2 w
theorem s24 (g0 s1 r2 : Value) {R : VP} {w : World} (h : m24 R g0 s1 r2 w) :
    Calls Try.prog 24 #[g0, s1, r2] w fun e w' => ∃ v, e = .returned v ∧ R v w' :=
  calls_of_cwp (st := (fun i => cond (Nat.beq i 28) 10 (cond (Nat.beq i 17) 10 (cond (Nat.beq i 16) 9 (0))))) (c := k24_0) (by kernel_rfl) Try.func24 (by kernel_rfl) (Nat.le_of_ble_eq_true (by kernel_rfl)) (by kernel_rfl)
    (s24_0 (R := R) (Q := endE Try.prog Try.f24 R) (fun e w h => kcast (by kernel_rfl) h) (argsE #[g0, s1, r2]) w (kcast (by kernel_rfl) h))
def m13_17 (R : VP) (t6 t7 t8 : Value) (w : World) : Prop :=
  valS Try.prog (loadC 28 t6) w fun r0 =>
  R (Value.tuple #[r0, t7, t8]) w
def m13_14 (R : VP) (K1 : (Value × Value) → World → Prop) (t6 t7 t8 : Value) (w : World) : Prop :=
  valS Try.prog (loadC 28 t6) w fun r0 =>
  R (Value.tuple #[r0, t7, t8]) w
def m13_9 (R : VP) (K1 : (Value × Value) → World → Prop) (l2 g3 s4 t6 all9 i10 : Value) (w : World) : Prop :=
  valP Try.prog (binS BinOp.add 3 (tm 23) (ci 1) i10 (vi 1)) w fun t24 w =>
  K1 (all9, t24) w
def m13_12 (R : VP) (K1 : (Value × Value) → World → Prop) (l2 g3 s4 t6 all9 i10 over12 : Value) (w : World) : Prop :=
  builtinP Try.prog Builtin.append #[26, 26] 26 #[false, false] #[all9, over12] w fun t43 w =>
  m13_9 R K1 l2 g3 s4 t6 t43 i10 w
def m13_11 (R : VP) (K1 : (Value × Value) → World → Prop) (l2 g3 s4 t6 all9 i10 t11 over12 : Value) (w : World) : Prop :=
  valP Try.prog (Instr.loadAt 28 t11) w fun t40 w =>
  unitP Try.prog (Instr.storeAt 28 s4 t40) w fun _ w =>
  m13_12 R K1 l2 g3 s4 t6 all9 i10 over12 w
def m13_13 (R : VP) (K1 : (Value × Value) → World → Prop) (l2 g3 s4 t6 all9 i10 t11 over12 e13 t37 : Value) (w : World) : Prop :=
  condP t37
  (valP Try.prog (Instr.build 28 #[]) w fun t38 w =>
  unitP Try.prog (Instr.storeAt 28 t6 t38) w fun _ w =>
  m13_14 R K1 t6 (Value.slice none 0 0) e13 w)
  (m13_11 R K1 l2 g3 s4 t6 all9 i10 t11 over12 w)
def m13_10 (R : VP) (K1 : (Value × Value) → World → Prop) (l2 g3 s4 t6 all9 i10 t11 over12 e13 : Value) (w : World) : Prop :=
  valP Try.prog (binS BinOp.neq 3 (tm 36) (ci 0) e13 (vi 0)) w fun t37 w =>
  m13_13 R K1 l2 g3 s4 t6 all9 i10 t11 over12 e13 t37 w
def m13_8 (R : VP) (K1 : (Value × Value) → World → Prop) (l2 g3 s4 t6 all9 i10 : Value) (w : World) : Prop :=
  anyDraw w fun w =>
  heldP w fun J =>
  valJ Try.prog J (Instr.loadAt 23 g3) fun t26 =>
  valJ Try.prog J (Instr.loadAt 28 s4) fun t27 =>
  valJ Try.prog J (Instr.indexAt 24 l2 i10) fun t30 =>
  valJ Try.prog J (Instr.loadAt 46 t30) fun t31 =>
  (callP Try.prog (fnV 24) #[t26, t27, t31] w fun t32 w =>
  stayP J w
  (valJ Try.prog J (Instr.extract t32 0) fun t33 =>
  valJ Try.prog J (Instr.extract t32 1) fun t34 =>
  valJ Try.prog J (Instr.extract t32 2) fun t35 =>
  valP Try.prog (Instr.alloc 28 true (.tuple #[])) w fun t11 w =>
  stayP J w
  (unitP Try.prog (Instr.storeAt 28 t11 t33) w fun _ w =>
  stayP J w
  (m13_10 R K1 l2 g3 s4 t6 all9 i10 t11 t34 t35 w)))) ∧ (valP Try.prog (Instr.alloc 28 true (.tuple #[])) w fun t11 w =>
  stayP J w
  (callP Try.prog (fnV 24) #[t26, t27, t31] w fun t32 w =>
  stayP J w
  (valJ Try.prog J (Instr.extract t32 0) fun t33 =>
  valJ Try.prog J (Instr.extract t32 1) fun t34 =>
  valJ Try.prog J (Instr.extract t32 2) fun t35 =>
  unitP Try.prog (Instr.storeAt 28 t11 t33) w fun _ w =>
  stayP J w
  (m13_10 R K1 l2 g3 s4 t6 all9 i10 t11 t34 t35 w))))
def m13_5 (R : VP) (t6 t7 t8 : Value) (w : World) : Prop :=
  valS Try.prog (loadC 28 t6) w fun r0 =>
  R (Value.tuple #[r0, t7, t8]) w
def m13_4 (R : VP) (s4 t6 all9 : Value) (w : World) : Prop :=
  valP Try.prog (Instr.loadAt 28 s4) w fun t44 w =>
  unitP Try.prog (Instr.storeAt 28 t6 t44) w fun _ w =>
  m13_5 R t6 all9 (vi 0) w
def m13_15 (R : VP) (K1 : (Value × Value) → World → Prop) (l2 g3 s4 t6 all9 i10 t22 : Value) (w : World) : Prop :=
  condP t22
  (m13_8 R K1 l2 g3 s4 t6 all9 i10 w)
  (m13_4 R s4 t6 all9 w)
def m13_7 (R : VP) (K1 : (Value × Value) → World → Prop) (l2 g3 s4 t6 all9 i10 : Value) (w : World) : Prop :=
  builtinP Try.prog Builtin.len #[24] 3 #[false] #[l2] w fun t21 w =>
  valP Try.prog (binS BinOp.lss 3 (tm 19) (tm 21) i10 t21) w fun t22 w =>
  m13_15 R K1 l2 g3 s4 t6 all9 i10 t22 w
def m13_6 (R : VP) (l2 g3 s4 t6 all9 i10 : Value) (w : World) : Prop :=
  loopP (fun (K1 : (Value × Value) → World → Prop) (s : Value × Value) w => m13_7 R K1 l2 g3 s4 t6 s.1 s.2 w) (all9, i10) w
def m13_3 (R : VP) (l2 g3 s4 t6 all9 : Value) (w : World) : Prop :=
  m13_6 R l2 g3 s4 t6 all9 (vi 0) w
def m13_2 (R : VP) (l2 g3 s4 t6 : Value) (w : World) : Prop :=
  m13_3 R l2 g3 s4 t6 (Value.slice none 0 0) w
def m13_16 (R : VP) (l2 g3 s4 t6 t17 : Value) (w : World) : Prop :=
  condP t17
  (valP Try.prog (Instr.build 28 #[]) w fun t18 w =>
  unitP Try.prog (Instr.storeAt 28 t6 t18) w fun _ w =>
  m13_17 R t6 (Value.slice none 0 0) (vi 1) w)
  (m13_2 R l2 g3 s4 t6 w)
def m13_1 (R : VP) (l2 g3 s4 t6 : Value) (w : World) : Prop :=
  valP Try.prog (Instr.loadAt 23 g3) w fun t14 w =>
  valP Try.prog (Instr.loadAt 28 s4) w fun t15 w =>
  callP Try.prog (fnV 15) #[t14, t15] w fun t16 w =>
  valP Try.prog (Op.unary UnOp.not t16) w fun t17 w =>
  m13_16 R l2 g3 s4 t6 t17 w
def m13_0 (R : VP) (g0 s1 l2 : Value) (w : World) : Prop :=
  valP Try.prog (Instr.box 23 g0) w fun g3 w =>
  valP Try.prog (Instr.box 28 s1) w fun s4 w =>
  valP Try.prog (Instr.alloc 28 true (.tuple #[])) w fun t6 w =>
  m13_1 R l2 g3 s4 t6 w
abbrev W13 := cwp Try.prog (fun i => 0)
noncomputable def k13_0 := bodyOf Try.f13
noncomputable def k13_1 := c2 k13_0
noncomputable def k13_2 := c2 k13_1
noncomputable def k13_3 := c2 k13_2
noncomputable def k13_4 := c2 k13_3
noncomputable def k13_5 := c2 k13_4
noncomputable def k13_6 := c2 (c1 k13_3)
noncomputable def k13_7 := c1 (c1 k13_6)
noncomputable def k13_8 := c2 k13_7
noncomputable def k13_9 := c2 k13_8
noncomputable def k13_10 := c2 (c1 (c1 k13_8))
noncomputable def k13_11 := c2 k13_10
noncomputable def k13_12 := c2 k13_11
noncomputable def k13_13 := c2 (c1 k13_10)
noncomputable def k13_14 := c2 (c1 k13_13)
noncomputable def k13_15 := c2 (c1 k13_7)
noncomputable def k13_16 := c2 (c1 k13_1)
noncomputable def k13_17 := c2 (c1 k13_16)
abbrev hR13 (R : VP) (Q : EQ) : Prop := ∀ e w, (valS Try.prog (loadC 28 (e 6)) w fun r0 =>
R (Value.tuple #[r0, (e 7), (e 8)]) w) → Q .ret e w
theorem s13_17 (hR : hR13 R Q) (e : Env) (w : World) (h : m13_17 R (e 6) (e 7) (e 8) w) : W13 k13_17 Q e w := by
  exact reA (hR _ _ h)
theorem s13_14 {K1 : (Value × Value) → World → Prop} (hR : hR13 R Q) (e : Env) (w : World) (h : m13_14 R K1 (e 6) (e 7) (e 8) w) : W13 k13_14 Q e w := by
  exact reA (hR _ _ h)
theorem s13_9 {K1 : (Value × Value) → World → Prop} (hN : ∀ e w, (K1 ((e 9), (e 10)) w) → Q .normal e w) (e : Env) (w : World) (h : m13_9 R K1 (e 2) (e 3) (e 4) (e 6) (e 9) (e 10) w) : W13 k13_9 Q e w := by
  exact rgA 6 (fun e w => K1 ((e 9), (e 10)) w) h hN
theorem s13_12 {K1 : (Value × Value) → World → Prop} (hN : ∀ e w, (m13_9 R K1 (e 2) (e 3) (e 4) (e 6) (e 9) (e 10) w) → Q .normal e w) (e : Env) (w : World) (h : m13_12 R K1 (e 2) (e 3) (e 4) (e 6) (e 9) (e 10) (e 12) w) : W13 k13_12 Q e w := by
  exact rgA 11 (fun e w => m13_9 R K1 (e 2) (e 3) (e 4) (e 6) (e 9) (e 10) w) h hN
theorem s13_11 {K1 : (Value × Value) → World → Prop} (hN : ∀ e w, (m13_9 R K1 (e 2) (e 3) (e 4) (e 6) (e 9) (e 10) w) → Q .normal e w) (e : Env) (w : World) (h : m13_11 R K1 (e 2) (e 3) (e 4) (e 6) (e 9) (e 10) (e 11) (e 12) w) : W13 k13_11 Q e w := by
  refine seA ?_
  exact rgA 10 (fun e w => m13_12 R K1 (e 2) (e 3) (e 4) (e 6) (e 9) (e 10) (e 12) w) h fun e w h => then_N (s13_12 hN e w h)
theorem s13_13 {K1 : (Value × Value) → World → Prop} (hN : ∀ e w, (m13_11 R K1 (e 2) (e 3) (e 4) (e 6) (e 9) (e 10) (e 11) (e 12) w) → Q .normal e w) (hR : hR13 R Q) (e : Env) (w : World) (h : m13_13 R K1 (e 2) (e 3) (e 4) (e 6) (e 9) (e 10) (e 11) (e 12) (e 13) (e 37) w) : W13 k13_13 Q e w := by
  refine coA (Operand.tmp 37) h (fun h1 => ?_) (fun h1 => ?_)
  · refine seA ?_
    exact rgA 9 (fun e w => m13_14 R K1 (e 6) (e 7) (e 8) w) h1 fun e w h => then_N (s13_14 hR e w h)
  · exact skA (hN _ _ h1)
theorem s13_10 {K1 : (Value × Value) → World → Prop} (hN : ∀ e w, (m13_9 R K1 (e 2) (e 3) (e 4) (e 6) (e 9) (e 10) w) → Q .normal e w) (hR : hR13 R Q) (e : Env) (w : World) (h : m13_10 R K1 (e 2) (e 3) (e 4) (e 6) (e 9) (e 10) (e 11) (e 12) (e 13) w) : W13 k13_10 Q e w := by
  refine seA ?_
  have hN : ∀ e w, (m13_11 R K1 (e 2) (e 3) (e 4) (e 6) (e 9) (e 10) (e 11) (e 12) w) → (thenE (W13 k13_11 Q) Q) .normal e w := fun e w h => then_N (s13_11 hN e w h)
  have hR : ∀ e w, (valS Try.prog (loadC 28 (e 6)) w fun r0 =>
  R (Value.tuple #[r0, (e 7), (e 8)]) w) → (thenE (W13 k13_11 Q) Q) .ret e w := fun e w h => then_R (hR e w h)
  refine seA ?_
  exact rgA 8 (fun e w => m13_13 R K1 (e 2) (e 3) (e 4) (e 6) (e 9) (e 10) (e 11) (e 12) (e 13) (e 37) w) h fun e w h => then_N (s13_13 hN hR e w h)
theorem s13_8 {K1 : (Value × Value) → World → Prop} (hN : ∀ e w, (K1 ((e 9), (e 10)) w) → Q .normal e w) (hR : hR13 R Q) (e : Env) (w : World) (h : m13_8 R K1 (e 2) (e 3) (e 4) (e 6) (e 9) (e 10) w) : W13 k13_8 Q e w := by
  refine seA ?_
  have hN : ∀ e w, (m13_9 R K1 (e 2) (e 3) (e 4) (e 6) (e 9) (e 10) w) → (thenE (W13 k13_9 Q) Q) .normal e w := fun e w h => then_N (s13_9 hN e w h)
  have hR : ∀ e w, (valS Try.prog (loadC 28 (e 6)) w fun r0 =>
  R (Value.tuple #[r0, (e 7), (e 8)]) w) → (thenE (W13 k13_9 Q) Q) .ret e w := fun e w h => then_R (hR e w h)
  refine block_ok 1 (by kernel_rfl) ?_
  have hN : ∀ e w, (m13_9 R K1 (e 2) (e 3) (e 4) (e 6) (e 9) (e 10) w) → (inBlockE 1 (thenE (W13 k13_9 Q) Q)) .normal e w := fun e w h => block_N (hN e w h)
  have hR : ∀ e w, (valS Try.prog (loadC 28 (e 6)) w fun r0 =>
  R (Value.tuple #[r0, (e 7), (e 8)]) w) → (inBlockE 1 (thenE (W13 k13_9 Q) Q)) .ret e w := fun e w h => block_R (hR e w h)
  refine seA ?_
  have hN : ∀ e w, (m13_10 R K1 (e 2) (e 3) (e 4) (e 6) (e 9) (e 10) (e 11) (e 12) (e 13) w) → (thenE (W13 k13_10 (inBlockE 1 (thenE (W13 k13_9 Q) Q))) (inBlockE 1 (thenE (W13 k13_9 Q) Q))) .normal e w := fun e w h => then_N (s13_10 (R := R) (Q := (inBlockE 1 (thenE (W13 k13_9 Q) Q))) hN hR e w h)
  exact treeJ_ok 7 15 (bt 15 0) (.take 0 (bt 15 1) (.take 1 (bt 15 3) (.take 2 (bt 15 7) (.take 3 (bt 15 15) (.take 4 (bt 15 31) (.take 5 (bt 15 63) (.alt 6 (bt 15 127) (.take 7 (bt 15 255) (.take 8 (bt 15 511) (.take 9 (bt 15 1023) (.take 10 (bt 15 2047) (.alt 11 (bt 15 4095) (.alt 12 (bt 15 8191) (.take 13 (bt 15 16383) (.take 14 (bt 15 32767) .done)) .stop) .stop))))) (.alt 11 (bt 15 2111) (.alt 6 (bt 15 2175) (.take 7 (bt 15 2303) (.take 8 (bt 15 2559) (.take 9 (bt 15 3071) (.take 10 (bt 15 4095) (.alt 12 (bt 15 8191) (.take 13 (bt 15 16383) (.take 14 (bt 15 32767) .done)) .stop))))) .stop) .stop)))))))) (fun e w => m13_10 R K1 (e 2) (e 3) (e 4) (e 6) (e 9) (e 10) (e 11) (e 12) (e 13) w) (by kernel_rfl) (by kernel_rfl) (by kernel_rfl) (by kernel_rfl) (by kernel_rfl) (by kernel_rfl) (kcast (by kernel_rfl) h) hN (by kernel_rfl)
theorem s13_5 (hR : hR13 R Q) (e : Env) (w : World) (h : m13_5 R (e 6) (e 7) (e 8) w) : W13 k13_5 Q e w := by
  exact reA (hR _ _ h)
theorem s13_4 (hR : hR13 R Q) (e : Env) (w : World) (h : m13_4 R (e 4) (e 6) (e 9) w) : W13 k13_4 Q e w := by
  refine seA ?_
  exact rgA 12 (fun e w => m13_5 R (e 6) (e 7) (e 8) w) h fun e w h => then_N (s13_5 hR e w h)
theorem s13_15 {K1 : (Value × Value) → World → Prop} (hN : ∀ e w, (m13_8 R K1 (e 2) (e 3) (e 4) (e 6) (e 9) (e 10) w) → Q .normal e w) (hX0 : ∀ e w, (m13_4 R (e 4) (e 6) (e 9) w) → Q (.exit 0) e w) (e : Env) (w : World) (h : m13_15 R K1 (e 2) (e 3) (e 4) (e 6) (e 9) (e 10) (e 22) w) : W13 k13_15 Q e w := by
  refine coA (Operand.tmp 22) h (fun h1 => ?_) (fun h1 => ?_)
  · exact skA (hN _ _ h1)
  · exact exA 0 (hX0 _ _ h1)
theorem s13_7 {K1 : (Value × Value) → World → Prop} (hN : ∀ e w, (K1 ((e 9), (e 10)) w) → Q .normal e w) (hR : hR13 R Q) (hX0 : ∀ e w, (m13_4 R (e 4) (e 6) (e 9) w) → Q (.exit 0) e w) (e : Env) (w : World) (h : m13_7 R K1 (e 2) (e 3) (e 4) (e 6) (e 9) (e 10) w) : W13 k13_7 Q e w := by
  refine seA ?_
  have hN : ∀ e w, (m13_8 R K1 (e 2) (e 3) (e 4) (e 6) (e 9) (e 10) w) → (thenE (W13 k13_8 Q) Q) .normal e w := fun e w h => then_N (s13_8 hN hR e w h)
  have hX0 : ∀ e w, (m13_4 R (e 4) (e 6) (e 9) w) → (thenE (W13 k13_8 Q) Q) (.exit 0) e w := fun e w h => then_X (hX0 e w h)
  refine seA ?_
  exact rgA 5 (fun e w => m13_15 R K1 (e 2) (e 3) (e 4) (e 6) (e 9) (e 10) (e 22) w) h fun e w h => then_N (s13_15 hN hX0 e w h)
theorem s13_6 (hN : ∀ e w, (m13_4 R (e 4) (e 6) (e 9) w) → Q .normal e w) (hR : hR13 R Q) (e : Env) (w : World) (h : m13_6 R (e 2) (e 3) (e 4) (e 6) (e 9) (e 10) w) : W13 k13_6 Q e w := by
  refine block_ok 0 (by kernel_rfl) ?_
  have hX0 : ∀ e w, (m13_4 R (e 4) (e 6) (e 9) w) → (inBlockE 0 Q) (.exit 0) e w := fun e w h => inBlock_same (Q := Q) 0 (hN e w h)
  have hR : ∀ e w, (valS Try.prog (loadC 28 (e 6)) w fun r0 =>
  R (Value.tuple #[r0, (e 7), (e 8)]) w) → (inBlockE 0 Q) .ret e w := fun e w h => block_R (hR e w h)
  refine loop_ok' (fun (e : Env) => (e 9, e 10)) [2, 3, 4, 6] (by kernel_rfl) (by kernel_rfl) h (fun K e' w' hk h' => ?_)
  have r2 : e' 2 = e 2 := hk 2 (by decide)
  have r3 : e' 3 = e 3 := hk 3 (by decide)
  have r4 : e' 4 = e 4 := hk 4 (by decide)
  have r6 : e' 6 = e 6 := hk 6 (by decide)
  have hR : ∀ e w, (valS Try.prog (loadC 28 (e 6)) w fun r0 =>
  R (Value.tuple #[r0, (e 7), (e 8)]) w) → (thenE (fun (e : Env) w => K ((e 9), (e 10)) w) (inBlockE 0 Q)) .ret e w := fun e w h => then_R (hR e w h)
  have hX0 : ∀ e w, (m13_4 R (e 4) (e 6) (e 9) w) → (thenE (fun (e : Env) w => K ((e 9), (e 10)) w) (inBlockE 0 Q)) (.exit 0) e w := fun e w h => then_X (hX0 e w h)
  exact s13_7 (K1 := K) (fun _ _ h => then_N h) hR hX0 e' w' (by rw [r2, r3, r4, r6]; exact h')
theorem s13_3 (hR : hR13 R Q) (e : Env) (w : World) (h : m13_3 R (e 2) (e 3) (e 4) (e 6) (e 9) w) : W13 k13_3 Q e w := by
  refine seA ?_
  have hN : ∀ e w, (m13_4 R (e 4) (e 6) (e 9) w) → (thenE (W13 k13_4 Q) Q) .normal e w := fun e w h => then_N (s13_4 hR e w h)
  have hR : ∀ e w, (valS Try.prog (loadC 28 (e 6)) w fun r0 =>
  R (Value.tuple #[r0, (e 7), (e 8)]) w) → (thenE (W13 k13_4 Q) Q) .ret e w := fun e w h => then_R (hR e w h)
  refine seA ?_
  exact rgA 4 (fun e w => m13_6 R (e 2) (e 3) (e 4) (e 6) (e 9) (e 10) w) h fun e w h => then_N (s13_6 hN hR e w h)
theorem s13_2 (hR : hR13 R Q) (e : Env) (w : World) (h : m13_2 R (e 2) (e 3) (e 4) (e 6) w) : W13 k13_2 Q e w := by
  refine seA ?_
  exact rgA 3 (fun e w => m13_3 R (e 2) (e 3) (e 4) (e 6) (e 9) w) h fun e w h => then_N (s13_3 hR e w h)
theorem s13_16 (hN : ∀ e w, (m13_2 R (e 2) (e 3) (e 4) (e 6) w) → Q .normal e w) (hR : hR13 R Q) (e : Env) (w : World) (h : m13_16 R (e 2) (e 3) (e 4) (e 6) (e 17) w) : W13 k13_16 Q e w := by
  refine coA (Operand.tmp 17) h (fun h1 => ?_) (fun h1 => ?_)
  · refine seA ?_
    exact rgA 2 (fun e w => m13_17 R (e 6) (e 7) (e 8) w) h1 fun e w h => then_N (s13_17 hR e w h)
  · exact skA (hN _ _ h1)
theorem s13_1 (hR : hR13 R Q) (e : Env) (w : World) (h : m13_1 R (e 2) (e 3) (e 4) (e 6) w) : W13 k13_1 Q e w := by
  refine seA ?_
  have hN : ∀ e w, (m13_2 R (e 2) (e 3) (e 4) (e 6) w) → (thenE (W13 k13_2 Q) Q) .normal e w := fun e w h => then_N (s13_2 hR e w h)
  have hR : ∀ e w, (valS Try.prog (loadC 28 (e 6)) w fun r0 =>
  R (Value.tuple #[r0, (e 7), (e 8)]) w) → (thenE (W13 k13_2 Q) Q) .ret e w := fun e w h => then_R (hR e w h)
  refine seA ?_
  exact rgA 1 (fun e w => m13_16 R (e 2) (e 3) (e 4) (e 6) (e 17) w) h fun e w h => then_N (s13_16 hN hR e w h)
theorem s13_0 (hR : hR13 R Q) (e : Env) (w : World) (h : m13_0 R (e 0) (e 1) (e 2) w) : W13 k13_0 Q e w := by
  refine seA ?_
  exact rgA 0 (fun e w => m13_1 R (e 2) (e 3) (e 4) (e 6) w) h fun e w h => then_N (s13_1 hR e w h)
abbrev m13 (R : VP) (g0 s1 l2 : Value) (w : World) : Prop := m13_0 R g0 s1 l2 w
theorem s13 (g0 s1 l2 : Value) {R : VP} {w : World} (h : m13 R g0 s1 l2 w) :
    Calls Try.prog 13 #[g0, s1, l2] w fun e w' => ∃ v, e = .returned v ∧ R v w' :=
  calls_of_cwp (st := (fun i => 0)) (c := k13_0) (by kernel_rfl) Try.func13 (by kernel_rfl) (Nat.le_of_ble_eq_true (by kernel_rfl)) (by kernel_rfl)
    (s13_0 (R := R) (Q := endE Try.prog Try.f13 R) (fun e w h => kcast (by kernel_rfl) h) (argsE #[g0, s1, l2]) w (kcast (by kernel_rfl) h))
end Go.Proofs.Ytnhgdngbdoifnaa.M
namespace Go.Proofs.Ytnhgdngbdoifnaa.M
open Go.Proofs.Ytnhgdngbdoifnaa.F Go.RowKit
set_option linter.unusedVariables false
set_option linter.unusedSimpArgs false
set_option maxRecDepth 100000
set_option maxHeartbeats 2000000
attribute [local irreducible] Res.cells Res.row Res.map Res.any World.cell? World.frozen? Instr.fieldAt Instr.loadAt Instr.storeAt Instr.indexAt Instr.lookup Instr.mapUpdate Instr.box Instr.build Instr.buildSlice Instr.extract Instr.alloc Instr.field Instr.index Instr.sliceAt Instr.makeSlice Instr.makeMap Instr.makeFunc binS Op.unary Sem.run
abbrev encC (c : Ce) : List Value := [.int .i64 c.key, .int .i64 c.start, .int .i64 c.a.count, .int .i64 c.a.sum, .int .i64 c.a.mn, .int .i64 c.a.mx, .int .i64 c.a.h0, .int .i64 c.a.h1, .int .i64 c.a.h2, .int .i64 c.a.h3, .int .i64 c.a.re, .int .i64 c.a.im]
abbrev cev (c : Ce) : Value := .agg #[.int .i64 c.key, .int .i64 c.start, .int .i64 c.a.count, .int .i64 c.a.sum, .int .i64 c.a.mn, .int .i64 c.a.mx, .int .i64 c.a.h0, .int .i64 c.a.h1, .int .i64 c.a.h2, .int .i64 c.a.h3, .int .i64 c.a.re, .int .i64 c.a.im]
abbrev sgv (s : Sg) (A : Option Addr) (c : Nat) : Value := .agg #[.int .i64 s.mark, .int .i64 s.late, .int .i64 s.bad, .int .i64 s.n, .slice A s.L.length c]
abbrev encS (s : Sg) (A : Option Addr) (c : Nat) : List Value := [.int .i64 s.mark, .int .i64 s.late, .int .i64 s.bad, .int .i64 s.n, .slice A s.L.length c]
abbrev cRow (A : Option Addr) (c : Nat) (l : List Ce) : Res := Res.row 67 12 (.slice A l.length c) l.length (l.flatMap encC)
theorem encC_len : ∀ g, (encC g).length = 12 := fun _ => rfl
theorem encC_one : ∀ x, ∀ u ∈ encC x, u.oneCell' = true := fun x u hu => by
  simp only [List.mem_cons, List.not_mem_nil, or_false] at hu
  rcases hu with rfl | rfl | rfl | rfl | rfl | rfl | rfl | rfl | rfl | rfl | rfl | rfl <;> rfl
structure Sl (w0 : World) (F : List Nat) (L : List Res) (A : Option Addr) (c : Nat) (l : List Ce) : Prop where
  rd : Bes w0 F L 12 A l.length (l.flatMap encC)
  cap : l.length ≤ c
  nul : A = none → c = 0
def in40 (x : Int) : Prop := 0 ≤ x ∧ x ≤ 1099511627776
instance (x : Int) : Decidable (in40 x) := by unfold in40; infer_instance
def CeMay (g : Gr) (m : Int) (c : Ce) : Prop := (0 ≤ c.key ∧ c.key ≤ 1048576) ∧ in40 c.start ∧ c.start % g.hop = 0 ∧ c.start ≤ m ∧ ¬ ClosedG g c.start m ∧ MayA c.a
def HdS (g : Gr) (s : Sg) : Prop := MayG g ∧ (s.mark = -1 ∨ in40 s.mark) ∧ in40 s.late ∧ in40 s.bad ∧ in40 s.n ∧ s.late + s.bad ≤ s.n ∧ s.L.length ≤ 64
def MayS (g : Gr) (s : Sg) : Prop := HdS g s ∧ ∀ i (h : i < s.L.length), CeMay g s.mark s.L[i] ∧ ∀ (h0 : 0 < i), AheadC (s.L[i - 1]'(by omega)) s.L[i]
section
variable {w0 w : World} {F : List Nat} {L : List Res}
theorem Sl.cons {A : Option Addr} {c : Nat} {l : List Ce} (h : Sl w0 F L A c l) (r : Res) : Sl w0 F (r :: L) A c l := ⟨h.rd.cons r, h.cap, h.nul⟩
theorem Sl.mono {L' : List Res} {A : Option Addr} {c : Nat} {l : List Ce} (h : Sl w0 F L A c l) (hL : ∀ r ∈ L, r ∈ L') : Sl w0 F L' A c l := ⟨h.rd.mono hL, h.cap, h.nul⟩
theorem Sl.pre {R : List Res} {A : Option Addr} {c : Nat} {l : List Ce} (h : Sl w0 F L A c l) : Sl w0 F (R ++ L) A c l := h.mono fun r hr => List.mem_append_right _ hr
theorem Sl.nil : Sl w0 F L none 0 [] := ⟨fun w L' hS hL => Rd.nil_ _ _ _, by simp, fun _ => rfl⟩
theorem Sl.row {A : Option Addr} {c : Nat} {l : List Ce} (k : Nat) (hS : St w0 F w L) (hk : L[k]? = some (cRow A c l)) : Sl w0 F L A c l := by
  refine ⟨Bes.of_row k hk, (hS.row_max k hk).1, fun h => ?_⟩
  subst h
  have hown := hS.own_row k hk
  rcases hown.2 with ⟨hv, _⟩ | ⟨g, cap, cur, hv, _⟩
  · injection hv
  · injection hv with h1
    cases h1
theorem c_at {l : List Ce} {o b i : Nat} (hr : Rd w 12 (some ⟨b, o, none⟩) l.length (l.flatMap encC)) (hi : i < l.length) (j : Nat) (hj : j < 12) {v : Value} (hv : (encC l[i])[j]? = some v) : w.cell? ⟨b, o + i * 12 + j, none⟩ = some v := hr.struct encC_len hi hj hv
theorem ldC {l : List Ce} {o b i : Nat} (hr : Rd w 12 (some ⟨b, o, none⟩) l.length (l.flatMap encC)) (hi : i < l.length) : (Instr.loadAt 67 (.pointer (some ⟨b, o + i * 12, none⟩))).run Try.prog w = .ok (cev l[i]) w :=
  ld67 (c_at hr hi 0 (by omega) rfl) (c_at hr hi 1 (by omega) rfl) (c_at hr hi 2 (by omega) rfl) (c_at hr hi 3 (by omega) rfl) (c_at hr hi 4 (by omega) rfl) (c_at hr hi 5 (by omega) rfl) (c_at hr hi 6 (by omega) rfl) (c_at hr hi 7 (by omega) rfl) (c_at hr hi 8 (by omega) rfl) (c_at hr hi 9 (by omega) rfl) (c_at hr hi 10 (by omega) rfl) (c_at hr hi 11 (by omega) rfl)
theorem ldK {b t : Nat} {c : Ce} (k : Nat) (hS : St w0 F w L) (hk : L[k]? = some (Res.cells b t (encC c))) : (Instr.loadAt 67 (.pointer (some ⟨b, 0, none⟩))).run Try.prog w = .ok (cev c) w :=
  ld67 (hS.cell k hk rfl) (hS.cell k hk rfl) (hS.cell k hk rfl) (hS.cell k hk rfl) (hS.cell k hk rfl) (hS.cell k hk rfl) (hS.cell k hk rfl) (hS.cell k hk rfl) (hS.cell k hk rfl) (hS.cell k hk rfl) (hS.cell k hk rfl) (hS.cell k hk rfl)
theorem in_ret {x : Int} (hS : St w0 F w L) : Ret Try.prog 28 #[.int .i64 x] w fun v w' => v = .bool (decide (in40 x)) ∧ St w0 F w' L := by
  refine s28 _ ?_
  unfold m28
  unfold m28_0
  have leaf : ∀ t : Bool, (t = true ↔ in40 x) → m28_2 (fun v w' => v = .bool (decide (in40 x)) ∧ St w0 F w' L) (.bool t) w := fun t ht => by
    unfold m28_2
    refine ⟨congrArg Value.bool ?_, hS⟩
    cases t with
    | true => exact (decide_eq_true (ht.1 rfl)).symm
    | false => exact (decide_eq_false fun h => by have := ht.2 h; cases this).symm
  unfold in40 at leaf
  unfold m28_1
  refine valP_ok (geq_ok _ _ _ _ _ _ _) ?_
  first | refine cond_split (fun hc0 => ?_) (fun hc0 => ?_) | refine cond_bsplit (fun hc0 => ?_) (fun hc0 => ?_)
  · refine valP_ok (leq_ok _ _ _ _ _ _ _) ?_
    first | refine pick_dt (by first | assumption | omega) ?_ | refine pick_df (by first | assumption | omega) ?_ | refine pick_t (by first | rfl | assumption) ?_ | refine pick_f (by first | rfl | assumption) ?_ | refine pick_dt rfl ?_ | refine pick_df (not_not_intro rfl) ?_
    exact leaf _ (by simp only [decide_eq_true_eq, Bool.false_eq_true, false_iff, true_iff] <;> first | contradiction | omega)
  · first | refine pick_dt (by first | assumption | omega) ?_ | refine pick_df (by first | assumption | omega) ?_ | refine pick_t (by first | rfl | assumption) ?_ | refine pick_f (by first | rfl | assumption) ?_ | refine pick_dt rfl ?_ | refine pick_df (not_not_intro rfl) ?_
    exact leaf _ (by simp only [decide_eq_true_eq, Bool.false_eq_true, false_iff, true_iff] <;> first | contradiction | omega)
theorem ahead_ret {a b : Ce} (hS : St w0 F w L) : Ret Try.prog 25 #[cev a, cev b] w fun v w' => v = .bool (decide (AheadC a b)) ∧ St w0 F w' L := by
  refine s25 _ _ ?_
  unfold m25
  unfold m25_0
  refine new_ok (bx67 _ _ _ _ _ _ _ _ _ _ _ _ _) hS ?_
  intro b2 w hS
  refine new_ok (bx67 _ _ _ _ _ _ _ _ _ _ _ _ _) hS ?_
  intro b3 w hS
  have leaf : ∀ t : Bool, (t = true ↔ AheadC a b) → m25_2 (fun v w' => v = .bool (decide (AheadC a b)) ∧ St w0 F w' L) (.bool t) w := fun t ht => by
    unfold m25_2
    refine ⟨congrArg Value.bool ?_, hS.tail.tail⟩
    cases t with
    | true => exact (decide_eq_true (ht.1 rfl)).symm
    | false => exact (decide_eq_false fun h => by have := ht.2 h; cases this).symm
  unfold AheadC at leaf
  unfold m25_1
  first | refine valP_ok (fa67_1 _ _) ?_ | refine valP_ok (fao67_1 _ _ _) ?_
  first | refine valP_ok (ld3 (hS.cell 0 rfl rfl)) ?_ | refine valP_ok (ld3 (hS.cell 1 rfl rfl)) ?_ | refine valP_ok (ld3 (hS.cell 2 rfl rfl)) ?_ | refine valP_ok (ld3 (hS.cell 3 rfl rfl)) ?_ | refine valP_ok (ld3 (hS.cell 4 rfl rfl)) ?_ | refine valP_ok (ld3 (hS.cell 5 rfl rfl)) ?_ | refine valP_ok (ld3 (hS.cell 6 rfl rfl)) ?_ | refine valP_ok (ld3 (hS.cell 7 rfl rfl)) ?_ | refine valP_ok (ld3 (by assumption)) ?_
  first | refine valP_ok (fa67_1 _ _) ?_ | refine valP_ok (fao67_1 _ _ _) ?_
  first | refine valP_ok (ld3 (hS.cell 0 rfl rfl)) ?_ | refine valP_ok (ld3 (hS.cell 1 rfl rfl)) ?_ | refine valP_ok (ld3 (hS.cell 2 rfl rfl)) ?_ | refine valP_ok (ld3 (hS.cell 3 rfl rfl)) ?_ | refine valP_ok (ld3 (hS.cell 4 rfl rfl)) ?_ | refine valP_ok (ld3 (hS.cell 5 rfl rfl)) ?_ | refine valP_ok (ld3 (hS.cell 6 rfl rfl)) ?_ | refine valP_ok (ld3 (hS.cell 7 rfl rfl)) ?_ | refine valP_ok (ld3 (by assumption)) ?_
  refine valP_ok (lss_ok _ _ _ _ _ _ _) ?_
  first | refine cond_split (fun hc0 => ?_) (fun hc0 => ?_) | refine cond_bsplit (fun hc0 => ?_) (fun hc0 => ?_)
  · first | refine pick_dt (by first | assumption | omega) ?_ | refine pick_df (by first | assumption | omega) ?_ | refine pick_t (by first | rfl | assumption) ?_ | refine pick_f (by first | rfl | assumption) ?_ | refine pick_dt rfl ?_ | refine pick_df (not_not_intro rfl) ?_
    exact leaf _ (by simp only [decide_eq_true_eq, Bool.false_eq_true, false_iff, true_iff] <;> first | contradiction | omega)
  · first | refine valP_ok (fa67_1 _ _) ?_ | refine valP_ok (fao67_1 _ _ _) ?_
    first | refine valP_ok (ld3 (hS.cell 0 rfl rfl)) ?_ | refine valP_ok (ld3 (hS.cell 1 rfl rfl)) ?_ | refine valP_ok (ld3 (hS.cell 2 rfl rfl)) ?_ | refine valP_ok (ld3 (hS.cell 3 rfl rfl)) ?_ | refine valP_ok (ld3 (hS.cell 4 rfl rfl)) ?_ | refine valP_ok (ld3 (hS.cell 5 rfl rfl)) ?_ | refine valP_ok (ld3 (hS.cell 6 rfl rfl)) ?_ | refine valP_ok (ld3 (hS.cell 7 rfl rfl)) ?_ | refine valP_ok (ld3 (by assumption)) ?_
    first | refine valP_ok (fa67_1 _ _) ?_ | refine valP_ok (fao67_1 _ _ _) ?_
    first | refine valP_ok (ld3 (hS.cell 0 rfl rfl)) ?_ | refine valP_ok (ld3 (hS.cell 1 rfl rfl)) ?_ | refine valP_ok (ld3 (hS.cell 2 rfl rfl)) ?_ | refine valP_ok (ld3 (hS.cell 3 rfl rfl)) ?_ | refine valP_ok (ld3 (hS.cell 4 rfl rfl)) ?_ | refine valP_ok (ld3 (hS.cell 5 rfl rfl)) ?_ | refine valP_ok (ld3 (hS.cell 6 rfl rfl)) ?_ | refine valP_ok (ld3 (hS.cell 7 rfl rfl)) ?_ | refine valP_ok (ld3 (by assumption)) ?_
    refine valP_ok (eq3 _ _ _ _ _) ?_
    first | refine cond_split (fun hc1 => ?_) (fun hc1 => ?_) | refine cond_bsplit (fun hc1 => ?_) (fun hc1 => ?_)
    · first | refine valP_ok (fa67_0 _ _) ?_ | refine valP_ok (fao67_0 _ _ _) ?_
      first | refine valP_ok (ld3 (hS.cell 0 rfl rfl)) ?_ | refine valP_ok (ld3 (hS.cell 1 rfl rfl)) ?_ | refine valP_ok (ld3 (hS.cell 2 rfl rfl)) ?_ | refine valP_ok (ld3 (hS.cell 3 rfl rfl)) ?_ | refine valP_ok (ld3 (hS.cell 4 rfl rfl)) ?_ | refine valP_ok (ld3 (hS.cell 5 rfl rfl)) ?_ | refine valP_ok (ld3 (hS.cell 6 rfl rfl)) ?_ | refine valP_ok (ld3 (hS.cell 7 rfl rfl)) ?_ | refine valP_ok (ld3 (by assumption)) ?_
      first | refine valP_ok (fa67_0 _ _) ?_ | refine valP_ok (fao67_0 _ _ _) ?_
      first | refine valP_ok (ld3 (hS.cell 0 rfl rfl)) ?_ | refine valP_ok (ld3 (hS.cell 1 rfl rfl)) ?_ | refine valP_ok (ld3 (hS.cell 2 rfl rfl)) ?_ | refine valP_ok (ld3 (hS.cell 3 rfl rfl)) ?_ | refine valP_ok (ld3 (hS.cell 4 rfl rfl)) ?_ | refine valP_ok (ld3 (hS.cell 5 rfl rfl)) ?_ | refine valP_ok (ld3 (hS.cell 6 rfl rfl)) ?_ | refine valP_ok (ld3 (hS.cell 7 rfl rfl)) ?_ | refine valP_ok (ld3 (by assumption)) ?_
      refine valP_ok (lss_ok _ _ _ _ _ _ _) ?_
      first | refine pick_dt (by first | assumption | omega) ?_ | refine pick_df (by first | assumption | omega) ?_ | refine pick_t (by first | rfl | assumption) ?_ | refine pick_f (by first | rfl | assumption) ?_ | refine pick_dt rfl ?_ | refine pick_df (not_not_intro rfl) ?_
      first | refine pick_dt (by first | assumption | omega) ?_ | refine pick_df (by first | assumption | omega) ?_ | refine pick_t (by first | rfl | assumption) ?_ | refine pick_f (by first | rfl | assumption) ?_ | refine pick_dt rfl ?_ | refine pick_df (not_not_intro rfl) ?_
      exact leaf _ (by simp only [decide_eq_true_eq, Bool.false_eq_true, false_iff, true_iff] <;> first | contradiction | omega)
    · first | refine pick_dt (by first | assumption | omega) ?_ | refine pick_df (by first | assumption | omega) ?_ | refine pick_t (by first | rfl | assumption) ?_ | refine pick_f (by first | rfl | assumption) ?_ | refine pick_dt rfl ?_ | refine pick_df (not_not_intro rfl) ?_
      first | refine pick_dt (by first | assumption | omega) ?_ | refine pick_df (by first | assumption | omega) ?_ | refine pick_t (by first | rfl | assumption) ?_ | refine pick_f (by first | rfl | assumption) ?_ | refine pick_dt rfl ?_ | refine pick_df (not_not_intro rfl) ?_
      exact leaf _ (by simp only [decide_eq_true_eq, Bool.false_eq_true, false_iff, true_iff] <;> first | contradiction | omega)
theorem takeS_rng {s r : ByteArray} {n : Int} (h : takeS s = some (n, r)) : I64 n := by
  rw [takeS_L] at h
  cases h1 : takeL (bytesN s) with
  | none => rw [h1] at h; cases h
  | some p =>
    obtain ⟨m, rest⟩ := p
    rw [h1] at h
    obtain ⟨e, n1, n2⟩ := takeL_canon (bytesN_lt s) h1
    have := (Prod.mk.inj (Option.some.inj h)).1
    simp only at this
    subst this
    exact ⟨n1, n2⟩
theorem value_ret {r : Rc} (hS : St w0 F w L) : Ret Try.prog 44 #[rv r] w fun v w' => (∃ x t, v = .tuple #[.int .i64 x, .bool t] ∧ I64 x) ∧ St w0 F w' L := by
  refine s44 _ ?_
  unfold m44
  unfold m44_0
  refine new_ok (bx46 _ _ _ _) hS ?_
  intro b1 w hS
  unfold m44_1
  first | refine valP_ok (fa46_2 _ _) ?_ | refine valP_ok (fao46_2 _ _ _) ?_
  first | refine valP_ok (ld9 (hS.cell 0 rfl rfl)) ?_ | refine valP_ok (ld9 (hS.cell 1 rfl rfl)) ?_ | refine valP_ok (ld9 (hS.cell 2 rfl rfl)) ?_ | refine valP_ok (ld9 (hS.cell 3 rfl rfl)) ?_ | refine valP_ok (ld9 (hS.cell 4 rfl rfl)) ?_ | refine valP_ok (ld9 (hS.cell 5 rfl rfl)) ?_ | refine valP_ok (ld9 (hS.cell 6 rfl rfl)) ?_ | refine valP_ok (ld9 (hS.cell 7 rfl rfl)) ?_ | refine valP_ok (ld9 (by assumption)) ?_
  refine callR (by kernel_rfl) (rtake_ret hS) ?_
  rintro _ w ⟨rfl, hS⟩
  have leaf : ∀ (x : Int) (t : Bool), I64 x → m44_3 (fun v w' => (∃ x t, v = .tuple #[.int .i64 x, .bool t] ∧ I64 x) ∧ St w0 F w' L) (.int .i64 x) (.bool t) w := fun x t hx => by
    unfold m44_3
    exact ⟨⟨x, t, rfl, hx⟩, hS.tail⟩
  unfold tkV
  cases htk : takeS r.text with
  | none =>
    simp only
    refine valP_ok (extract_ok _ 0 rfl _) ?_
    refine valP_ok (extract_ok _ 1 rfl _) ?_
    refine valP_ok (extract_ok _ 2 rfl _) ?_
    have h0 : I64 0 := by omega
    unfold m44_2
    refine valP_ok (eq3 _ _ _ _ _) ?_
    first | refine cond_split (fun hc0 => ?_) (fun hc0 => ?_) | refine cond_bsplit (fun hc0 => ?_) (fun hc0 => ?_)
    · refine valP_ok (eq9 _ _ _ _ _) ?_
      first | refine pick_dt (by first | assumption | omega) ?_ | refine pick_df (by first | assumption | omega) ?_ | refine pick_t (by first | rfl | assumption) ?_ | refine pick_f (by first | rfl | assumption) ?_ | refine pick_dt rfl ?_ | refine pick_df (not_not_intro rfl) ?_
      exact leaf _ _ h0
    · first | refine pick_dt (by first | assumption | omega) ?_ | refine pick_df (by first | assumption | omega) ?_ | refine pick_t (by first | rfl | assumption) ?_ | refine pick_f (by first | rfl | assumption) ?_ | refine pick_dt rfl ?_ | refine pick_df (not_not_intro rfl) ?_
      exact leaf _ _ h0
  | some p =>
    obtain ⟨n, x⟩ := p
    simp only
    refine valP_ok (extract_ok _ 0 rfl _) ?_
    refine valP_ok (extract_ok _ 1 rfl _) ?_
    refine valP_ok (extract_ok _ 2 rfl _) ?_
    have h0 : I64 n := takeS_rng htk
    unfold m44_2
    refine valP_ok (eq3 _ _ _ _ _) ?_
    refine cond_split (fun h => ?_) (fun h => absurd rfl h)
    refine valP_ok (eq9 _ _ _ _ _) ?_
    first | refine pick_dt (by first | assumption | omega) ?_ | refine pick_df (by first | assumption | omega) ?_ | refine pick_t (by first | rfl | assumption) ?_ | refine pick_f (by first | rfl | assumption) ?_ | refine pick_dt rfl ?_ | refine pick_df (not_not_intro rfl) ?_
    exact leaf _ _ h0
end
section
variable {w0 w : World} {F : List Nat} {L : List Res}
theorem ldA {b t : Nat} {c : Ce} (k : Nat) (hS : St w0 F w L) (hk : L[k]? = some (Res.cells b t (encC c))) : (Instr.loadAt 65 (.pointer (some ⟨b, 2, none⟩))).run Try.prog w = .ok (agv c.a) w :=
  ld65 (hS.cell k hk (i := 2) rfl) (hS.cell k hk (i := 2 + 1) rfl) (hS.cell k hk (i := 2 + 2) rfl) (hS.cell k hk (i := 2 + 3) rfl) (hS.cell k hk (i := 2 + 4) rfl) (hS.cell k hk (i := 2 + 5) rfl) (hS.cell k hk (i := 2 + 6) rfl) (hS.cell k hk (i := 2 + 7) rfl) (hS.cell k hk (i := 2 + 8) rfl) (hS.cell k hk (i := 2 + 9) rfl)
def MayR (g : Gr) (s : Sg) (w0 : World) (F : List Nat) (L : List Res) (v : Value) (w : World) : Prop := (∃ t, v = .bool t ∧ (t = true ↔ MayS g s)) ∧ St w0 F w L
def GoodS (g : Gr) (s : Sg) (i : Nat) : Prop := ∀ (h : i < s.L.length), CeMay g s.mark s.L[i] ∧ ∀ (h0 : 0 < i), AheadC (s.L[i - 1]'(by omega)) s.L[i]
section
variable {g : Gr} {s : Sg} {A : Option Addr} {c : Nat} {i b2 b3 b6 : Nat} {K1 : Value → World → Prop}
theorem may_11 (h64 : s.L.length ≤ 64) (hil : i < s.L.length) (hc : CeMay g s.mark s.L[i]) (hK : ∀ w, GoodS g s i → St w0 F w (Res.cells b3 28 (encS s A c) :: Res.cells b2 23 (encGr g) :: L) → K1 (.int .i64 ((i + 1 : Nat) : Int)) w) (hS : St w0 F w (Res.cells b6 67 (encC s.L[i]) :: Res.cells b3 28 (encS s A c) :: Res.cells b2 23 (encGr g) :: L))
    (t : Bool) (ht : t = true ↔ ∃ h0 : 0 < i, ¬ AheadC (s.L[i - 1]'(by omega)) s.L[i]) : m15_11 (MayR g s w0 F L) K1 (.pointer (some ⟨b2, 0, none⟩)) (.pointer (some ⟨b3, 0, none⟩)) (.int .i64 (i : Int)) (.bool t) w := by
  unfold m15_11
  cases t with
  | true =>
    obtain ⟨h0, hn⟩ := ht.1 rfl
    refine cond_t rfl ?_
    unfold m15_12
    exact ⟨⟨_, rfl, ⟨fun h => (by cases h), fun h => absurd ((h.2 i hil).2 h0) hn⟩⟩, hS.tail.tail.tail⟩
  | false =>
    refine cond_f rfl ?_
    unfold m15_8
    refine valP_ok (add_ok _ _ _ (by omega) (by omega) _) ?_
    exact hK _ (fun _ => ⟨hc, fun h0 => Classical.byContradiction fun hn => by have := ht.2 ⟨h0, hn⟩; cases this⟩) hS.tail
theorem may_13 (h64 : s.L.length ≤ 64) (hE : Sl w0 F L A c s.L) (hil : i < s.L.length) (hK : ∀ w, GoodS g s i → St w0 F w (Res.cells b3 28 (encS s A c) :: Res.cells b2 23 (encGr g) :: L) → K1 (.int .i64 ((i + 1 : Nat) : Int)) w) (hS : St w0 F w (Res.cells b6 67 (encC s.L[i]) :: Res.cells b3 28 (encS s A c) :: Res.cells b2 23 (encGr g) :: L))
    (t : Bool) (ht : t = true ↔ ¬ CeMay g s.mark s.L[i]) : m15_13 (MayR g s w0 F L) K1 (.pointer (some ⟨b2, 0, none⟩)) (.pointer (some ⟨b3, 0, none⟩)) (.int .i64 (i : Int)) (.pointer (some ⟨b6, 0, none⟩)) (.bool t) w := by
  unfold m15_13
  cases t with
  | true =>
    refine cond_t rfl ?_
    unfold m15_14
    exact ⟨⟨_, rfl, ⟨fun h => (by cases h), fun h => absurd (h.2 i hil).1 (ht.1 rfl)⟩⟩, hS.tail.tail.tail⟩
  | false =>
    have hc : CeMay g s.mark s.L[i] := Classical.byContradiction fun h => by have := ht.2 h; cases this
    refine cond_f rfl ?_
    have hE3 := ((hE.cons (Res.cells b2 23 (encGr g))).cons (Res.cells b3 28 (encS s A c))).cons (Res.cells b6 67 (encC s.L[i]))
    unfold m15_10
    refine drawn_ok hS ?_
    intro w hS
    refine valS_ok (gtr_ok _ _ _ _ _ _ _) ?_
    refine cond_split (fun h => ?_) (fun h => ?_)
    · obtain ⟨j, rfl⟩ : ∃ j, i = j + 1 := ⟨i - 1, by omega⟩
      have hjl : j < s.L.length := by omega
      obtain ⟨gb, o, rfl⟩ := (hE3.rd.rd hS).some_ (by omega) (by omega)
      first | refine valS_ok (fa28_4 _ _) ?_ | refine valS_ok (fao28_4 _ _ _) ?_
      first | refine valS_ok (ld26 (hS.cell 0 rfl rfl)) ?_ | refine valS_ok (ld26 (hS.cell 1 rfl rfl)) ?_ | refine valS_ok (ld26 (hS.cell 2 rfl rfl)) ?_ | refine valS_ok (ld26 (hS.cell 3 rfl rfl)) ?_ | refine valS_ok (ld26 (hS.cell 4 rfl rfl)) ?_ | refine valS_ok (ld26 (hS.cell 5 rfl rfl)) ?_ | refine valS_ok (ld26 (hS.cell 6 rfl rfl)) ?_ | refine valS_ok (ld26 (hS.cell 7 rfl rfl)) ?_ | refine valS_ok (ld26 (by assumption)) ?_
      refine valS_ok (sub_ok _ _ _ (by omega) (by omega) _) ?_
      rw [show ((j + 1 : Nat) : Int) - 1 = (j : Int) by omega]
      refine valS_ok (ix26 hjl _) ?_
      refine valS_ok (ldC (hE3.rd.rd hS) hjl) ?_
      refine valS_ok (ldK 0 hS rfl) ?_
      refine callR (by kernel_rfl) (ahead_ret hS) ?_
      rintro _ w ⟨rfl, hS⟩
      first | refine valP_ok (not_ok _ _) ?_ | refine valP_ok (notb_ok _ _) ?_
      first | refine pick_dt (by first | assumption | omega) ?_ | refine pick_df (by first | assumption | omega) ?_ | refine pick_t (by first | rfl | assumption) ?_ | refine pick_f (by first | rfl | assumption) ?_ | refine pick_dt rfl ?_ | refine pick_df (not_not_intro rfl) ?_
      exact may_11 h64 hil hc hK hS _ (by rw [decide_eq_true_eq]; exact ⟨fun h => ⟨by omega, h⟩, fun ⟨_, h⟩ => h⟩)
    · first | refine pick_dt (by first | assumption | omega) ?_ | refine pick_df (by first | assumption | omega) ?_ | refine pick_t (by first | rfl | assumption) ?_ | refine pick_f (by first | rfl | assumption) ?_ | refine pick_dt rfl ?_ | refine pick_df (not_not_intro rfl) ?_
      exact may_11 h64 hil hc hK hS _ ⟨fun h => (by cases h), fun ⟨h0, _⟩ => absurd h0 (by omega)⟩
theorem may_9 (hd : HdS g s) (hE : Sl w0 F L A c s.L) (hil : i < s.L.length) (hK : ∀ w, GoodS g s i → St w0 F w (Res.cells b3 28 (encS s A c) :: Res.cells b2 23 (encGr g) :: L) → K1 (.int .i64 ((i + 1 : Nat) : Int)) w) (hS : St w0 F w (Res.cells b6 67 (encC s.L[i]) :: Res.cells b3 28 (encS s A c) :: Res.cells b2 23 (encGr g) :: L)) : m15_9 (MayR g s w0 F L) K1 (.pointer (some ⟨b2, 0, none⟩)) (.pointer (some ⟨b3, 0, none⟩)) (.int .i64 (i : Int)) (.pointer (some ⟨b6, 0, none⟩)) w := by
  obtain ⟨hg, hm, -, -, -, -, h64⟩ := hd
  have hg1 := hg.1
  have leaf := fun w hS t ht => may_13 (w := w) (b6 := b6) (K1 := K1) (g := g) h64 hE hil hK hS t ht
  unfold in40 at hm
  unfold m15_9
  first | refine valP_ok (fa67_0 _ _) ?_ | refine valP_ok (fao67_0 _ _ _) ?_
  first | refine valP_ok (ld3 (hS.cell 0 rfl rfl)) ?_ | refine valP_ok (ld3 (hS.cell 1 rfl rfl)) ?_ | refine valP_ok (ld3 (hS.cell 2 rfl rfl)) ?_ | refine valP_ok (ld3 (hS.cell 3 rfl rfl)) ?_ | refine valP_ok (ld3 (hS.cell 4 rfl rfl)) ?_ | refine valP_ok (ld3 (hS.cell 5 rfl rfl)) ?_ | refine valP_ok (ld3 (hS.cell 6 rfl rfl)) ?_ | refine valP_ok (ld3 (hS.cell 7 rfl rfl)) ?_ | refine valP_ok (ld3 (by assumption)) ?_
  refine callR (by kernel_rfl) (in_ret hS) ?_
  rintro _ w ⟨rfl, hS⟩
  first | refine valP_ok (not_ok _ _) ?_ | refine valP_ok (notb_ok _ _) ?_
  refine cond_split (fun h1 => ?_) (fun h1 => ?_)
  · first | refine pick_dt (by first | assumption | omega) ?_ | refine pick_df (by first | assumption | omega) ?_ | refine pick_t (by first | rfl | assumption) ?_ | refine pick_f (by first | rfl | assumption) ?_ | refine pick_dt rfl ?_ | refine pick_df (not_not_intro rfl) ?_
    first | refine pick_dt (by first | assumption | omega) ?_ | refine pick_df (by first | assumption | omega) ?_ | refine pick_t (by first | rfl | assumption) ?_ | refine pick_f (by first | rfl | assumption) ?_ | refine pick_dt rfl ?_ | refine pick_df (not_not_intro rfl) ?_
    first | refine pick_dt (by first | assumption | omega) ?_ | refine pick_df (by first | assumption | omega) ?_ | refine pick_t (by first | rfl | assumption) ?_ | refine pick_f (by first | rfl | assumption) ?_ | refine pick_dt rfl ?_ | refine pick_df (not_not_intro rfl) ?_
    first | refine pick_dt (by first | assumption | omega) ?_ | refine pick_df (by first | assumption | omega) ?_ | refine pick_t (by first | rfl | assumption) ?_ | refine pick_f (by first | rfl | assumption) ?_ | refine pick_dt rfl ?_ | refine pick_df (not_not_intro rfl) ?_
    first | refine pick_dt (by first | assumption | omega) ?_ | refine pick_df (by first | assumption | omega) ?_ | refine pick_t (by first | rfl | assumption) ?_ | refine pick_f (by first | rfl | assumption) ?_ | refine pick_dt rfl ?_ | refine pick_df (not_not_intro rfl) ?_
    first | refine pick_dt (by first | assumption | omega) ?_ | refine pick_df (by first | assumption | omega) ?_ | refine pick_t (by first | rfl | assumption) ?_ | refine pick_f (by first | rfl | assumption) ?_ | refine pick_dt rfl ?_ | refine pick_df (not_not_intro rfl) ?_
    exact leaf _ hS true ⟨fun _ hc => h1 (by unfold in40; have := hc.1; omega), fun _ => rfl⟩
  have h1 := Classical.not_not.1 h1
  unfold in40 at h1
  first | refine valP_ok (fa67_0 _ _) ?_ | refine valP_ok (fao67_0 _ _ _) ?_
  first | refine valP_ok (ld3 (hS.cell 0 rfl rfl)) ?_ | refine valP_ok (ld3 (hS.cell 1 rfl rfl)) ?_ | refine valP_ok (ld3 (hS.cell 2 rfl rfl)) ?_ | refine valP_ok (ld3 (hS.cell 3 rfl rfl)) ?_ | refine valP_ok (ld3 (hS.cell 4 rfl rfl)) ?_ | refine valP_ok (ld3 (hS.cell 5 rfl rfl)) ?_ | refine valP_ok (ld3 (hS.cell 6 rfl rfl)) ?_ | refine valP_ok (ld3 (hS.cell 7 rfl rfl)) ?_ | refine valP_ok (ld3 (by assumption)) ?_
  refine valP_ok (gtr_ok _ _ _ _ _ _ _) ?_
  first | refine pick_dt (by first | assumption | omega) ?_ | refine pick_df (by first | assumption | omega) ?_ | refine pick_t (by first | rfl | assumption) ?_ | refine pick_f (by first | rfl | assumption) ?_ | refine pick_dt rfl ?_ | refine pick_df (not_not_intro rfl) ?_
  refine cond_split (fun h2 => ?_) (fun h2 => ?_)
  · first | refine pick_dt (by first | assumption | omega) ?_ | refine pick_df (by first | assumption | omega) ?_ | refine pick_t (by first | rfl | assumption) ?_ | refine pick_f (by first | rfl | assumption) ?_ | refine pick_dt rfl ?_ | refine pick_df (not_not_intro rfl) ?_
    first | refine pick_dt (by first | assumption | omega) ?_ | refine pick_df (by first | assumption | omega) ?_ | refine pick_t (by first | rfl | assumption) ?_ | refine pick_f (by first | rfl | assumption) ?_ | refine pick_dt rfl ?_ | refine pick_df (not_not_intro rfl) ?_
    first | refine pick_dt (by first | assumption | omega) ?_ | refine pick_df (by first | assumption | omega) ?_ | refine pick_t (by first | rfl | assumption) ?_ | refine pick_f (by first | rfl | assumption) ?_ | refine pick_dt rfl ?_ | refine pick_df (not_not_intro rfl) ?_
    first | refine pick_dt (by first | assumption | omega) ?_ | refine pick_df (by first | assumption | omega) ?_ | refine pick_t (by first | rfl | assumption) ?_ | refine pick_f (by first | rfl | assumption) ?_ | refine pick_dt rfl ?_ | refine pick_df (not_not_intro rfl) ?_
    first | refine pick_dt (by first | assumption | omega) ?_ | refine pick_df (by first | assumption | omega) ?_ | refine pick_t (by first | rfl | assumption) ?_ | refine pick_f (by first | rfl | assumption) ?_ | refine pick_dt rfl ?_ | refine pick_df (not_not_intro rfl) ?_
    exact leaf _ hS true ⟨fun _ hc => (by have := hc.1; omega), fun _ => rfl⟩
  first | refine valP_ok (fa67_1 _ _) ?_ | refine valP_ok (fao67_1 _ _ _) ?_
  first | refine valP_ok (ld3 (hS.cell 0 rfl rfl)) ?_ | refine valP_ok (ld3 (hS.cell 1 rfl rfl)) ?_ | refine valP_ok (ld3 (hS.cell 2 rfl rfl)) ?_ | refine valP_ok (ld3 (hS.cell 3 rfl rfl)) ?_ | refine valP_ok (ld3 (hS.cell 4 rfl rfl)) ?_ | refine valP_ok (ld3 (hS.cell 5 rfl rfl)) ?_ | refine valP_ok (ld3 (hS.cell 6 rfl rfl)) ?_ | refine valP_ok (ld3 (hS.cell 7 rfl rfl)) ?_ | refine valP_ok (ld3 (by assumption)) ?_
  refine callR (by kernel_rfl) (in_ret hS) ?_
  rintro _ w ⟨rfl, hS⟩
  first | refine valP_ok (not_ok _ _) ?_ | refine valP_ok (notb_ok _ _) ?_
  first | refine pick_dt (by first | assumption | omega) ?_ | refine pick_df (by first | assumption | omega) ?_ | refine pick_t (by first | rfl | assumption) ?_ | refine pick_f (by first | rfl | assumption) ?_ | refine pick_dt rfl ?_ | refine pick_df (not_not_intro rfl) ?_
  refine cond_split (fun h3 => ?_) (fun h3 => ?_)
  · first | refine pick_dt (by first | assumption | omega) ?_ | refine pick_df (by first | assumption | omega) ?_ | refine pick_t (by first | rfl | assumption) ?_ | refine pick_f (by first | rfl | assumption) ?_ | refine pick_dt rfl ?_ | refine pick_df (not_not_intro rfl) ?_
    first | refine pick_dt (by first | assumption | omega) ?_ | refine pick_df (by first | assumption | omega) ?_ | refine pick_t (by first | rfl | assumption) ?_ | refine pick_f (by first | rfl | assumption) ?_ | refine pick_dt rfl ?_ | refine pick_df (not_not_intro rfl) ?_
    first | refine pick_dt (by first | assumption | omega) ?_ | refine pick_df (by first | assumption | omega) ?_ | refine pick_t (by first | rfl | assumption) ?_ | refine pick_f (by first | rfl | assumption) ?_ | refine pick_dt rfl ?_ | refine pick_df (not_not_intro rfl) ?_
    first | refine pick_dt (by first | assumption | omega) ?_ | refine pick_df (by first | assumption | omega) ?_ | refine pick_t (by first | rfl | assumption) ?_ | refine pick_f (by first | rfl | assumption) ?_ | refine pick_dt rfl ?_ | refine pick_df (not_not_intro rfl) ?_
    exact leaf _ hS true ⟨fun _ hc => h3 hc.2.1, fun _ => rfl⟩
  have h3 := Classical.not_not.1 h3
  have h3' := h3
  unfold in40 at h3'
  first | refine valP_ok (fa67_1 _ _) ?_ | refine valP_ok (fao67_1 _ _ _) ?_
  first | refine valP_ok (ld3 (hS.cell 0 rfl rfl)) ?_ | refine valP_ok (ld3 (hS.cell 1 rfl rfl)) ?_ | refine valP_ok (ld3 (hS.cell 2 rfl rfl)) ?_ | refine valP_ok (ld3 (hS.cell 3 rfl rfl)) ?_ | refine valP_ok (ld3 (hS.cell 4 rfl rfl)) ?_ | refine valP_ok (ld3 (hS.cell 5 rfl rfl)) ?_ | refine valP_ok (ld3 (hS.cell 6 rfl rfl)) ?_ | refine valP_ok (ld3 (hS.cell 7 rfl rfl)) ?_ | refine valP_ok (ld3 (by assumption)) ?_
  first | refine valP_ok (fa23_1 _ _) ?_ | refine valP_ok (fao23_1 _ _ _) ?_
  first | refine valP_ok (ld3 (hS.cell 0 rfl rfl)) ?_ | refine valP_ok (ld3 (hS.cell 1 rfl rfl)) ?_ | refine valP_ok (ld3 (hS.cell 2 rfl rfl)) ?_ | refine valP_ok (ld3 (hS.cell 3 rfl rfl)) ?_ | refine valP_ok (ld3 (hS.cell 4 rfl rfl)) ?_ | refine valP_ok (ld3 (hS.cell 5 rfl rfl)) ?_ | refine valP_ok (ld3 (hS.cell 6 rfl rfl)) ?_ | refine valP_ok (ld3 (hS.cell 7 rfl rfl)) ?_ | refine valP_ok (ld3 (by assumption)) ?_
  refine valP_ok (rem_ok _ _ _ (by omega) (by omega) (by omega) _) ?_
  refine valP_ok (ne3 _ _ _ _ _) ?_
  first | refine pick_dt (by first | assumption | omega) ?_ | refine pick_df (by first | assumption | omega) ?_ | refine pick_t (by first | rfl | assumption) ?_ | refine pick_f (by first | rfl | assumption) ?_ | refine pick_dt rfl ?_ | refine pick_df (not_not_intro rfl) ?_
  refine cond_split (fun h4 => ?_) (fun h4 => ?_)
  · first | refine pick_dt (by first | assumption | omega) ?_ | refine pick_df (by first | assumption | omega) ?_ | refine pick_t (by first | rfl | assumption) ?_ | refine pick_f (by first | rfl | assumption) ?_ | refine pick_dt rfl ?_ | refine pick_df (not_not_intro rfl) ?_
    first | refine pick_dt (by first | assumption | omega) ?_ | refine pick_df (by first | assumption | omega) ?_ | refine pick_t (by first | rfl | assumption) ?_ | refine pick_f (by first | rfl | assumption) ?_ | refine pick_dt rfl ?_ | refine pick_df (not_not_intro rfl) ?_
    first | refine pick_dt (by first | assumption | omega) ?_ | refine pick_df (by first | assumption | omega) ?_ | refine pick_t (by first | rfl | assumption) ?_ | refine pick_f (by first | rfl | assumption) ?_ | refine pick_dt rfl ?_ | refine pick_df (not_not_intro rfl) ?_
    exact leaf _ hS true ⟨fun _ hc => h4 hc.2.2.1, fun _ => rfl⟩
  have h4 := Classical.not_not.1 h4
  first | refine valP_ok (fa67_1 _ _) ?_ | refine valP_ok (fao67_1 _ _ _) ?_
  first | refine valP_ok (ld3 (hS.cell 0 rfl rfl)) ?_ | refine valP_ok (ld3 (hS.cell 1 rfl rfl)) ?_ | refine valP_ok (ld3 (hS.cell 2 rfl rfl)) ?_ | refine valP_ok (ld3 (hS.cell 3 rfl rfl)) ?_ | refine valP_ok (ld3 (hS.cell 4 rfl rfl)) ?_ | refine valP_ok (ld3 (hS.cell 5 rfl rfl)) ?_ | refine valP_ok (ld3 (hS.cell 6 rfl rfl)) ?_ | refine valP_ok (ld3 (hS.cell 7 rfl rfl)) ?_ | refine valP_ok (ld3 (by assumption)) ?_
  first | refine valP_ok (fa28_0 _ _) ?_ | refine valP_ok (fao28_0 _ _ _) ?_
  first | refine valP_ok (ld3 (hS.cell 0 rfl rfl)) ?_ | refine valP_ok (ld3 (hS.cell 1 rfl rfl)) ?_ | refine valP_ok (ld3 (hS.cell 2 rfl rfl)) ?_ | refine valP_ok (ld3 (hS.cell 3 rfl rfl)) ?_ | refine valP_ok (ld3 (hS.cell 4 rfl rfl)) ?_ | refine valP_ok (ld3 (hS.cell 5 rfl rfl)) ?_ | refine valP_ok (ld3 (hS.cell 6 rfl rfl)) ?_ | refine valP_ok (ld3 (hS.cell 7 rfl rfl)) ?_ | refine valP_ok (ld3 (by assumption)) ?_
  refine valP_ok (gtr_ok _ _ _ _ _ _ _) ?_
  first | refine pick_dt (by first | assumption | omega) ?_ | refine pick_df (by first | assumption | omega) ?_ | refine pick_t (by first | rfl | assumption) ?_ | refine pick_f (by first | rfl | assumption) ?_ | refine pick_dt rfl ?_ | refine pick_df (not_not_intro rfl) ?_
  refine cond_split (fun h5 => ?_) (fun h5 => ?_)
  · first | refine pick_dt (by first | assumption | omega) ?_ | refine pick_df (by first | assumption | omega) ?_ | refine pick_t (by first | rfl | assumption) ?_ | refine pick_f (by first | rfl | assumption) ?_ | refine pick_dt rfl ?_ | refine pick_df (not_not_intro rfl) ?_
    first | refine pick_dt (by first | assumption | omega) ?_ | refine pick_df (by first | assumption | omega) ?_ | refine pick_t (by first | rfl | assumption) ?_ | refine pick_f (by first | rfl | assumption) ?_ | refine pick_dt rfl ?_ | refine pick_df (not_not_intro rfl) ?_
    exact leaf _ hS true ⟨fun _ hc => (by have := hc.2.2.2.1; omega), fun _ => rfl⟩
  first | refine ls23 0 hS rfl ?_ | refine ls23 1 hS rfl ?_ | refine ls23 2 hS rfl ?_ | refine ls23 3 hS rfl ?_ | refine ls23 4 hS rfl ?_ | refine ls23 5 hS rfl ?_ | refine ls23 6 hS rfl ?_ | refine ls23 7 hS rfl ?_ | refine valP_ok (ld23 (by assumption) (by assumption) (by assumption)) ?_
  first | refine valP_ok (fa67_1 _ _) ?_ | refine valP_ok (fao67_1 _ _ _) ?_
  first | refine valP_ok (ld3 (hS.cell 0 rfl rfl)) ?_ | refine valP_ok (ld3 (hS.cell 1 rfl rfl)) ?_ | refine valP_ok (ld3 (hS.cell 2 rfl rfl)) ?_ | refine valP_ok (ld3 (hS.cell 3 rfl rfl)) ?_ | refine valP_ok (ld3 (hS.cell 4 rfl rfl)) ?_ | refine valP_ok (ld3 (hS.cell 5 rfl rfl)) ?_ | refine valP_ok (ld3 (hS.cell 6 rfl rfl)) ?_ | refine valP_ok (ld3 (hS.cell 7 rfl rfl)) ?_ | refine valP_ok (ld3 (by assumption)) ?_
  first | refine valP_ok (fa28_0 _ _) ?_ | refine valP_ok (fao28_0 _ _ _) ?_
  first | refine valP_ok (ld3 (hS.cell 0 rfl rfl)) ?_ | refine valP_ok (ld3 (hS.cell 1 rfl rfl)) ?_ | refine valP_ok (ld3 (hS.cell 2 rfl rfl)) ?_ | refine valP_ok (ld3 (hS.cell 3 rfl rfl)) ?_ | refine valP_ok (ld3 (hS.cell 4 rfl rfl)) ?_ | refine valP_ok (ld3 (hS.cell 5 rfl rfl)) ?_ | refine valP_ok (ld3 (hS.cell 6 rfl rfl)) ?_ | refine valP_ok (ld3 (hS.cell 7 rfl rfl)) ?_ | refine valP_ok (ld3 (by assumption)) ?_
  refine callR (by kernel_rfl) (closed_ret (by omega) hS) ?_
  rintro _ w ⟨⟨t, rfl, ht⟩, hS⟩
  first | refine pick_dt (by first | assumption | omega) ?_ | refine pick_df (by first | assumption | omega) ?_ | refine pick_t (by first | rfl | assumption) ?_ | refine pick_f (by first | rfl | assumption) ?_ | refine pick_dt rfl ?_ | refine pick_df (not_not_intro rfl) ?_
  cases t with
  | true =>
    refine cond_t rfl ?_
    first | refine pick_dt (by first | assumption | omega) ?_ | refine pick_df (by first | assumption | omega) ?_ | refine pick_t (by first | rfl | assumption) ?_ | refine pick_f (by first | rfl | assumption) ?_ | refine pick_dt rfl ?_ | refine pick_df (not_not_intro rfl) ?_
    exact leaf _ hS true ⟨fun _ hc => hc.2.2.2.2.1 (ht.1 rfl), fun _ => rfl⟩
  | false =>
    have h6 : ¬ ClosedG g s.L[i].start s.mark := fun h => by have := ht.2 h; cases this
    refine cond_f rfl ?_
    first | refine valP_ok (fa67_2 _ _) ?_ | refine valP_ok (fao67_2 _ _ _) ?_
    refine valP_ok (ldA 0 hS rfl) ?_
    refine callR (by kernel_rfl) (maya_ret hS) ?_
    rintro _ w ⟨⟨t2, rfl, ht2⟩, hS⟩
    first | refine valP_ok (not_ok _ _) ?_ | refine valP_ok (notb_ok _ _) ?_
    first | refine pick_dt (by first | assumption | omega) ?_ | refine pick_df (by first | assumption | omega) ?_ | refine pick_t (by first | rfl | assumption) ?_ | refine pick_f (by first | rfl | assumption) ?_ | refine pick_dt rfl ?_ | refine pick_df (not_not_intro rfl) ?_
    refine leaf _ hS _ ?_
    unfold CeMay
    rw [Bool.not_eq_true', ← Bool.not_eq_true, ht2]
    exact ⟨fun h hc => h hc.2.2.2.2.2, fun h ha => h ⟨⟨by omega, by omega⟩, h3, h4, by omega, h6, ha⟩⟩
theorem may_16 (hE : Sl w0 F L A c s.L) (hS : St w0 F w (Res.cells b3 28 (encS s A c) :: Res.cells b2 23 (encGr g) :: L)) (t : Bool) (ht : t = true ↔ ¬ HdS g s) : m15_16 (MayR g s w0 F L) (.pointer (some ⟨b2, 0, none⟩)) (.pointer (some ⟨b3, 0, none⟩)) (.bool t) w := by
  unfold m15_16
  cases t with
  | true =>
    refine cond_t rfl ?_
    unfold m15_17
    exact ⟨⟨_, rfl, ⟨fun h => (by cases h), fun h => absurd h.1 (ht.1 rfl)⟩⟩, hS.tail.tail⟩
  | false =>
    have hd : HdS g s := Classical.byContradiction fun h => by have := ht.2 h; cases this
    have h64 := hd.2.2.2.2.2.2
    refine cond_f rfl ?_
    unfold m15_2 m15_5
    refine loop_in (fun u w' => ∃ i : Nat, u = .int .i64 (i : Int) ∧ i ≤ s.L.length ∧ (∀ j, j < i → GoodS g s j) ∧ St w0 F w' (Res.cells b3 28 (encS s A c) :: Res.cells b2 23 (encGr g) :: L)) (fun u _ => s.L.length - (intOf u).toNat) ⟨0, rfl, by omega, fun j h => by omega, hS⟩ ?_
    clear hS
    rintro u w ⟨i, rfl, hi, hno, hS⟩
    unfold m15_6
    first | refine valP_ok (fa28_4 _ _) ?_ | refine valP_ok (fao28_4 _ _ _) ?_
    first | refine valP_ok (ld26 (hS.cell 0 rfl rfl)) ?_ | refine valP_ok (ld26 (hS.cell 1 rfl rfl)) ?_ | refine valP_ok (ld26 (hS.cell 2 rfl rfl)) ?_ | refine valP_ok (ld26 (hS.cell 3 rfl rfl)) ?_ | refine valP_ok (ld26 (hS.cell 4 rfl rfl)) ?_ | refine valP_ok (ld26 (hS.cell 5 rfl rfl)) ?_ | refine valP_ok (ld26 (hS.cell 6 rfl rfl)) ?_ | refine valP_ok (ld26 (hS.cell 7 rfl rfl)) ?_ | refine valP_ok (ld26 (by assumption)) ?_
    refine builtin_ok (len26 _) ?_
    refine valP_ok (lss_ok _ _ _ _ _ _ _) ?_
    unfold m15_15
    refine cond_split (fun h => ?_) (fun h => ?_)
    · have hil : i < s.L.length := by omega
      have hE2 := (hE.cons (Res.cells b2 23 (encGr g))).cons (Res.cells b3 28 (encS s A c))
      obtain ⟨gb, o, rfl⟩ := (hE2.rd.rd hS).some_ (by omega) (by omega)
      unfold m15_7
      first | refine valP_ok (fa28_4 _ _) ?_ | refine valP_ok (fao28_4 _ _ _) ?_
      first | refine valP_ok (ld26 (hS.cell 0 rfl rfl)) ?_ | refine valP_ok (ld26 (hS.cell 1 rfl rfl)) ?_ | refine valP_ok (ld26 (hS.cell 2 rfl rfl)) ?_ | refine valP_ok (ld26 (hS.cell 3 rfl rfl)) ?_ | refine valP_ok (ld26 (hS.cell 4 rfl rfl)) ?_ | refine valP_ok (ld26 (hS.cell 5 rfl rfl)) ?_ | refine valP_ok (ld26 (hS.cell 6 rfl rfl)) ?_ | refine valP_ok (ld26 (hS.cell 7 rfl rfl)) ?_ | refine valP_ok (ld26 (by assumption)) ?_
      first | refine valP_ok (ixz26 (by first | assumption | omega) _) ?_ | refine valP_ok (ix26 (by first | assumption | omega) _) ?_
      refine valP_ok (ldC (hE2.rd.rd hS) hil) ?_
      refine new_ok (al67 _) hS ?_
      intro b6 w hS
      first | refine ss67 0 hS rfl rfl rfl rfl rfl rfl rfl rfl rfl rfl rfl rfl rfl ?_ | refine ss67 1 hS rfl rfl rfl rfl rfl rfl rfl rfl rfl rfl rfl rfl rfl ?_ | refine ss67 2 hS rfl rfl rfl rfl rfl rfl rfl rfl rfl rfl rfl rfl rfl ?_ | refine ss67 3 hS rfl rfl rfl rfl rfl rfl rfl rfl rfl rfl rfl rfl rfl ?_ | refine ss67 4 hS rfl rfl rfl rfl rfl rfl rfl rfl rfl rfl rfl rfl rfl ?_ | refine ss67 5 hS rfl rfl rfl rfl rfl rfl rfl rfl rfl rfl rfl rfl rfl ?_ | refine ss67 6 hS rfl rfl rfl rfl rfl rfl rfl rfl rfl rfl rfl rfl rfl ?_ | refine ss67 7 hS rfl rfl rfl rfl rfl rfl rfl rfl rfl rfl rfl rfl rfl ?_
      intro w hS
      simp only [List.set_cons_zero, List.set_cons_succ] at hS
      refine may_9 hd hE hil (fun w hg hS => ⟨⟨i + 1, rfl, by omega, fun j hj => ?_, hS⟩, by simp [intOf]; omega⟩) hS
      rcases Nat.lt_or_ge j i with g1 | g1
      · exact hno j g1
      · obtain rfl : j = i := by omega
        exact hg
    · obtain rfl : i = s.L.length := by omega
      unfold m15_3 m15_4
      exact ⟨⟨_, rfl, ⟨fun _ => ⟨hd, fun j hj => hno j hj hj⟩, fun _ => rfl⟩⟩, hS.tail.tail⟩
theorem mays_ret (hE : Sl w0 F L A c s.L) (hS : St w0 F w L) : Ret Try.prog 15 #[grv g, sgv s A c] w (MayR g s w0 F L) := by
  refine s15 _ _ ?_
  unfold m15
  unfold m15_0
  refine new_ok (bx23 _ _ _ _) hS ?_
  intro b2 w hS
  refine new_ok (bx28 _ _ _ _ _ _) hS ?_
  intro b3 w hS
  have leaf := fun w hS t ht => may_16 (w := w) (b2 := b2) (b3 := b3) (g := g) hE hS t ht
  unfold m15_1
  first | refine ls23 0 hS rfl ?_ | refine ls23 1 hS rfl ?_ | refine ls23 2 hS rfl ?_ | refine ls23 3 hS rfl ?_ | refine ls23 4 hS rfl ?_ | refine ls23 5 hS rfl ?_ | refine ls23 6 hS rfl ?_ | refine ls23 7 hS rfl ?_ | refine valP_ok (ld23 (by assumption) (by assumption) (by assumption)) ?_
  refine callR (by kernel_rfl) (gmay_ret hS) ?_
  rintro _ w ⟨⟨t, rfl, ht⟩, hS⟩
  first | refine valP_ok (not_ok _ _) ?_ | refine valP_ok (notb_ok _ _) ?_
  cases t with
  | false =>
    refine cond_t rfl ?_
    first | refine pick_dt (by first | assumption | omega) ?_ | refine pick_df (by first | assumption | omega) ?_ | refine pick_t (by first | rfl | assumption) ?_ | refine pick_f (by first | rfl | assumption) ?_ | refine pick_dt rfl ?_ | refine pick_df (not_not_intro rfl) ?_
    first | refine pick_dt (by first | assumption | omega) ?_ | refine pick_df (by first | assumption | omega) ?_ | refine pick_t (by first | rfl | assumption) ?_ | refine pick_f (by first | rfl | assumption) ?_ | refine pick_dt rfl ?_ | refine pick_df (not_not_intro rfl) ?_
    first | refine pick_dt (by first | assumption | omega) ?_ | refine pick_df (by first | assumption | omega) ?_ | refine pick_t (by first | rfl | assumption) ?_ | refine pick_f (by first | rfl | assumption) ?_ | refine pick_dt rfl ?_ | refine pick_df (not_not_intro rfl) ?_
    first | refine pick_dt (by first | assumption | omega) ?_ | refine pick_df (by first | assumption | omega) ?_ | refine pick_t (by first | rfl | assumption) ?_ | refine pick_f (by first | rfl | assumption) ?_ | refine pick_dt rfl ?_ | refine pick_df (not_not_intro rfl) ?_
    first | refine pick_dt (by first | assumption | omega) ?_ | refine pick_df (by first | assumption | omega) ?_ | refine pick_t (by first | rfl | assumption) ?_ | refine pick_f (by first | rfl | assumption) ?_ | refine pick_dt rfl ?_ | refine pick_df (not_not_intro rfl) ?_
    first | refine pick_dt (by first | assumption | omega) ?_ | refine pick_df (by first | assumption | omega) ?_ | refine pick_t (by first | rfl | assumption) ?_ | refine pick_f (by first | rfl | assumption) ?_ | refine pick_dt rfl ?_ | refine pick_df (not_not_intro rfl) ?_
    exact leaf _ hS true ⟨fun _ hd => (by have := ht.2 hd.1; cases this), fun _ => rfl⟩
  | true =>
    have hg := ht.1 rfl
    refine cond_f rfl ?_
    first | refine valP_ok (fa28_0 _ _) ?_ | refine valP_ok (fao28_0 _ _ _) ?_
    first | refine valP_ok (ld3 (hS.cell 0 rfl rfl)) ?_ | refine valP_ok (ld3 (hS.cell 1 rfl rfl)) ?_ | refine valP_ok (ld3 (hS.cell 2 rfl rfl)) ?_ | refine valP_ok (ld3 (hS.cell 3 rfl rfl)) ?_ | refine valP_ok (ld3 (hS.cell 4 rfl rfl)) ?_ | refine valP_ok (ld3 (hS.cell 5 rfl rfl)) ?_ | refine valP_ok (ld3 (hS.cell 6 rfl rfl)) ?_ | refine valP_ok (ld3 (hS.cell 7 rfl rfl)) ?_ | refine valP_ok (ld3 (by assumption)) ?_
    refine valP_ok (ne3 _ _ _ _ _) ?_
    refine cond_split (fun hm => ?_) (fun hm => ?_)
    · first | refine valP_ok (fa28_0 _ _) ?_ | refine valP_ok (fao28_0 _ _ _) ?_
      first | refine valP_ok (ld3 (hS.cell 0 rfl rfl)) ?_ | refine valP_ok (ld3 (hS.cell 1 rfl rfl)) ?_ | refine valP_ok (ld3 (hS.cell 2 rfl rfl)) ?_ | refine valP_ok (ld3 (hS.cell 3 rfl rfl)) ?_ | refine valP_ok (ld3 (hS.cell 4 rfl rfl)) ?_ | refine valP_ok (ld3 (hS.cell 5 rfl rfl)) ?_ | refine valP_ok (ld3 (hS.cell 6 rfl rfl)) ?_ | refine valP_ok (ld3 (hS.cell 7 rfl rfl)) ?_ | refine valP_ok (ld3 (by assumption)) ?_
      refine callR (by kernel_rfl) (in_ret hS) ?_
      rintro _ w ⟨rfl, hS⟩
      first | refine valP_ok (not_ok _ _) ?_ | refine valP_ok (notb_ok _ _) ?_
      first | refine pick_dt (by first | assumption | omega) ?_ | refine pick_df (by first | assumption | omega) ?_ | refine pick_t (by first | rfl | assumption) ?_ | refine pick_f (by first | rfl | assumption) ?_ | refine pick_dt rfl ?_ | refine pick_df (not_not_intro rfl) ?_
      first | refine pick_dt (by first | assumption | omega) ?_ | refine pick_df (by first | assumption | omega) ?_ | refine pick_t (by first | rfl | assumption) ?_ | refine pick_f (by first | rfl | assumption) ?_ | refine pick_dt rfl ?_ | refine pick_df (not_not_intro rfl) ?_
      refine cond_split (fun hm2 => ?_) (fun hm2 => ?_)
      · first | refine pick_dt (by first | assumption | omega) ?_ | refine pick_df (by first | assumption | omega) ?_ | refine pick_t (by first | rfl | assumption) ?_ | refine pick_f (by first | rfl | assumption) ?_ | refine pick_dt rfl ?_ | refine pick_df (not_not_intro rfl) ?_
        first | refine pick_dt (by first | assumption | omega) ?_ | refine pick_df (by first | assumption | omega) ?_ | refine pick_t (by first | rfl | assumption) ?_ | refine pick_f (by first | rfl | assumption) ?_ | refine pick_dt rfl ?_ | refine pick_df (not_not_intro rfl) ?_
        first | refine pick_dt (by first | assumption | omega) ?_ | refine pick_df (by first | assumption | omega) ?_ | refine pick_t (by first | rfl | assumption) ?_ | refine pick_f (by first | rfl | assumption) ?_ | refine pick_dt rfl ?_ | refine pick_df (not_not_intro rfl) ?_
        first | refine pick_dt (by first | assumption | omega) ?_ | refine pick_df (by first | assumption | omega) ?_ | refine pick_t (by first | rfl | assumption) ?_ | refine pick_f (by first | rfl | assumption) ?_ | refine pick_dt rfl ?_ | refine pick_df (not_not_intro rfl) ?_
        first | refine pick_dt (by first | assumption | omega) ?_ | refine pick_df (by first | assumption | omega) ?_ | refine pick_t (by first | rfl | assumption) ?_ | refine pick_f (by first | rfl | assumption) ?_ | refine pick_dt rfl ?_ | refine pick_df (not_not_intro rfl) ?_
        exact leaf _ hS true ⟨fun _ hd => hd.2.1.elim hm hm2, fun _ => rfl⟩
      have hm' : s.mark = -1 ∨ in40 s.mark := .inr (Classical.not_not.1 hm2)
      first | refine valP_ok (fa28_1 _ _) ?_ | refine valP_ok (fao28_1 _ _ _) ?_
      first | refine valP_ok (ld3 (hS.cell 0 rfl rfl)) ?_ | refine valP_ok (ld3 (hS.cell 1 rfl rfl)) ?_ | refine valP_ok (ld3 (hS.cell 2 rfl rfl)) ?_ | refine valP_ok (ld3 (hS.cell 3 rfl rfl)) ?_ | refine valP_ok (ld3 (hS.cell 4 rfl rfl)) ?_ | refine valP_ok (ld3 (hS.cell 5 rfl rfl)) ?_ | refine valP_ok (ld3 (hS.cell 6 rfl rfl)) ?_ | refine valP_ok (ld3 (hS.cell 7 rfl rfl)) ?_ | refine valP_ok (ld3 (by assumption)) ?_
      refine callR (by kernel_rfl) (in_ret hS) ?_
      rintro _ w ⟨rfl, hS⟩
      first | refine valP_ok (not_ok _ _) ?_ | refine valP_ok (notb_ok _ _) ?_
      first | refine pick_dt (by first | assumption | omega) ?_ | refine pick_df (by first | assumption | omega) ?_ | refine pick_t (by first | rfl | assumption) ?_ | refine pick_f (by first | rfl | assumption) ?_ | refine pick_dt rfl ?_ | refine pick_df (not_not_intro rfl) ?_
      refine cond_split (fun h1 => ?_) (fun h1 => ?_)
      · first | refine pick_dt (by first | assumption | omega) ?_ | refine pick_df (by first | assumption | omega) ?_ | refine pick_t (by first | rfl | assumption) ?_ | refine pick_f (by first | rfl | assumption) ?_ | refine pick_dt rfl ?_ | refine pick_df (not_not_intro rfl) ?_
        first | refine pick_dt (by first | assumption | omega) ?_ | refine pick_df (by first | assumption | omega) ?_ | refine pick_t (by first | rfl | assumption) ?_ | refine pick_f (by first | rfl | assumption) ?_ | refine pick_dt rfl ?_ | refine pick_df (not_not_intro rfl) ?_
        first | refine pick_dt (by first | assumption | omega) ?_ | refine pick_df (by first | assumption | omega) ?_ | refine pick_t (by first | rfl | assumption) ?_ | refine pick_f (by first | rfl | assumption) ?_ | refine pick_dt rfl ?_ | refine pick_df (not_not_intro rfl) ?_
        first | refine pick_dt (by first | assumption | omega) ?_ | refine pick_df (by first | assumption | omega) ?_ | refine pick_t (by first | rfl | assumption) ?_ | refine pick_f (by first | rfl | assumption) ?_ | refine pick_dt rfl ?_ | refine pick_df (not_not_intro rfl) ?_
        exact leaf _ hS true ⟨fun _ hd => h1 hd.2.2.1, fun _ => rfl⟩
      have h1 := Classical.not_not.1 h1
      first | refine valP_ok (fa28_2 _ _) ?_ | refine valP_ok (fao28_2 _ _ _) ?_
      first | refine valP_ok (ld3 (hS.cell 0 rfl rfl)) ?_ | refine valP_ok (ld3 (hS.cell 1 rfl rfl)) ?_ | refine valP_ok (ld3 (hS.cell 2 rfl rfl)) ?_ | refine valP_ok (ld3 (hS.cell 3 rfl rfl)) ?_ | refine valP_ok (ld3 (hS.cell 4 rfl rfl)) ?_ | refine valP_ok (ld3 (hS.cell 5 rfl rfl)) ?_ | refine valP_ok (ld3 (hS.cell 6 rfl rfl)) ?_ | refine valP_ok (ld3 (hS.cell 7 rfl rfl)) ?_ | refine valP_ok (ld3 (by assumption)) ?_
      refine callR (by kernel_rfl) (in_ret hS) ?_
      rintro _ w ⟨rfl, hS⟩
      first | refine valP_ok (not_ok _ _) ?_ | refine valP_ok (notb_ok _ _) ?_
      first | refine pick_dt (by first | assumption | omega) ?_ | refine pick_df (by first | assumption | omega) ?_ | refine pick_t (by first | rfl | assumption) ?_ | refine pick_f (by first | rfl | assumption) ?_ | refine pick_dt rfl ?_ | refine pick_df (not_not_intro rfl) ?_
      refine cond_split (fun h2 => ?_) (fun h2 => ?_)
      · first | refine pick_dt (by first | assumption | omega) ?_ | refine pick_df (by first | assumption | omega) ?_ | refine pick_t (by first | rfl | assumption) ?_ | refine pick_f (by first | rfl | assumption) ?_ | refine pick_dt rfl ?_ | refine pick_df (not_not_intro rfl) ?_
        first | refine pick_dt (by first | assumption | omega) ?_ | refine pick_df (by first | assumption | omega) ?_ | refine pick_t (by first | rfl | assumption) ?_ | refine pick_f (by first | rfl | assumption) ?_ | refine pick_dt rfl ?_ | refine pick_df (not_not_intro rfl) ?_
        first | refine pick_dt (by first | assumption | omega) ?_ | refine pick_df (by first | assumption | omega) ?_ | refine pick_t (by first | rfl | assumption) ?_ | refine pick_f (by first | rfl | assumption) ?_ | refine pick_dt rfl ?_ | refine pick_df (not_not_intro rfl) ?_
        exact leaf _ hS true ⟨fun _ hd => h2 hd.2.2.2.1, fun _ => rfl⟩
      have h2 := Classical.not_not.1 h2
      first | refine valP_ok (fa28_3 _ _) ?_ | refine valP_ok (fao28_3 _ _ _) ?_
      first | refine valP_ok (ld3 (hS.cell 0 rfl rfl)) ?_ | refine valP_ok (ld3 (hS.cell 1 rfl rfl)) ?_ | refine valP_ok (ld3 (hS.cell 2 rfl rfl)) ?_ | refine valP_ok (ld3 (hS.cell 3 rfl rfl)) ?_ | refine valP_ok (ld3 (hS.cell 4 rfl rfl)) ?_ | refine valP_ok (ld3 (hS.cell 5 rfl rfl)) ?_ | refine valP_ok (ld3 (hS.cell 6 rfl rfl)) ?_ | refine valP_ok (ld3 (hS.cell 7 rfl rfl)) ?_ | refine valP_ok (ld3 (by assumption)) ?_
      refine callR (by kernel_rfl) (in_ret hS) ?_
      rintro _ w ⟨rfl, hS⟩
      first | refine valP_ok (not_ok _ _) ?_ | refine valP_ok (notb_ok _ _) ?_
      first | refine pick_dt (by first | assumption | omega) ?_ | refine pick_df (by first | assumption | omega) ?_ | refine pick_t (by first | rfl | assumption) ?_ | refine pick_f (by first | rfl | assumption) ?_ | refine pick_dt rfl ?_ | refine pick_df (not_not_intro rfl) ?_
      refine cond_split (fun h3 => ?_) (fun h3 => ?_)
      · first | refine pick_dt (by first | assumption | omega) ?_ | refine pick_df (by first | assumption | omega) ?_ | refine pick_t (by first | rfl | assumption) ?_ | refine pick_f (by first | rfl | assumption) ?_ | refine pick_dt rfl ?_ | refine pick_df (not_not_intro rfl) ?_
        first | refine pick_dt (by first | assumption | omega) ?_ | refine pick_df (by first | assumption | omega) ?_ | refine pick_t (by first | rfl | assumption) ?_ | refine pick_f (by first | rfl | assumption) ?_ | refine pick_dt rfl ?_ | refine pick_df (not_not_intro rfl) ?_
        exact leaf _ hS true ⟨fun _ hd => h3 hd.2.2.2.2.1, fun _ => rfl⟩
      have h3 := Classical.not_not.1 h3
      have h1' := h1
      have h2' := h2
      unfold in40 at h1' h2'
      first | refine valP_ok (fa28_1 _ _) ?_ | refine valP_ok (fao28_1 _ _ _) ?_
      first | refine valP_ok (ld3 (hS.cell 0 rfl rfl)) ?_ | refine valP_ok (ld3 (hS.cell 1 rfl rfl)) ?_ | refine valP_ok (ld3 (hS.cell 2 rfl rfl)) ?_ | refine valP_ok (ld3 (hS.cell 3 rfl rfl)) ?_ | refine valP_ok (ld3 (hS.cell 4 rfl rfl)) ?_ | refine valP_ok (ld3 (hS.cell 5 rfl rfl)) ?_ | refine valP_ok (ld3 (hS.cell 6 rfl rfl)) ?_ | refine valP_ok (ld3 (hS.cell 7 rfl rfl)) ?_ | refine valP_ok (ld3 (by assumption)) ?_
      first | refine valP_ok (fa28_2 _ _) ?_ | refine valP_ok (fao28_2 _ _ _) ?_
      first | refine valP_ok (ld3 (hS.cell 0 rfl rfl)) ?_ | refine valP_ok (ld3 (hS.cell 1 rfl rfl)) ?_ | refine valP_ok (ld3 (hS.cell 2 rfl rfl)) ?_ | refine valP_ok (ld3 (hS.cell 3 rfl rfl)) ?_ | refine valP_ok (ld3 (hS.cell 4 rfl rfl)) ?_ | refine valP_ok (ld3 (hS.cell 5 rfl rfl)) ?_ | refine valP_ok (ld3 (hS.cell 6 rfl rfl)) ?_ | refine valP_ok (ld3 (hS.cell 7 rfl rfl)) ?_ | refine valP_ok (ld3 (by assumption)) ?_
      refine valP_ok (add_ok _ _ _ (by omega) (by omega) _) ?_
      first | refine valP_ok (fa28_3 _ _) ?_ | refine valP_ok (fao28_3 _ _ _) ?_
      first | refine valP_ok (ld3 (hS.cell 0 rfl rfl)) ?_ | refine valP_ok (ld3 (hS.cell 1 rfl rfl)) ?_ | refine valP_ok (ld3 (hS.cell 2 rfl rfl)) ?_ | refine valP_ok (ld3 (hS.cell 3 rfl rfl)) ?_ | refine valP_ok (ld3 (hS.cell 4 rfl rfl)) ?_ | refine valP_ok (ld3 (hS.cell 5 rfl rfl)) ?_ | refine valP_ok (ld3 (hS.cell 6 rfl rfl)) ?_ | refine valP_ok (ld3 (hS.cell 7 rfl rfl)) ?_ | refine valP_ok (ld3 (by assumption)) ?_
      refine valP_ok (gtr_ok _ _ _ _ _ _ _) ?_
      first | refine pick_dt (by first | assumption | omega) ?_ | refine pick_df (by first | assumption | omega) ?_ | refine pick_t (by first | rfl | assumption) ?_ | refine pick_f (by first | rfl | assumption) ?_ | refine pick_dt rfl ?_ | refine pick_df (not_not_intro rfl) ?_
      refine cond_split (fun h4 => ?_) (fun h4 => ?_)
      · first | refine pick_dt (by first | assumption | omega) ?_ | refine pick_df (by first | assumption | omega) ?_ | refine pick_t (by first | rfl | assumption) ?_ | refine pick_f (by first | rfl | assumption) ?_ | refine pick_dt rfl ?_ | refine pick_df (not_not_intro rfl) ?_
        exact leaf _ hS true ⟨fun _ hd => (by have := hd.2.2.2.2.2.1; omega), fun _ => rfl⟩
      first | refine valP_ok (fa28_4 _ _) ?_ | refine valP_ok (fao28_4 _ _ _) ?_
      first | refine valP_ok (ld26 (hS.cell 0 rfl rfl)) ?_ | refine valP_ok (ld26 (hS.cell 1 rfl rfl)) ?_ | refine valP_ok (ld26 (hS.cell 2 rfl rfl)) ?_ | refine valP_ok (ld26 (hS.cell 3 rfl rfl)) ?_ | refine valP_ok (ld26 (hS.cell 4 rfl rfl)) ?_ | refine valP_ok (ld26 (hS.cell 5 rfl rfl)) ?_ | refine valP_ok (ld26 (hS.cell 6 rfl rfl)) ?_ | refine valP_ok (ld26 (hS.cell 7 rfl rfl)) ?_ | refine valP_ok (ld26 (by assumption)) ?_
      refine builtin_ok (len26 _) ?_
      refine valP_ok (gtr_ok _ _ _ _ _ _ _) ?_
      first | refine pick_dt (by first | assumption | omega) ?_ | refine pick_df (by first | assumption | omega) ?_ | refine pick_t (by first | rfl | assumption) ?_ | refine pick_f (by first | rfl | assumption) ?_ | refine pick_dt rfl ?_ | refine pick_df (not_not_intro rfl) ?_
      refine leaf _ hS _ ?_
      rw [decide_eq_true_eq]
      exact ⟨fun h hd => (by have := hd.2.2.2.2.2.2; omega), fun h => Classical.byContradiction fun hn => h ⟨hg, hm', h1, h2, h3, by omega, by omega⟩⟩
    · have hm' : s.mark = -1 ∨ in40 s.mark := .inl (Classical.not_not.1 hm)
      first | refine pick_dt (by first | assumption | omega) ?_ | refine pick_df (by first | assumption | omega) ?_ | refine pick_t (by first | rfl | assumption) ?_ | refine pick_f (by first | rfl | assumption) ?_ | refine pick_dt rfl ?_ | refine pick_df (not_not_intro rfl) ?_
      first | refine pick_dt (by first | assumption | omega) ?_ | refine pick_df (by first | assumption | omega) ?_ | refine pick_t (by first | rfl | assumption) ?_ | refine pick_f (by first | rfl | assumption) ?_ | refine pick_dt rfl ?_ | refine pick_df (not_not_intro rfl) ?_
      first | refine valP_ok (fa28_1 _ _) ?_ | refine valP_ok (fao28_1 _ _ _) ?_
      first | refine valP_ok (ld3 (hS.cell 0 rfl rfl)) ?_ | refine valP_ok (ld3 (hS.cell 1 rfl rfl)) ?_ | refine valP_ok (ld3 (hS.cell 2 rfl rfl)) ?_ | refine valP_ok (ld3 (hS.cell 3 rfl rfl)) ?_ | refine valP_ok (ld3 (hS.cell 4 rfl rfl)) ?_ | refine valP_ok (ld3 (hS.cell 5 rfl rfl)) ?_ | refine valP_ok (ld3 (hS.cell 6 rfl rfl)) ?_ | refine valP_ok (ld3 (hS.cell 7 rfl rfl)) ?_ | refine valP_ok (ld3 (by assumption)) ?_
      refine callR (by kernel_rfl) (in_ret hS) ?_
      rintro _ w ⟨rfl, hS⟩
      first | refine valP_ok (not_ok _ _) ?_ | refine valP_ok (notb_ok _ _) ?_
      first | refine pick_dt (by first | assumption | omega) ?_ | refine pick_df (by first | assumption | omega) ?_ | refine pick_t (by first | rfl | assumption) ?_ | refine pick_f (by first | rfl | assumption) ?_ | refine pick_dt rfl ?_ | refine pick_df (not_not_intro rfl) ?_
      refine cond_split (fun h1 => ?_) (fun h1 => ?_)
      · first | refine pick_dt (by first | assumption | omega) ?_ | refine pick_df (by first | assumption | omega) ?_ | refine pick_t (by first | rfl | assumption) ?_ | refine pick_f (by first | rfl | assumption) ?_ | refine pick_dt rfl ?_ | refine pick_df (not_not_intro rfl) ?_
        first | refine pick_dt (by first | assumption | omega) ?_ | refine pick_df (by first | assumption | omega) ?_ | refine pick_t (by first | rfl | assumption) ?_ | refine pick_f (by first | rfl | assumption) ?_ | refine pick_dt rfl ?_ | refine pick_df (not_not_intro rfl) ?_
        first | refine pick_dt (by first | assumption | omega) ?_ | refine pick_df (by first | assumption | omega) ?_ | refine pick_t (by first | rfl | assumption) ?_ | refine pick_f (by first | rfl | assumption) ?_ | refine pick_dt rfl ?_ | refine pick_df (not_not_intro rfl) ?_
        first | refine pick_dt (by first | assumption | omega) ?_ | refine pick_df (by first | assumption | omega) ?_ | refine pick_t (by first | rfl | assumption) ?_ | refine pick_f (by first | rfl | assumption) ?_ | refine pick_dt rfl ?_ | refine pick_df (not_not_intro rfl) ?_
        exact leaf _ hS true ⟨fun _ hd => h1 hd.2.2.1, fun _ => rfl⟩
      have h1 := Classical.not_not.1 h1
      first | refine valP_ok (fa28_2 _ _) ?_ | refine valP_ok (fao28_2 _ _ _) ?_
      first | refine valP_ok (ld3 (hS.cell 0 rfl rfl)) ?_ | refine valP_ok (ld3 (hS.cell 1 rfl rfl)) ?_ | refine valP_ok (ld3 (hS.cell 2 rfl rfl)) ?_ | refine valP_ok (ld3 (hS.cell 3 rfl rfl)) ?_ | refine valP_ok (ld3 (hS.cell 4 rfl rfl)) ?_ | refine valP_ok (ld3 (hS.cell 5 rfl rfl)) ?_ | refine valP_ok (ld3 (hS.cell 6 rfl rfl)) ?_ | refine valP_ok (ld3 (hS.cell 7 rfl rfl)) ?_ | refine valP_ok (ld3 (by assumption)) ?_
      refine callR (by kernel_rfl) (in_ret hS) ?_
      rintro _ w ⟨rfl, hS⟩
      first | refine valP_ok (not_ok _ _) ?_ | refine valP_ok (notb_ok _ _) ?_
      first | refine pick_dt (by first | assumption | omega) ?_ | refine pick_df (by first | assumption | omega) ?_ | refine pick_t (by first | rfl | assumption) ?_ | refine pick_f (by first | rfl | assumption) ?_ | refine pick_dt rfl ?_ | refine pick_df (not_not_intro rfl) ?_
      refine cond_split (fun h2 => ?_) (fun h2 => ?_)
      · first | refine pick_dt (by first | assumption | omega) ?_ | refine pick_df (by first | assumption | omega) ?_ | refine pick_t (by first | rfl | assumption) ?_ | refine pick_f (by first | rfl | assumption) ?_ | refine pick_dt rfl ?_ | refine pick_df (not_not_intro rfl) ?_
        first | refine pick_dt (by first | assumption | omega) ?_ | refine pick_df (by first | assumption | omega) ?_ | refine pick_t (by first | rfl | assumption) ?_ | refine pick_f (by first | rfl | assumption) ?_ | refine pick_dt rfl ?_ | refine pick_df (not_not_intro rfl) ?_
        first | refine pick_dt (by first | assumption | omega) ?_ | refine pick_df (by first | assumption | omega) ?_ | refine pick_t (by first | rfl | assumption) ?_ | refine pick_f (by first | rfl | assumption) ?_ | refine pick_dt rfl ?_ | refine pick_df (not_not_intro rfl) ?_
        exact leaf _ hS true ⟨fun _ hd => h2 hd.2.2.2.1, fun _ => rfl⟩
      have h2 := Classical.not_not.1 h2
      first | refine valP_ok (fa28_3 _ _) ?_ | refine valP_ok (fao28_3 _ _ _) ?_
      first | refine valP_ok (ld3 (hS.cell 0 rfl rfl)) ?_ | refine valP_ok (ld3 (hS.cell 1 rfl rfl)) ?_ | refine valP_ok (ld3 (hS.cell 2 rfl rfl)) ?_ | refine valP_ok (ld3 (hS.cell 3 rfl rfl)) ?_ | refine valP_ok (ld3 (hS.cell 4 rfl rfl)) ?_ | refine valP_ok (ld3 (hS.cell 5 rfl rfl)) ?_ | refine valP_ok (ld3 (hS.cell 6 rfl rfl)) ?_ | refine valP_ok (ld3 (hS.cell 7 rfl rfl)) ?_ | refine valP_ok (ld3 (by assumption)) ?_
      refine callR (by kernel_rfl) (in_ret hS) ?_
      rintro _ w ⟨rfl, hS⟩
      first | refine valP_ok (not_ok _ _) ?_ | refine valP_ok (notb_ok _ _) ?_
      first | refine pick_dt (by first | assumption | omega) ?_ | refine pick_df (by first | assumption | omega) ?_ | refine pick_t (by first | rfl | assumption) ?_ | refine pick_f (by first | rfl | assumption) ?_ | refine pick_dt rfl ?_ | refine pick_df (not_not_intro rfl) ?_
      refine cond_split (fun h3 => ?_) (fun h3 => ?_)
      · first | refine pick_dt (by first | assumption | omega) ?_ | refine pick_df (by first | assumption | omega) ?_ | refine pick_t (by first | rfl | assumption) ?_ | refine pick_f (by first | rfl | assumption) ?_ | refine pick_dt rfl ?_ | refine pick_df (not_not_intro rfl) ?_
        first | refine pick_dt (by first | assumption | omega) ?_ | refine pick_df (by first | assumption | omega) ?_ | refine pick_t (by first | rfl | assumption) ?_ | refine pick_f (by first | rfl | assumption) ?_ | refine pick_dt rfl ?_ | refine pick_df (not_not_intro rfl) ?_
        exact leaf _ hS true ⟨fun _ hd => h3 hd.2.2.2.2.1, fun _ => rfl⟩
      have h3 := Classical.not_not.1 h3
      have h1' := h1
      have h2' := h2
      unfold in40 at h1' h2'
      first | refine valP_ok (fa28_1 _ _) ?_ | refine valP_ok (fao28_1 _ _ _) ?_
      first | refine valP_ok (ld3 (hS.cell 0 rfl rfl)) ?_ | refine valP_ok (ld3 (hS.cell 1 rfl rfl)) ?_ | refine valP_ok (ld3 (hS.cell 2 rfl rfl)) ?_ | refine valP_ok (ld3 (hS.cell 3 rfl rfl)) ?_ | refine valP_ok (ld3 (hS.cell 4 rfl rfl)) ?_ | refine valP_ok (ld3 (hS.cell 5 rfl rfl)) ?_ | refine valP_ok (ld3 (hS.cell 6 rfl rfl)) ?_ | refine valP_ok (ld3 (hS.cell 7 rfl rfl)) ?_ | refine valP_ok (ld3 (by assumption)) ?_
      first | refine valP_ok (fa28_2 _ _) ?_ | refine valP_ok (fao28_2 _ _ _) ?_
      first | refine valP_ok (ld3 (hS.cell 0 rfl rfl)) ?_ | refine valP_ok (ld3 (hS.cell 1 rfl rfl)) ?_ | refine valP_ok (ld3 (hS.cell 2 rfl rfl)) ?_ | refine valP_ok (ld3 (hS.cell 3 rfl rfl)) ?_ | refine valP_ok (ld3 (hS.cell 4 rfl rfl)) ?_ | refine valP_ok (ld3 (hS.cell 5 rfl rfl)) ?_ | refine valP_ok (ld3 (hS.cell 6 rfl rfl)) ?_ | refine valP_ok (ld3 (hS.cell 7 rfl rfl)) ?_ | refine valP_ok (ld3 (by assumption)) ?_
      refine valP_ok (add_ok _ _ _ (by omega) (by omega) _) ?_
      first | refine valP_ok (fa28_3 _ _) ?_ | refine valP_ok (fao28_3 _ _ _) ?_
      first | refine valP_ok (ld3 (hS.cell 0 rfl rfl)) ?_ | refine valP_ok (ld3 (hS.cell 1 rfl rfl)) ?_ | refine valP_ok (ld3 (hS.cell 2 rfl rfl)) ?_ | refine valP_ok (ld3 (hS.cell 3 rfl rfl)) ?_ | refine valP_ok (ld3 (hS.cell 4 rfl rfl)) ?_ | refine valP_ok (ld3 (hS.cell 5 rfl rfl)) ?_ | refine valP_ok (ld3 (hS.cell 6 rfl rfl)) ?_ | refine valP_ok (ld3 (hS.cell 7 rfl rfl)) ?_ | refine valP_ok (ld3 (by assumption)) ?_
      refine valP_ok (gtr_ok _ _ _ _ _ _ _) ?_
      first | refine pick_dt (by first | assumption | omega) ?_ | refine pick_df (by first | assumption | omega) ?_ | refine pick_t (by first | rfl | assumption) ?_ | refine pick_f (by first | rfl | assumption) ?_ | refine pick_dt rfl ?_ | refine pick_df (not_not_intro rfl) ?_
      refine cond_split (fun h4 => ?_) (fun h4 => ?_)
      · first | refine pick_dt (by first | assumption | omega) ?_ | refine pick_df (by first | assumption | omega) ?_ | refine pick_t (by first | rfl | assumption) ?_ | refine pick_f (by first | rfl | assumption) ?_ | refine pick_dt rfl ?_ | refine pick_df (not_not_intro rfl) ?_
        exact leaf _ hS true ⟨fun _ hd => (by have := hd.2.2.2.2.2.1; omega), fun _ => rfl⟩
      first | refine valP_ok (fa28_4 _ _) ?_ | refine valP_ok (fao28_4 _ _ _) ?_
      first | refine valP_ok (ld26 (hS.cell 0 rfl rfl)) ?_ | refine valP_ok (ld26 (hS.cell 1 rfl rfl)) ?_ | refine valP_ok (ld26 (hS.cell 2 rfl rfl)) ?_ | refine valP_ok (ld26 (hS.cell 3 rfl rfl)) ?_ | refine valP_ok (ld26 (hS.cell 4 rfl rfl)) ?_ | refine valP_ok (ld26 (hS.cell 5 rfl rfl)) ?_ | refine valP_ok (ld26 (hS.cell 6 rfl rfl)) ?_ | refine valP_ok (ld26 (hS.cell 7 rfl rfl)) ?_ | refine valP_ok (ld26 (by assumption)) ?_
      refine builtin_ok (len26 _) ?_
      refine valP_ok (gtr_ok _ _ _ _ _ _ _) ?_
      first | refine pick_dt (by first | assumption | omega) ?_ | refine pick_df (by first | assumption | omega) ?_ | refine pick_t (by first | rfl | assumption) ?_ | refine pick_f (by first | rfl | assumption) ?_ | refine pick_dt rfl ?_ | refine pick_df (not_not_intro rfl) ?_
      refine leaf _ hS _ ?_
      rw [decide_eq_true_eq]
      exact ⟨fun h hd => (by have := hd.2.2.2.2.2.2; omega), fun h => Classical.byContradiction fun hn => h ⟨hg, hm', h1, h2, h3, by omega, by omega⟩⟩
end
end
section
variable {w0 w : World} {F : List Nat} {L : List Res} {K : Value → World → Prop}
theorem set_at {k : Nat} (h : k < L.length) (r : Res) : (L.set k r)[k]? = some r := by simp [h]
theorem ssA {b tt : Nat} {x : Ce} {a : Ag} (k : Nat) (hS : St w0 F w L) (hk : L[k]? = some (Res.cells b tt (encC x))) (h : ∀ w', St w0 F w' (L.set k (Res.cells b tt (encC ⟨x.key, x.start, a⟩))) → K undef w') : unitP Try.prog (Instr.storeAt 65 (.pointer (some ⟨b, 2, none⟩)) (agv a)) w K := by
  obtain ⟨hkl, _⟩ := List.getElem?_eq_some_iff.1 hk
  have hl : ∀ r : Res, k < (L.set k r).length := fun r => by rw [List.length_set]; exact hkl
  have hf := fun i => hS.frozen (i := i) k hk
  have s1 := hS.set (i := 2) k (.int .i64 a.count) hk
  have s2 := s1.set (i := 3) k (.int .i64 a.sum) (set_at hkl _)
  simp only [List.set_set] at s2
  have s3 := s2.set (i := 4) k (.int .i64 a.mn) (set_at hkl _)
  simp only [List.set_set] at s3
  have s4 := s3.set (i := 5) k (.int .i64 a.mx) (set_at hkl _)
  simp only [List.set_set] at s4
  have s5 := s4.set (i := 6) k (.int .i64 a.h0) (set_at hkl _)
  simp only [List.set_set] at s5
  have s6 := s5.set (i := 7) k (.int .i64 a.h1) (set_at hkl _)
  simp only [List.set_set] at s6
  have s7 := s6.set (i := 8) k (.int .i64 a.h2) (set_at hkl _)
  simp only [List.set_set] at s7
  have s8 := s7.set (i := 9) k (.int .i64 a.h3) (set_at hkl _)
  simp only [List.set_set] at s8
  have s9 := s8.set (i := 10) k (.int .i64 a.re) (set_at hkl _)
  simp only [List.set_set] at s9
  have s10 := s9.set (i := 11) k (.int .i64 a.im) (set_at hkl _)
  simp only [List.set_set, List.set_cons_zero, List.set_cons_succ] at s10
  exact unitP_ok (st65 (hS.cell k hk (i := 2) rfl) (hS.cell k hk (i := 2 + 1) rfl) (hS.cell k hk (i := 2 + 2) rfl) (hS.cell k hk (i := 2 + 3) rfl) (hS.cell k hk (i := 2 + 4) rfl) (hS.cell k hk (i := 2 + 5) rfl) (hS.cell k hk (i := 2 + 6) rfl) (hS.cell k hk (i := 2 + 7) rfl) (hS.cell k hk (i := 2 + 8) rfl) (hS.cell k hk (i := 2 + 9) rfl)
    (hf _) rfl (hf _) rfl (hf _) rfl (hf _) rfl (hf _) rfl (hf _) rfl (hf _) rfl (hf _) rfl (hf _) rfl (hf _) rfl) (h _ s10)
def PutR (n : Nat) (w0 : World) (F : List Nat) (L : List Res) (v : Value) (w : World) : Prop := ∃ A c, ∃ l : List Ce, v = .slice A l.length c ∧ l.length ≤ n + 1 ∧ (∀ x ∈ l, CeOk x) ∧ St w0 F w (cRow A c l :: L)
section
variable {l out : List Ce} {A A2 : Option Addr} {c c2 b9 : Nat} {x : Ce} {v : Int}
theorem put_6 {j : Nat} (hE : Sl w0 F L A c l) (hl : l.length ≤ 2000000) (hok : ∀ x ∈ l, CeOk x) (hv : I64 v) (hx : CeOk x) (ho : ∀ x ∈ out, CeOk x) (hj : j ≤ l.length) (hoj : out.length ≤ j) (hS : St w0 F w (cRow A2 c2 out :: Res.cells b9 67 (encC x) :: L)) :
    m46_6 (PutR l.length w0 F L) (.slice A l.length c) (.int .i64 v) (.pointer (some ⟨b9, 0, none⟩)) (.slice A2 out.length c2) (.int .i64 (j : Int)) w := by
  have hcap := hE.cap
  unfold m46_6
  first | refine valP_ok (fa67_2 _ _) ?_ | refine valP_ok (fao67_2 _ _ _) ?_
  refine valP_ok (ldA 1 hS rfl) ?_
  refine callR (by kernel_rfl) (add5_ret hx.2.2 hv hS) ?_
  rintro _ w ⟨⟨a, rfl, ha⟩, hS⟩
  first | refine valP_ok (fa67_2 _ _) ?_ | refine valP_ok (fao67_2 _ _ _) ?_
  refine ssA 1 hS rfl ?_
  intro w hS
  simp only [List.set_cons_zero, List.set_cons_succ] at hS
  have hx2 : CeOk ⟨x.key, x.start, a⟩ := ⟨hx.1, hx.2.1, ha⟩
  generalize (⟨x.key, x.start, a⟩ : Ce) = x2 at hS hx2
  unfold m46_7
  refine valP_ok (ldK 1 hS rfl) ?_
  refine newslice_ok (bs26_1 _) hS ?_
  intro b62 w hS
  refine append_one1 (enc := encC) 0 x2 sl26 encC_len encC_one (by unfold maxLen; omega) (by omega) hS rfl ?_
  intro A3 c3 w hS
  simp only [List.set_cons_zero, List.set_cons_succ] at hS
  unfold m46_8
  refine valP_ok (so26 (by omega) (by omega) _) ?_
  rw [show l.length - j = (l.drop j).length from List.length_drop.symm]
  have hol : (out ++ [x2]).length = out.length + 1 := by simp
  have hdl : (l.drop j).length = l.length - j := List.length_drop
  refine append_anyS (enc := encC) (l0 := out ++ [x2]) (l := l.drop j) 0 sl26 encC_len encC_one (by unfold maxLen; omega) (by omega) hS rfl ((((hE.cons _).cons _).rd.rd hS).dropS encC_len hj hcap) (fun h => ?_) ?_
  · split at h
    · omega
    · have hA : A = none := by
        cases A with
        | none => rfl
        | some a => cases h
      have := hE.nul hA
      omega
  intro A4 c4 w hS
  simp only [List.set_cons_zero, List.set_cons_succ] at hS
  unfold m46_9 m46_10
  refine ⟨A4, c4, _, rfl, by rw [List.length_append]; omega, fun y hy => ?_, St.mid (A := [_]) (B := [_]) hS⟩
  rcases List.mem_append.1 hy with h | h
  · rcases List.mem_append.1 h with h | h
    · exact ho y h
    · obtain rfl := List.mem_singleton.1 h
      exact hx2
  · exact hok y (List.mem_of_mem_drop h)
theorem put_5 {j : Nat} (hE : Sl w0 F L A c l) (hl : l.length ≤ 2000000) (hok : ∀ x ∈ l, CeOk x) (hv : I64 v) (hx : CeOk x) (ho : ∀ x ∈ out, CeOk x) (hj : j ≤ l.length) (hoj : out.length ≤ j) (hS : St w0 F w (cRow A2 c2 out :: Res.cells b9 67 (encC x) :: L)) :
    m46_5 (PutR l.length w0 F L) (.slice A l.length c) (.int .i64 v) (.pointer (some ⟨b9, 0, none⟩)) (.slice A2 out.length c2) (.int .i64 (j : Int)) w := by
  have hE2 := (hE.cons (Res.cells b9 67 (encC x))).cons (cRow A2 c2 out)
  have leaf : ∀ (t : Bool) w, (t = true → j < l.length) → St w0 F w (cRow A2 c2 out :: Res.cells b9 67 (encC x) :: L) → m46_11 (PutR l.length w0 F L) (.slice A l.length c) (.int .i64 v) (.pointer (some ⟨b9, 0, none⟩)) (.slice A2 out.length c2) (.int .i64 (j : Int)) (.bool t) w := fun t w ht hS => by
    unfold m46_11
    cases t with
    | true =>
      have hjl := ht rfl
      have hcj := hok _ (List.getElem_mem hjl)
      obtain ⟨gb, o, rfl⟩ := (hE2.rd.rd hS).some_ (by omega) (by omega)
      refine cond_t rfl ?_
      refine valP_ok (ix26 hjl _) ?_
      refine valP_ok (ldC (hE2.rd.rd hS) hjl) ?_
      first | refine ss67 0 hS rfl rfl rfl rfl rfl rfl rfl rfl rfl rfl rfl rfl rfl ?_ | refine ss67 1 hS rfl rfl rfl rfl rfl rfl rfl rfl rfl rfl rfl rfl rfl ?_ | refine ss67 2 hS rfl rfl rfl rfl rfl rfl rfl rfl rfl rfl rfl rfl rfl ?_ | refine ss67 3 hS rfl rfl rfl rfl rfl rfl rfl rfl rfl rfl rfl rfl rfl ?_ | refine ss67 4 hS rfl rfl rfl rfl rfl rfl rfl rfl rfl rfl rfl rfl rfl ?_ | refine ss67 5 hS rfl rfl rfl rfl rfl rfl rfl rfl rfl rfl rfl rfl rfl ?_ | refine ss67 6 hS rfl rfl rfl rfl rfl rfl rfl rfl rfl rfl rfl rfl rfl ?_ | refine ss67 7 hS rfl rfl rfl rfl rfl rfl rfl rfl rfl rfl rfl rfl rfl ?_
      intro w hS
      simp only [List.set_cons_zero, List.set_cons_succ] at hS
      unfold m46_12
      refine valP_ok (add_ok _ _ _ (by omega) (by omega) _) ?_
      exact put_6 (x := l[j]) (j := j + 1) hE hl hok hv hcj ho (by omega) (by omega) hS
    | false =>
      refine cond_f rfl ?_
      exact put_6 hE hl hok hv hx ho hj hoj hS
  unfold m46_5
  refine drawn_ok hS ?_
  intro w hS
  refine builtinS_ok (len26 _) ?_
  refine valS_ok (lss_ok _ _ _ _ _ _ _) ?_
  refine cond_split (fun h => ?_) (fun h => ?_)
  · have hjl : j < l.length := by omega
    obtain ⟨gb, o, rfl⟩ := (hE2.rd.rd hS).some_ (by omega) (by omega)
    refine valS_ok (ldK 1 hS rfl) ?_
    refine valS_ok (ix26 hjl _) ?_
    refine valS_ok (ldC (hE2.rd.rd hS) hjl) ?_
    refine callR (by kernel_rfl) (ahead_ret hS) ?_
    rintro _ w ⟨rfl, hS⟩
    first | refine valP_ok (not_ok _ _) ?_ | refine valP_ok (notb_ok _ _) ?_
    first | refine pick_dt (by first | assumption | omega) ?_ | refine pick_df (by first | assumption | omega) ?_ | refine pick_t (by first | rfl | assumption) ?_ | refine pick_f (by first | rfl | assumption) ?_ | refine pick_dt rfl ?_ | refine pick_df (not_not_intro rfl) ?_
    exact leaf _ _ (fun _ => hjl) hS
  · first | refine pick_dt (by first | assumption | omega) ?_ | refine pick_df (by first | assumption | omega) ?_ | refine pick_t (by first | rfl | assumption) ?_ | refine pick_f (by first | rfl | assumption) ?_ | refine pick_dt rfl ?_ | refine pick_df (not_not_intro rfl) ?_
    exact leaf _ _ (fun h => (by cases h)) hS
theorem put46_ret {key start : Int} (hE : Sl w0 F L A c l) (hl : l.length ≤ 2000000) (hok : ∀ x ∈ l, CeOk x) (hv : I64 v) (hk : I64 key) (hst : I64 start) (hS : St w0 F w L) : Ret Try.prog 46 #[.slice A l.length c, .int .i64 key, .int .i64 start, .int .i64 v] w (PutR l.length w0 F L) := by
  refine s46 _ _ _ _ ?_
  unfold m46
  unfold m46_0
  unfold m46_1
  refine valP_ok (bd67_0_1 rfl rfl _) ?_
  refine new_ok (al67 _) hS ?_
  intro b9 w hS
  first | refine ss67 0 hS rfl rfl rfl rfl rfl rfl rfl rfl rfl rfl rfl rfl rfl ?_ | refine ss67 1 hS rfl rfl rfl rfl rfl rfl rfl rfl rfl rfl rfl rfl rfl ?_ | refine ss67 2 hS rfl rfl rfl rfl rfl rfl rfl rfl rfl rfl rfl rfl rfl ?_ | refine ss67 3 hS rfl rfl rfl rfl rfl rfl rfl rfl rfl rfl rfl rfl rfl ?_ | refine ss67 4 hS rfl rfl rfl rfl rfl rfl rfl rfl rfl rfl rfl rfl rfl ?_ | refine ss67 5 hS rfl rfl rfl rfl rfl rfl rfl rfl rfl rfl rfl rfl rfl ?_ | refine ss67 6 hS rfl rfl rfl rfl rfl rfl rfl rfl rfl rfl rfl rfl rfl ?_ | refine ss67 7 hS rfl rfl rfl rfl rfl rfl rfl rfl rfl rfl rfl rfl rfl ?_
  intro w hS
  simp only [List.set_cons_zero, List.set_cons_succ] at hS
  have hx : CeOk ⟨key, start, zeroAg⟩ := ⟨hk, hst, zeroAg_ok⟩
  have hS : St w0 F w (Res.cells b9 67 (encC ⟨key, start, zeroAg⟩) :: L) := hS
  generalize (⟨key, start, zeroAg⟩ : Ce) = x at hS hx
  unfold m46_2 m46_3 m46_4
  refine loop_in (fun u w' => ∃ (i : Nat) (A2 : Option Addr) (c2 : Nat) (out : List Ce), u = (.slice A2 out.length c2, .int .i64 (i : Int)) ∧ i ≤ l.length ∧ out.length ≤ i ∧ (∀ x ∈ out, CeOk x) ∧ St w0 F w' (cRow A2 c2 out :: Res.cells b9 67 (encC x) :: L)) (fun u _ => l.length - (intOf u.2).toNat) ⟨0, none, 0, [], rfl, by omega, by simp, fun x h => (by cases h), hS.row_nil 67 12⟩ ?_
  clear hS
  rintro u w ⟨i, A2, c2, out, rfl, hi, hoi, ho, hS⟩
  simp only
  have hE2 := (hE.cons (Res.cells b9 67 (encC x))).cons (cRow A2 c2 out)
  unfold m46_13
  refine drawn_ok hS ?_
  intro w hS
  refine builtinS_ok (len26 _) ?_
  refine valS_ok (lss_ok _ _ _ _ _ _ _) ?_
  refine cond_split (fun h => ?_) (fun h => ?_)
  · have hil : i < l.length := by omega
    have hci := hok _ (List.getElem_mem hil)
    obtain ⟨gb, o, rfl⟩ := (hE2.rd.rd hS).some_ (by omega) (by omega)
    refine valS_ok (ix26 hil _) ?_
    refine valS_ok (ldC (hE2.rd.rd hS) hil) ?_
    refine valS_ok (ldK 1 hS rfl) ?_
    refine callR (by kernel_rfl) (ahead_ret hS) ?_
    rintro _ w ⟨rfl, hS⟩
    first | refine pick_dt (by first | assumption | omega) ?_ | refine pick_df (by first | assumption | omega) ?_ | refine pick_t (by first | rfl | assumption) ?_ | refine pick_f (by first | rfl | assumption) ?_ | refine pick_dt rfl ?_ | refine pick_df (not_not_intro rfl) ?_
    unfold m46_16
    refine cond_split (fun h1 => ?_) (fun h1 => ?_)
    · unfold m46_14
      refine valP_ok (ix26 hil _) ?_
      refine valP_ok (ldC (hE2.rd.rd hS) hil) ?_
      refine newslice_ok (bs26_1 _) hS ?_
      intro b32 w hS
      refine append_one1 (enc := encC) 0 l[i] sl26 encC_len encC_one (by unfold maxLen; omega) (by omega) hS rfl ?_
      intro A3 c3 w hS
      simp only [List.set_cons_zero, List.set_cons_succ] at hS
      unfold m46_15
      refine valP_ok (add_ok _ _ _ (by omega) (by omega) _) ?_
      refine ⟨⟨i + 1, A3, c3, out ++ [l[i]], rfl, by omega, by rw [List.length_append]; simp; omega, fun y hy => ?_, hS⟩, by simp [intOf]; omega⟩
      rcases List.mem_append.1 hy with h | h
      · exact ho y h
      · obtain rfl := List.mem_singleton.1 h
        exact hci
    · exact put_5 hE hl hok hv hx ho hi hoi hS
  · first | refine pick_dt (by first | assumption | omega) ?_ | refine pick_df (by first | assumption | omega) ?_ | refine pick_t (by first | rfl | assumption) ?_ | refine pick_f (by first | rfl | assumption) ?_ | refine pick_dt rfl ?_ | refine pick_df (not_not_intro rfl) ?_
    unfold m46_16
    refine cond_f rfl ?_
    exact put_5 hE hl hok hv hx ho hi hoi hS
end
end
end Go.Proofs.Ytnhgdngbdoifnaa.M
